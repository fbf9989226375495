-- texts of this session, and of the kit's print, cut to what the claim leans on
import Derived.Test.YtgclcjohnnpejaaDoorMa4
import Derived.Test.YtgclcjohnnpejaaDoorMa5
import Derived.Test.YtgclcjohnnpejaaDoorMa2
section
namespace Go.Proofs.YtgclcjohnnpejaaDoor.Pr
open Go.RowKit Go.Proofs.YtgclcjohnnpejaaDoorW.PrintWords Go.Proofs.YtgclcjohnnpejaaDoorW.PrintLast Go.Proofs.YtgclcjohnnpejaaDoorW.PrintMore
attribute [local go_sem] max2_int min2_int max_two min_two max_three min_three max_four min_four
set_option linter.unusedVariables false
set_option linter.unusedSimpArgs false
theorem zL_0 {P : Prop} (h : P := by (with_reducible repeat (first | refine blk_drewN ?_ _ | refine blk_drew ?_ | refine blk_alloc ?_ _)); exact BK232.out) : P := h
theorem zL_1 {P : Prop} (h : P := by (with_reducible repeat (first | refine blk_drewN ?_ _ | refine blk_drew ?_ | refine blk_alloc ?_ _)); exact BK233.out) : P := h
theorem zL_2 {P : Prop} (h : P := by repeat (first | (with_reducible first | exact HB.out | apply below_alloc | apply pw_below_drewN | apply below_drew1 | refine below_set ?_ GE232.out | refine below_set ?_ GE233.out | refine below_set ?_ GE245.out) | exact HB.out)) : P := h
theorem zL_3 {P : Prop} (h : P := by repeat (first | (with_reducible first | exact HB.out | apply below_alloc | apply pw_below_drewN | apply below_drew1 | refine below_set ?_ GE232.out | refine below_set ?_ GE233.out) | exact HB.out)) : P := h
theorem zL_4 {P : Prop} (h : P := by (with_reducible repeat (first | refine blk_drewN ?_ _ | refine blk_drew ?_ | refine blk_alloc ?_ _)); exact BK245.out) : P := h
theorem zL_5 {P : Prop} (h : P := by repeat (first | (with_reducible first | exact HB.out | apply below_alloc | apply pw_below_drewN | apply below_drew1 | refine below_set ?_ GE232.out | refine below_set ?_ GE233.out | refine below_set ?_ GE245.out | refine below_set ?_ GE255.out) | exact HB.out)) : P := h
theorem zL_6 {P : Prop} (h : P := by (try simp only [List.map_toArray, List.map_cons, List.map_nil]); first | done | rfl | (simp only [List.length_drop, List.length_take]; rfl)) : P := h
theorem zL_7 {P : Prop} (h : P := by repeat (first | (with_reducible first | exact HB.out | apply below_alloc | apply pw_below_drewN | apply below_drew1 | refine below_set ?_ GE232.out) | exact HB.out)) : P := h
theorem zL_8 {P : Prop} (h : P := by rw [hg]; exact Nat.ne_of_lt (blk_lt (g := gb232) (o := .cells #[.string a0_0, .string a0_1, .int .i64 a0_2] 47 (0, 0)) zL_0)) : P := h
theorem zL_9 {P : Prop} (h : P := by rw [hg]; exact Nat.ne_of_gt (blk_lt (g := gb232) (o := .cells #[.string a0_0, .string a0_1, .int .i64 a0_2] 47 (0, 0)) zL_0)) : P := h
theorem zL_10 {P : Prop} (h : P := by repeat (first | (with_reducible first | exact HB.out | apply below_alloc | apply pw_below_drewN | apply below_drew1) | exact HB.out)) : P := h
theorem zL_11 {P : Prop} (h : P := by (with_reducible repeat (first | refine blk_drewN ?_ _ | refine blk_drew ?_ | refine blk_alloc ?_ _)); exact BK255.out) : P := h
theorem zL_12 {P : Prop} (h : P := by rw [hg]; exact Nat.ne_of_lt (blk_lt (g := gb233) (o := .cells #[.string a1_0, .string a1_1] 35 (0, 0)) zL_1)) : P := h
theorem zL_13 {P : Prop} (h : P := by rw [hg]; exact Nat.ne_of_gt (blk_lt (g := gb233) (o := .cells #[.string a1_0, .string a1_1] 35 (0, 0)) zL_1)) : P := h
theorem zL_14 {P : Prop} (h : P := by kernel_rfl) : P := h
theorem zL_15 {P : Prop} (h : P := by simp only [putAll, Act.put, List.setIfInBounds_toArray, List.set_cons_zero, List.set_cons_succ]) : P := h
theorem zL_16 {P : Prop} (h : P := by rw [hg]; exact Nat.ne_of_lt (blk_lt (g := gb245) (o := .cells #[.string t241, .string t242, .int .i64 t243] 42 (0, 0)) zL_4)) : P := h
theorem zL_17 {P : Prop} (h : P := by rw [hg]; exact Nat.ne_of_gt (blk_lt (g := gb245) (o := .cells #[.string t241, .string t242, .int .i64 t243] 42 (0, 0)) zL_4)) : P := h
theorem zL_18 {P : Prop} (h : P := by rw [hg]; exact (below_size zL_3)) : P := h
theorem zL_19 {P : Prop} (h : P := by rw [hg]; exact (below_size zL_2)) : P := h
def laws_FnExactAppendRecord.f (k : Nat) (a0_0 : ByteArray) (a0_1 : ByteArray) (a0_2 : Int) (a1_0 : ByteArray) (a1_1 : ByteArray) : Option (Bool) := (laws_szLog.f a0_0 a0_1 a0_2 1048576).bind fun t234 => (if t234 < 0 then (some true) else ((laws_szLogRecord.f a1_0 a1_1 t234).bind fun t235 => (if t235 < 0 then (some true) else ((laws_toLog.f a0_0 a0_1 a0_2).bind fun bt236 => ((laws_toLogRecord.f a1_0 a1_1).bind fun bt239 => ((spec_AppendRecord.f k bt236.1 bt236.2.1 bt236.2.2 bt239.1 bt239.2).bind fun bt241 => ((laws_toLog.f a0_0 a0_1 a0_2).bind fun bt246 => ((laws_toLogRecord.f a1_0 a1_1).bind fun bt249 => ((impl_AppendRecord.f k bt246.1 bt246.2.1 bt246.2.2 bt249.1 bt249.2).bind fun bt251 => ((laws_eqLog.f bt251.1 bt251.2.1 bt251.2.2.1 bt241.1 bt241.2.1 bt241.2.2.1).bind fun t256 => (if t256 = true then (if bt251.2.2.2 = bt241.2.2.2 then (some true) else (some false)) else (some false))))))))))))
theorem laws_FnExactAppendRecord.mono : ∀ a0 a1 a2 a3 a4 k, LeO (laws_FnExactAppendRecord.f k a0 a1 a2 a3 a4) (laws_FnExactAppendRecord.f (k + 1) a0 a1 a2 a3 a4) := by
  intro a0 a1 a2 a3 a4 k
  unfold laws_FnExactAppendRecord.f
  repeat' first
      | (with_reducible exact impl_AppendRecord.mono _ _ _ _ _ _)
      | (with_reducible exact spec_AppendRecord.mono _ _ _ _ _ _)
      | (with_reducible exact LeO.refl _)
      | (with_reducible exact LeO.none _)
      | (with_reducible refine LeO.ite ?_ ?_)
      | (with_reducible refine LeO.bind ?_ (fun _ => ?_))
      | exact impl_AppendRecord.mono _ _ _ _ _ _
      | exact spec_AppendRecord.mono _ _ _ _ _ _
      | exact LeO.none _
      | refine LeO.ite ?_ ?_
      | refine LeO.bind ?_ (fun _ => ?_)
def laws_FnExactAppendRecord.T8 : Bool × List (List Nat × List Nat) := (true, [([], []), ([0], [0]), ([], []), ([2, 1], [2]), ([1, 3, 3], [1, 3]), ([4], [4]), ([5], [5]), ([5], [5]), ([], []), ([8, 6, 4, 0, 1, 2, 3, 4, 5, 6, 8], [6, 8]), ([7, 9, 0, 1, 2, 3, 4, 5, 6, 7, 8, 9], [7])])
def laws_FnExactAppendRecord.B8 : List Nat := [0, 1, 0, 7, 15, 31, 63, 63, 0, 383, 1023]
theorem laws_FnExactAppendRecord.tab8 : rtab .any (opsOf Tryd.f9 8) = laws_FnExactAppendRecord.T8 := by kernel_rfl
theorem laws_FnExactAppendRecord.bits8 : waitsOk laws_FnExactAppendRecord.T8.2 laws_FnExactAppendRecord.B8 = true := by kernel_rfl
def laws_FnExactAppendRecord.T9 : Bool × List (List Nat × List Nat) := (true, [([], []), ([0], [0]), ([], []), ([2, 1], [2]), ([1, 3, 3], [1, 3]), ([4], [4]), ([5], [5]), ([5], [5]), ([], []), ([8, 6, 4, 0, 1, 2, 3, 4, 5, 6, 8], [6, 8]), ([7, 9, 0, 1, 2, 3, 4, 5, 6, 7, 8, 9], [7])])
def laws_FnExactAppendRecord.B9 : List Nat := [0, 1, 0, 7, 15, 31, 63, 63, 0, 383, 1023]
theorem laws_FnExactAppendRecord.tab9 : rtab .any (opsOf Tryd.f9 9) = laws_FnExactAppendRecord.T9 := by kernel_rfl
theorem laws_FnExactAppendRecord.bits9 : waitsOk laws_FnExactAppendRecord.T9.2 laws_FnExactAppendRecord.B9 = true := by kernel_rfl
set_option maxHeartbeats 8000000 in
set_option maxRecDepth 100000 in
theorem laws_FnExactAppendRecord.calls (k : Nat) (a0_0 : ByteArray) (a0_1 : ByteArray) (a0_2 : Int) (a1_0 : ByteArray) (a1_1 : ByteArray) (r : Bool) (w : World) (hgl : Glob w) (hr : r = true) (h : laws_FnExactAppendRecord.f k a0_0 a0_1 a0_2 a1_0 a1_1 = some r) :
    Calls Tryd.prog 9 #[.agg #[.string a0_0, .string a0_1, .int .i64 a0_2], .agg #[.string a1_0, .string a1_1]] w fun e w' => e = .returned (.bool r) ∧ Below w.heap.size w w' := by
  have hu47 := Tryd.underlying47
  have hu35 := Tryd.underlying35
  have hu42 := Tryd.underlying42
  have HB := Aside0.mk (Below.refl w.heap.size w)
  have HGL := Aside0.mk hgl
  clear hgl
  have H : ((laws_szLog.f a0_0 a0_1 a0_2 1048576).bind fun t234 => (if t234 < 0 then (some true) else ((laws_szLogRecord.f a1_0 a1_1 t234).bind fun t235 => (if t235 < 0 then (some true) else ((laws_toLog.f a0_0 a0_1 a0_2).bind fun bt236 => ((laws_toLogRecord.f a1_0 a1_1).bind fun bt239 => ((spec_AppendRecord.f k bt236.1 bt236.2.1 bt236.2.2 bt239.1 bt239.2).bind fun bt241 => ((laws_toLog.f a0_0 a0_1 a0_2).bind fun bt246 => ((laws_toLogRecord.f a1_0 a1_1).bind fun bt249 => ((impl_AppendRecord.f k bt246.1 bt246.2.1 bt246.2.2 bt249.1 bt249.2).bind fun bt251 => ((laws_eqLog.f bt251.1 bt251.2.1 bt251.2.2.1 bt241.1 bt241.2.1 bt241.2.2.1).bind fun t256 => (if t256 = true then (if bt251.2.2.2 = bt241.2.2.2 then (some true) else (some false)) else (some false))))))))))))) = some r := h
  clear h
  replace H := Option.bind_eq_some_iff.mp H
  obtain ⟨t234, A30, H⟩ := H
  replace H : (if t234 < 0 then (some true) else ((laws_szLogRecord.f a1_0 a1_1 t234).bind fun t235 => (if t235 < 0 then (some true) else ((laws_toLog.f a0_0 a0_1 a0_2).bind fun bt236 => ((laws_toLogRecord.f a1_0 a1_1).bind fun bt239 => ((spec_AppendRecord.f k bt236.1 bt236.2.1 bt236.2.2 bt239.1 bt239.2).bind fun bt241 => ((laws_toLog.f a0_0 a0_1 a0_2).bind fun bt246 => ((laws_toLogRecord.f a1_0 a1_1).bind fun bt249 => ((impl_AppendRecord.f k bt246.1 bt246.2.1 bt246.2.2 bt249.1 bt249.2).bind fun bt251 => ((laws_eqLog.f bt251.1 bt251.2.1 bt251.2.2.1 bt241.1 bt241.2.1 bt241.2.2.1).bind fun t256 => (if t256 = true then (if bt251.2.2.2 = bt241.2.2.2 then (some true) else (some false)) else (some false)))))))))))) = some r := H
  have A3 := Aside0.mk A30
  clear A30
  by_cases c4 : t234 < 0
  · rw [if_pos c4] at H
    have c4b0 : decide (t234 < 0) = true := decide_eq_true c4
    clear c4
    obtain rfl := Option.some.inj H; clear hr
    go_enter Tryd.func9, Tryd.ntmps9
    go_wp2_with (first | ((with_reducible refine gate_dst (N := 2) rfl ?_); refine box_event ?hg (N := 2) ?hd (cs := #[.string a0_0, .string a0_1, .int .i64 a0_2]) (t := 47) ?hr ?_; (case hd => rfl); (case hg => rfl); (case hr => first | (go_simp; done) | (go_simp; rfl)); intro gb232 hg w5 hbox hb; have n0_ := Aside0.mk (below_step zL_10 hb); have n1_ := Aside0.mk (hbox); have n2_ := Aside0.mk ((by rw [hg]; exact (below_size zL_10) : w.heap.size ≤ gb232)); have n3_ := Aside0.mk ((by rw [hg]; exact (below_size zL_10) : w.heap.size ≤ gb232)); clear HB; have HB := n0_; have BK232 := n1_; have GW232 := n2_; have GE232 := n3_; clear n0_ n1_ n2_ n3_; clear hb hbox hg) | ((with_reducible refine gate_dst (N := 3) rfl ?_); refine box_event ?hg (N := 3) ?hd (cs := #[.string a1_0, .string a1_1]) (t := 35) ?hr ?_; (case hd => rfl); (case hg => rfl); (case hr => first | (go_simp; done) | (go_simp; rfl)); intro gb233 hg w6 hbox hb; have n0_ := Aside0.mk (blk_below (g := gb232) (o := .cells #[.string a0_0, .string a0_1, .int .i64 a0_2] 47 (0, 0)) zL_0 hb); have n1_ := Aside0.mk (below_step zL_7 hb); have n2_ := Aside0.mk (hbox); have n3_ := Aside0.mk ((by rw [hg]; exact (below_size zL_7) : w.heap.size ≤ gb233)); have n4_ := Aside0.mk ((by rw [hg]; exact (below_size zL_7) : w.heap.size ≤ gb233)); have n5_ := Aside0.mk ((zL_8 : gb232 ≠ gb233)); have n6_ := Aside0.mk ((zL_9 : gb233 ≠ gb232)); clear BK232; clear HB; have BK232 := n0_; have HB := n1_; have BK233 := n2_; have GW233 := n3_; have GE233 := n4_; have NB232_233 := n5_; have NB233_232 := n6_; clear n0_ n1_ n2_ n3_ n4_ n5_ n6_; clear hb hbox hg; have hnb7 := NB232_233.out; have hnc7 := NB233_232.out; have hcz8_0 : w6.cell? ⟨gb232, 0, none⟩ = some (.string a0_0) := (blk_cell BK232.out 0).trans rfl; have hcz8_1 : w6.cell? ⟨gb232, 1, none⟩ = some (.string a0_1) := (blk_cell BK232.out 1).trans rfl; have hcz8_2 : w6.cell? ⟨gb232, 2, none⟩ = some (.int .i64 a0_2) := (blk_cell BK232.out 2).trans rfl; have hfz8_0 := blk_frozen BK232.out 0; have hfz8_1 := blk_frozen BK232.out 1; have hfz8_2 := blk_frozen BK232.out 2) | ((with_reducible refine gate_callee (f := 30) rfl ?_); refine goesL_ (some 12) rfl rfl Tryd.func30 zL_14 rfl #[.agg #[.string a0_0, .string a0_1, .int .i64 a0_2], .int .i64 1048576] rfl zL_6 ?_; (with_reducible refine (laws_szLog.calls a0_0 a0_1 a0_2 1048576 t234 _ A3.out).mono ?_); rintro e w9 ⟨rfl, hb⟩; refine ⟨_, rfl, ?_⟩; have n0_ := Aside0.mk (blk_below (g := gb232) (o := .cells #[.string a0_0, .string a0_1, .int .i64 a0_2] 47 (0, 0)) zL_0 hb); have n1_ := Aside0.mk (blk_below (g := gb233) (o := .cells #[.string a1_0, .string a1_1] 35 (0, 0)) zL_1 hb); have n2_ := Aside0.mk (below_step zL_3 hb); clear BK232; clear BK233; clear HB; have BK232 := n0_; have BK233 := n1_; have HB := n2_; clear n0_ n1_ n2_; (try clear hb); (try clear hb2); (try clear hk); (try clear hi)))
    go_ret
    exact ⟨by first | rfl | (simp [errW_none, errW_some] <;> rfl) | (simp [*, errW_none, errW_some] <;> rfl), zL_3⟩
  · rw [if_neg c4] at H
    have c4b0 : decide (t234 < 0) = false := decide_eq_false c4
    clear c4
    replace H := Option.bind_eq_some_iff.mp H
    obtain ⟨t235, A100, H⟩ := H
    replace H : (if t235 < 0 then (some true) else ((laws_toLog.f a0_0 a0_1 a0_2).bind fun bt236 => ((laws_toLogRecord.f a1_0 a1_1).bind fun bt239 => ((spec_AppendRecord.f k bt236.1 bt236.2.1 bt236.2.2 bt239.1 bt239.2).bind fun bt241 => ((laws_toLog.f a0_0 a0_1 a0_2).bind fun bt246 => ((laws_toLogRecord.f a1_0 a1_1).bind fun bt249 => ((impl_AppendRecord.f k bt246.1 bt246.2.1 bt246.2.2 bt249.1 bt249.2).bind fun bt251 => ((laws_eqLog.f bt251.1 bt251.2.1 bt251.2.2.1 bt241.1 bt241.2.1 bt241.2.2.1).bind fun t256 => (if t256 = true then (if bt251.2.2.2 = bt241.2.2.2 then (some true) else (some false)) else (some false)))))))))) = some r := H
    have A10 := Aside0.mk A100
    clear A100
    by_cases c11 : t235 < 0
    · rw [if_pos c11] at H
      have c11b0 : decide (t235 < 0) = true := decide_eq_true c11
      clear c11
      obtain rfl := Option.some.inj H; clear hr
      go_enter Tryd.func9, Tryd.ntmps9
      go_wp2_with (first | ((with_reducible refine gate_dst (N := 2) rfl ?_); refine box_event ?hg (N := 2) ?hd (cs := #[.string a0_0, .string a0_1, .int .i64 a0_2]) (t := 47) ?hr ?_; (case hd => rfl); (case hg => rfl); (case hr => first | (go_simp; done) | (go_simp; rfl)); intro gb232 hg w12 hbox hb; have n0_ := Aside0.mk (below_step zL_10 hb); have n1_ := Aside0.mk (hbox); have n2_ := Aside0.mk ((by rw [hg]; exact (below_size zL_10) : w.heap.size ≤ gb232)); have n3_ := Aside0.mk ((by rw [hg]; exact (below_size zL_10) : w.heap.size ≤ gb232)); clear HB; have HB := n0_; have BK232 := n1_; have GW232 := n2_; have GE232 := n3_; clear n0_ n1_ n2_ n3_; clear hb hbox hg) | ((with_reducible refine gate_dst (N := 3) rfl ?_); refine box_event ?hg (N := 3) ?hd (cs := #[.string a1_0, .string a1_1]) (t := 35) ?hr ?_; (case hd => rfl); (case hg => rfl); (case hr => first | (go_simp; done) | (go_simp; rfl)); intro gb233 hg w13 hbox hb; have n0_ := Aside0.mk (blk_below (g := gb232) (o := .cells #[.string a0_0, .string a0_1, .int .i64 a0_2] 47 (0, 0)) zL_0 hb); have n1_ := Aside0.mk (below_step zL_7 hb); have n2_ := Aside0.mk (hbox); have n3_ := Aside0.mk ((by rw [hg]; exact (below_size zL_7) : w.heap.size ≤ gb233)); have n4_ := Aside0.mk ((by rw [hg]; exact (below_size zL_7) : w.heap.size ≤ gb233)); have n5_ := Aside0.mk ((zL_8 : gb232 ≠ gb233)); have n6_ := Aside0.mk ((zL_9 : gb233 ≠ gb232)); clear BK232; clear HB; have BK232 := n0_; have HB := n1_; have BK233 := n2_; have GW233 := n3_; have GE233 := n4_; have NB232_233 := n5_; have NB233_232 := n6_; clear n0_ n1_ n2_ n3_ n4_ n5_ n6_; clear hb hbox hg; have hnb14 := NB232_233.out; have hnc14 := NB233_232.out; have hcz15_0 : w13.cell? ⟨gb232, 0, none⟩ = some (.string a0_0) := (blk_cell BK232.out 0).trans rfl; have hcz15_1 : w13.cell? ⟨gb232, 1, none⟩ = some (.string a0_1) := (blk_cell BK232.out 1).trans rfl; have hcz15_2 : w13.cell? ⟨gb232, 2, none⟩ = some (.int .i64 a0_2) := (blk_cell BK232.out 2).trans rfl; have hfz15_0 := blk_frozen BK232.out 0; have hfz15_1 := blk_frozen BK232.out 1; have hfz15_2 := blk_frozen BK232.out 2) | ((with_reducible refine gate_callee (f := 30) rfl ?_); refine goesL_ (some 12) rfl rfl Tryd.func30 zL_14 rfl #[.agg #[.string a0_0, .string a0_1, .int .i64 a0_2], .int .i64 1048576] rfl zL_6 ?_; (with_reducible refine (laws_szLog.calls a0_0 a0_1 a0_2 1048576 t234 _ A3.out).mono ?_); rintro e w16 ⟨rfl, hb⟩; refine ⟨_, rfl, ?_⟩; have n0_ := Aside0.mk (blk_below (g := gb232) (o := .cells #[.string a0_0, .string a0_1, .int .i64 a0_2] 47 (0, 0)) zL_0 hb); have n1_ := Aside0.mk (blk_below (g := gb233) (o := .cells #[.string a1_0, .string a1_1] 35 (0, 0)) zL_1 hb); have n2_ := Aside0.mk (below_step zL_3 hb); clear BK232; clear BK233; clear HB; have BK232 := n0_; have BK233 := n1_; have HB := n2_; clear n0_ n1_ n2_; (try clear hb); (try clear hb2); (try clear hk); (try clear hi); have hcz17_0 : w16.cell? ⟨gb233, 0, none⟩ = some (.string a1_0) := (blk_cell BK233.out 0).trans rfl; have hcz17_1 : w16.cell? ⟨gb233, 1, none⟩ = some (.string a1_1) := (blk_cell BK233.out 1).trans rfl; have hfz17_0 := blk_frozen BK233.out 0; have hfz17_1 := blk_frozen BK233.out 1) | ((with_reducible refine gate_callee (f := 23) rfl ?_); refine goesL_ (some 17) rfl rfl Tryd.func23 zL_14 rfl #[.agg #[.string a1_0, .string a1_1], .int .i64 t234] rfl zL_6 ?_; (with_reducible refine (laws_szLogRecord.calls a1_0 a1_1 t234 t235 _ A10.out).mono ?_); rintro e w18 ⟨rfl, hb⟩; refine ⟨_, rfl, ?_⟩; have n0_ := Aside0.mk (blk_below (g := gb232) (o := .cells #[.string a0_0, .string a0_1, .int .i64 a0_2] 47 (0, 0)) zL_0 hb); have n1_ := Aside0.mk (blk_below (g := gb233) (o := .cells #[.string a1_0, .string a1_1] 35 (0, 0)) zL_1 hb); have n2_ := Aside0.mk (below_step zL_3 hb); clear BK232; clear BK233; clear HB; have BK232 := n0_; have BK233 := n1_; have HB := n2_; clear n0_ n1_ n2_; (try clear hb); (try clear hb2); (try clear hk); (try clear hi)))
      go_ret
      exact ⟨by first | rfl | (simp [errW_none, errW_some] <;> rfl) | (simp [*, errW_none, errW_some] <;> rfl), zL_3⟩
    · rw [if_neg c11] at H
      have c11b0 : decide (t235 < 0) = false := decide_eq_false c11
      clear c11
      replace H := Option.bind_eq_some_iff.mp H
      obtain ⟨⟨t236, t237, t238⟩, A190, H⟩ := H
      replace H : ((laws_toLogRecord.f a1_0 a1_1).bind fun bt239 => ((spec_AppendRecord.f k t236 t237 t238 bt239.1 bt239.2).bind fun bt241 => ((laws_toLog.f a0_0 a0_1 a0_2).bind fun bt246 => ((laws_toLogRecord.f a1_0 a1_1).bind fun bt249 => ((impl_AppendRecord.f k bt246.1 bt246.2.1 bt246.2.2 bt249.1 bt249.2).bind fun bt251 => ((laws_eqLog.f bt251.1 bt251.2.1 bt251.2.2.1 bt241.1 bt241.2.1 bt241.2.2.1).bind fun t256 => (if t256 = true then (if bt251.2.2.2 = bt241.2.2.2 then (some true) else (some false)) else (some false)))))))) = some r := H
      have A19 := Aside0.mk A190
      clear A190
      replace H := Option.bind_eq_some_iff.mp H
      obtain ⟨⟨t239, t240⟩, A200, H⟩ := H
      replace H : ((spec_AppendRecord.f k t236 t237 t238 t239 t240).bind fun bt241 => ((laws_toLog.f a0_0 a0_1 a0_2).bind fun bt246 => ((laws_toLogRecord.f a1_0 a1_1).bind fun bt249 => ((impl_AppendRecord.f k bt246.1 bt246.2.1 bt246.2.2 bt249.1 bt249.2).bind fun bt251 => ((laws_eqLog.f bt251.1 bt251.2.1 bt251.2.2.1 bt241.1 bt241.2.1 bt241.2.2.1).bind fun t256 => (if t256 = true then (if bt251.2.2.2 = bt241.2.2.2 then (some true) else (some false)) else (some false))))))) = some r := H
      have A20 := Aside0.mk A200
      clear A200
      replace H := Option.bind_eq_some_iff.mp H
      obtain ⟨⟨t241, t242, t243, t244⟩, A210, H⟩ := H
      replace H : ((laws_toLog.f a0_0 a0_1 a0_2).bind fun bt246 => ((laws_toLogRecord.f a1_0 a1_1).bind fun bt249 => ((impl_AppendRecord.f k bt246.1 bt246.2.1 bt246.2.2 bt249.1 bt249.2).bind fun bt251 => ((laws_eqLog.f bt251.1 bt251.2.1 bt251.2.2.1 t241 t242 t243).bind fun t256 => (if t256 = true then (if bt251.2.2.2 = t244 then (some true) else (some false)) else (some false)))))) = some r := H
      have A21 := Aside0.mk A210
      clear A210
      replace H := Option.bind_eq_some_iff.mp H
      obtain ⟨⟨t246, t247, t248⟩, A220, H⟩ := H
      replace H : ((laws_toLogRecord.f a1_0 a1_1).bind fun bt249 => ((impl_AppendRecord.f k t246 t247 t248 bt249.1 bt249.2).bind fun bt251 => ((laws_eqLog.f bt251.1 bt251.2.1 bt251.2.2.1 t241 t242 t243).bind fun t256 => (if t256 = true then (if bt251.2.2.2 = t244 then (some true) else (some false)) else (some false))))) = some r := H
      have A22 := Aside0.mk A220
      clear A220
      replace H := Option.bind_eq_some_iff.mp H
      obtain ⟨⟨t249, t250⟩, A230, H⟩ := H
      replace H : ((impl_AppendRecord.f k t246 t247 t248 t249 t250).bind fun bt251 => ((laws_eqLog.f bt251.1 bt251.2.1 bt251.2.2.1 t241 t242 t243).bind fun t256 => (if t256 = true then (if bt251.2.2.2 = t244 then (some true) else (some false)) else (some false)))) = some r := H
      have A23 := Aside0.mk A230
      clear A230
      replace H := Option.bind_eq_some_iff.mp H
      obtain ⟨⟨t251, t252, t253, t254⟩, A240, H⟩ := H
      replace H : ((laws_eqLog.f t251 t252 t253 t241 t242 t243).bind fun t256 => (if t256 = true then (if t254 = t244 then (some true) else (some false)) else (some false))) = some r := H
      have A24 := Aside0.mk A240
      clear A240
      replace H := Option.bind_eq_some_iff.mp H
      obtain ⟨t256, A250, H⟩ := H
      replace H : (if t256 = true then (if t254 = t244 then (some true) else (some false)) else (some false)) = some r := H
      have A25 := Aside0.mk A250
      clear A250
      by_cases c26 : t256 = true
      · subst c26
        have H1 : (if t254 = t244 then (some true) else (some false)) = some r := by rw [if_pos rfl] at H; exact H
        clear H
        have H := H1
        clear H1
        by_cases c27 : t254 = t244
        · rw [if_pos c27] at H
          have c27b0 : (t254 == t244) = true := beq_iff_eq.mpr c27
          have c27b1 : (t254 != t244) = false := bne_eq_false_iff_eq.mpr c27
          clear c27
          obtain rfl := Option.some.inj H; clear hr
          go_enter Tryd.func9, Tryd.ntmps9
          try go_wp2_with (first | ((with_reducible refine gate_dst (N := 2) rfl ?_); refine box_event ?hg (N := 2) ?hd (cs := #[.string a0_0, .string a0_1, .int .i64 a0_2]) (t := 47) ?hr ?_; (case hd => rfl); (case hg => rfl); (case hr => first | (go_simp; done) | (go_simp; rfl)); intro gb232 hg w28 hbox hb; have n0_ := Aside0.mk (below_step zL_10 hb); have n1_ := Aside0.mk (hbox); have n2_ := Aside0.mk ((by rw [hg]; exact (below_size zL_10) : w.heap.size ≤ gb232)); have n3_ := Aside0.mk ((by rw [hg]; exact (below_size zL_10) : w.heap.size ≤ gb232)); clear HB; have HB := n0_; have BK232 := n1_; have GW232 := n2_; have GE232 := n3_; clear n0_ n1_ n2_ n3_; clear hb hbox hg) | ((with_reducible refine gate_dst (N := 3) rfl ?_); refine box_event ?hg (N := 3) ?hd (cs := #[.string a1_0, .string a1_1]) (t := 35) ?hr ?_; (case hd => rfl); (case hg => rfl); (case hr => first | (go_simp; done) | (go_simp; rfl)); intro gb233 hg w29 hbox hb; have n0_ := Aside0.mk (blk_below (g := gb232) (o := .cells #[.string a0_0, .string a0_1, .int .i64 a0_2] 47 (0, 0)) zL_0 hb); have n1_ := Aside0.mk (below_step zL_7 hb); have n2_ := Aside0.mk (hbox); have n3_ := Aside0.mk ((by rw [hg]; exact (below_size zL_7) : w.heap.size ≤ gb233)); have n4_ := Aside0.mk ((by rw [hg]; exact (below_size zL_7) : w.heap.size ≤ gb233)); have n5_ := Aside0.mk ((zL_8 : gb232 ≠ gb233)); have n6_ := Aside0.mk ((zL_9 : gb233 ≠ gb232)); clear BK232; clear HB; have BK232 := n0_; have HB := n1_; have BK233 := n2_; have GW233 := n3_; have GE233 := n4_; have NB232_233 := n5_; have NB233_232 := n6_; clear n0_ n1_ n2_ n3_ n4_ n5_ n6_; clear hb hbox hg; have hnb30 := NB232_233.out; have hnc30 := NB233_232.out; have hcz31_0 : w29.cell? ⟨gb232, 0, none⟩ = some (.string a0_0) := (blk_cell BK232.out 0).trans rfl; have hcz31_1 : w29.cell? ⟨gb232, 1, none⟩ = some (.string a0_1) := (blk_cell BK232.out 1).trans rfl; have hcz31_2 : w29.cell? ⟨gb232, 2, none⟩ = some (.int .i64 a0_2) := (blk_cell BK232.out 2).trans rfl; have hfz31_0 := blk_frozen BK232.out 0; have hfz31_1 := blk_frozen BK232.out 1; have hfz31_2 := blk_frozen BK232.out 2) | ((with_reducible refine gate_callee (f := 30) rfl ?_); refine goesL_ (some 12) rfl rfl Tryd.func30 zL_14 rfl #[.agg #[.string a0_0, .string a0_1, .int .i64 a0_2], .int .i64 1048576] rfl zL_6 ?_; (with_reducible refine (laws_szLog.calls a0_0 a0_1 a0_2 1048576 t234 _ A3.out).mono ?_); rintro e w32 ⟨rfl, hb⟩; refine ⟨_, rfl, ?_⟩; have n0_ := Aside0.mk (blk_below (g := gb232) (o := .cells #[.string a0_0, .string a0_1, .int .i64 a0_2] 47 (0, 0)) zL_0 hb); have n1_ := Aside0.mk (blk_below (g := gb233) (o := .cells #[.string a1_0, .string a1_1] 35 (0, 0)) zL_1 hb); have n2_ := Aside0.mk (below_step zL_3 hb); clear BK232; clear BK233; clear HB; have BK232 := n0_; have BK233 := n1_; have HB := n2_; clear n0_ n1_ n2_; (try clear hb); (try clear hb2); (try clear hk); (try clear hi); have hcz33_0 : w32.cell? ⟨gb233, 0, none⟩ = some (.string a1_0) := (blk_cell BK233.out 0).trans rfl; have hcz33_1 : w32.cell? ⟨gb233, 1, none⟩ = some (.string a1_1) := (blk_cell BK233.out 1).trans rfl; have hfz33_0 := blk_frozen BK233.out 0; have hfz33_1 := blk_frozen BK233.out 1) | ((with_reducible refine gate_callee (f := 23) rfl ?_); refine goesL_ (some 17) rfl rfl Tryd.func23 zL_14 rfl #[.agg #[.string a1_0, .string a1_1], .int .i64 t234] rfl zL_6 ?_; (with_reducible refine (laws_szLogRecord.calls a1_0 a1_1 t234 t235 _ A10.out).mono ?_); rintro e w34 ⟨rfl, hb⟩; refine ⟨_, rfl, ?_⟩; have n0_ := Aside0.mk (blk_below (g := gb232) (o := .cells #[.string a0_0, .string a0_1, .int .i64 a0_2] 47 (0, 0)) zL_0 hb); have n1_ := Aside0.mk (blk_below (g := gb233) (o := .cells #[.string a1_0, .string a1_1] 35 (0, 0)) zL_1 hb); have n2_ := Aside0.mk (below_step zL_3 hb); clear BK232; clear BK233; clear HB; have BK232 := n0_; have BK233 := n1_; have HB := n2_; clear n0_ n1_ n2_; (try clear hb); (try clear hb2); (try clear hk); (try clear hi)))
          have n0_ := Aside0.mk (blk_drew BK232.out)
          have n1_ := Aside0.mk (blk_drew BK233.out)
          have n2_ := Aside0.mk (below_drew1 HB.out)
          clear BK232
          clear BK233
          clear HB
          have BK232 := n0_
          have BK233 := n1_
          have HB := n2_
          clear n0_ n1_ n2_
          refine start_ (n := 11) (S := fun w' => w'.cell? ⟨gb232, 0, none⟩ = some (.string a0_0) ∧ w'.cell? ⟨gb232, 1, none⟩ = some (.string a0_1) ∧ w'.cell? ⟨gb232, 2, none⟩ = some (.int .i64 a0_2) ∧ w'.cell? ⟨gb233, 0, none⟩ = some (.string a1_0) ∧ w'.cell? ⟨gb233, 1, none⟩ = some (.string a1_1)) (ds := []) #[false, false, false, false, false, false, false, false, false, false, false] zL_14 rfl rfl ⟨(blk_cell BK232.out 0).trans rfl, (blk_cell BK232.out 1).trans rfl, (blk_cell BK232.out 2).trans rfl, (blk_cell BK233.out 0).trans rfl, (blk_cell BK233.out 1).trans rfl⟩ (fun hHeld => ?_); refine with_tabW laws_FnExactAppendRecord.tab8 laws_FnExactAppendRecord.bits8 (fun HT_ HW_ => ?_)
          generalize w34.drew = w35 at BK232 BK233 HB hHeld ⊢
          refine take_ (i := 0) (N := some 21) (v := ?_) (a' := ?_) #[true, false, false, false, false, false, false, false, false, false, false] rfl rfl (take_ofW HT_.out HW_.out zL_14) (fun _ _ _ h => h) (Or.inl ⟨by rfl, ?_⟩) hHeld ?_ ?_
          rotate_left
          · rintro w' ⟨s0, s1, s2, s3, s4⟩
            go_simp
            with_reducible rfl
          rotate_left
          · simp only [Act.put, List.setIfInBounds_toArray, List.set_cons_zero, List.set_cons_succ, i64_w, i32_w]
            rfl
          refine take_ (i := 2) (N := some 23) (v := ?_) (a' := ?_) #[true, false, true, false, false, false, false, false, false, false, false] rfl rfl (take_ofW HT_.out HW_.out zL_14) (fun _ _ _ h => h) (Or.inl ⟨by rfl, ?_⟩) hHeld ?_ ?_
          rotate_left
          · rintro w' ⟨s0, s1, s2, s3, s4⟩
            go_simp
            with_reducible rfl
          rotate_left
          · simp only [Act.put, List.setIfInBounds_toArray, List.set_cons_zero, List.set_cons_succ, i64_w, i32_w]
            rfl
          refine join_ (σ := Nat) 2 #[true, true, true, true, true, true, true, true, true, false, false] (fun s_ => [(22, .agg #[.string t236, .string t237, .int .i64 t238]), (24, .agg #[.string t239, .string t240]), (25, .tuple #[.agg #[.string t241, .string t242, .int .i64 t243], .int .i64 t244]), (6, .pointer (some ⟨s_, 0, none⟩)), (20, .tuple #[.agg #[.string t241, .string t242, .int .i64 t243], .int .i64 t244]), (26, .agg #[.string t241, .string t242, .int .i64 t243]), (27, .int .i64 t244)]) (fun s_ w' => (w'.cell? ⟨gb232, 0, none⟩ = some (.string a0_0) ∧ w'.cell? ⟨gb232, 1, none⟩ = some (.string a0_1) ∧ w'.cell? ⟨gb232, 2, none⟩ = some (.int .i64 a0_2) ∧ w'.cell? ⟨gb233, 0, none⟩ = some (.string a1_0) ∧ w'.cell? ⟨gb233, 1, none⟩ = some (.string a1_1)) ∧ (w'.heap[gb232]? = some (.cells #[.string a0_0, .string a0_1, .int .i64 a0_2] 47 (0, 0))) ∧ (w'.heap[gb233]? = some (.cells #[.string a1_0, .string a1_1] 35 (0, 0))) ∧ (w'.heap[s_]? = some (.cells #[.string (⟨#[]⟩ : ByteArray), .string (⟨#[]⟩ : ByteArray), .int .i64 0] 42 (0, 0))) ∧ (w.heap.size ≤ s_) ∧ (w.heap.size ≤ s_) ∧ (gb232 ≠ s_) ∧ (s_ ≠ gb232) ∧ (gb233 ≠ s_) ∧ (s_ ≠ gb233) ∧ (Below w.heap.size w w')) ?_ ?_
          rotate_left
          · intro hCont
            refine two_ (i := 1) (j := 8) (Ni := some 22) (Nj := some 6) #[true, true, true, false, false, false, false, false, false, false, false] #[true, false, true, false, false, false, false, false, true, false, false] rfl rfl rfl rfl (two_of HT_.out zL_14) (by decide) (by decide) (fun K hK => ?_) (fun K hK => ?_)
            · skip
              refine goes_ Tryd.func32 zL_14 rfl #[.agg #[.string a0_0, .string a0_1, .int .i64 a0_2]] (by rfl) rfl rfl zL_6 ?_
              with_reducible refine (laws_toLog.calls a0_0 a0_1 a0_2 t236 t237 t238 _ A19.out).mono ?_
              rintro e w36 ⟨rfl, hb⟩
              refine ⟨_, rfl, ?_⟩
              have n0_ := Aside0.mk (blk_below (g := gb232) (o := .cells #[.string a0_0, .string a0_1, .int .i64 a0_2] 47 (0, 0)) zL_0 hb)
              have n1_ := Aside0.mk (blk_below (g := gb233) (o := .cells #[.string a1_0, .string a1_1] 35 (0, 0)) zL_1 hb)
              have n2_ := Aside0.mk (below_step zL_3 hb)
              clear BK232
              clear BK233
              clear HB
              have BK232 := n0_
              have BK233 := n1_
              have HB := n2_
              clear n0_ n1_ n2_
              (try clear hb)
              (try clear hb2)
              (try clear hk)
              (try clear hi)
              refine hK.out _ _ ⟨(blk_cell BK232.out 0).trans rfl, (blk_cell BK232.out 1).trans rfl, (blk_cell BK232.out 2).trans rfl, (blk_cell BK233.out 0).trans rfl, (blk_cell BK233.out 1).trans rfl⟩ (fun hHeld => ?_)
              clear hK K
              refine norm_ (a' := ?_) ?_ ?_
              rotate_left
              · show Act.put _ (some 22) _ = _
                simp only [Act.put, List.setIfInBounds_toArray, List.set_cons_zero, List.set_cons_succ, i64_w, i32_w]
                rfl
              refine two_ (i := 3) (j := 8) (Ni := some 24) (Nj := some 6) #[true, true, true, true, false, false, false, false, false, false, false] #[true, true, true, false, false, false, false, false, true, false, false] rfl rfl rfl rfl (two_of HT_.out zL_14) (by decide) (by decide) (fun K hK => ?_) (fun K hK => ?_)
              · skip
                refine goes_ Tryd.func25 zL_14 rfl #[.agg #[.string a1_0, .string a1_1]] (by rfl) rfl rfl zL_6 ?_
                with_reducible refine (laws_toLogRecord.calls a1_0 a1_1 t239 t240 _ A20.out).mono ?_
                rintro e w37 ⟨rfl, hb⟩
                refine ⟨_, rfl, ?_⟩
                have n0_ := Aside0.mk (blk_below (g := gb232) (o := .cells #[.string a0_0, .string a0_1, .int .i64 a0_2] 47 (0, 0)) zL_0 hb)
                have n1_ := Aside0.mk (blk_below (g := gb233) (o := .cells #[.string a1_0, .string a1_1] 35 (0, 0)) zL_1 hb)
                have n2_ := Aside0.mk (below_step zL_3 hb)
                clear BK232
                clear BK233
                clear HB
                have BK232 := n0_
                have BK233 := n1_
                have HB := n2_
                clear n0_ n1_ n2_
                (try clear hb)
                (try clear hb2)
                (try clear hk)
                (try clear hi)
                refine hK.out _ _ ⟨(blk_cell BK232.out 0).trans rfl, (blk_cell BK232.out 1).trans rfl, (blk_cell BK232.out 2).trans rfl, (blk_cell BK233.out 0).trans rfl, (blk_cell BK233.out 1).trans rfl⟩ (fun hHeld => ?_)
                clear hK K
                refine norm_ (a' := ?_) ?_ ?_
                rotate_left
                · show Act.put _ (some 24) _ = _
                  simp only [Act.put, List.setIfInBounds_toArray, List.set_cons_zero, List.set_cons_succ, i64_w, i32_w]
                  rfl
                refine two_ (i := 4) (j := 8) (Ni := some 25) (Nj := some 6) #[true, true, true, true, true, false, false, false, false, false, false] #[true, true, true, true, false, false, false, false, true, false, false] rfl rfl rfl rfl (two_of HT_.out zL_14) (by decide) (by decide) (fun K hK => ?_) (fun K hK => ?_)
                · skip
                  refine goes_ Tryd.func38 zL_14 rfl #[.agg #[.string t236, .string t237, .int .i64 t238], .agg #[.string t239, .string t240]] (by rfl) rfl rfl zL_6 ?_
                  with_reducible refine (spec_AppendRecord.calls k t236 t237 t238 t239 t240 t241 t242 t243 t244 _ A21.out).mono ?_
                  rintro e w38 ⟨rfl, hb⟩
                  refine ⟨_, rfl, ?_⟩
                  have n0_ := Aside0.mk (blk_below (g := gb232) (o := .cells #[.string a0_0, .string a0_1, .int .i64 a0_2] 47 (0, 0)) zL_0 hb)
                  have n1_ := Aside0.mk (blk_below (g := gb233) (o := .cells #[.string a1_0, .string a1_1] 35 (0, 0)) zL_1 hb)
                  have n2_ := Aside0.mk (below_step zL_3 hb)
                  clear BK232
                  clear BK233
                  clear HB
                  have BK232 := n0_
                  have BK233 := n1_
                  have HB := n2_
                  clear n0_ n1_ n2_
                  (try clear hb)
                  (try clear hb2)
                  (try clear hk)
                  (try clear hi)
                  refine hK.out _ _ ⟨(blk_cell BK232.out 0).trans rfl, (blk_cell BK232.out 1).trans rfl, (blk_cell BK232.out 2).trans rfl, (blk_cell BK233.out 0).trans rfl, (blk_cell BK233.out 1).trans rfl⟩ (fun hHeld => ?_)
                  clear hK K
                  refine norm_ (a' := ?_) ?_ ?_
                  rotate_left
                  · show Act.put _ (some 25) _ = _
                    simp only [Act.put, List.setIfInBounds_toArray, List.set_cons_zero, List.set_cons_succ, i64_w, i32_w]
                    rfl
                  refine pure_ (i := 5) (N := some 20) (v := ?_) (a' := ?_) #[true, true, true, true, true, true, false, false, false, false, false] rfl rfl (any_of HT_.out zL_14) (fun _ _ _ h => h) (Or.inl ⟨by rfl, ?_⟩) ?_ ?_
                  rotate_left
                  · intro w'
                    go_simp
                    with_reducible rfl
                  rotate_left
                  · simp only [Act.put, List.setIfInBounds_toArray, List.set_cons_zero, List.set_cons_succ, i64_w, i32_w]
                    rfl
                  refine pure_ (i := 6) (N := some 26) (v := ?_) (a' := ?_) #[true, true, true, true, true, true, true, false, false, false, false] rfl rfl (any_of HT_.out zL_14) (fun _ _ _ h => h) (Or.inl ⟨by rfl, ?_⟩) ?_ ?_
                  rotate_left
                  · intro w'
                    go_simp
                    with_reducible rfl
                  rotate_left
                  · simp only [Act.put, List.setIfInBounds_toArray, List.set_cons_zero, List.set_cons_succ, i64_w, i32_w]
                    rfl
                  refine pure_ (i := 7) (N := some 27) (v := ?_) (a' := ?_) #[true, true, true, true, true, true, true, true, false, false, false] rfl rfl (any_of HT_.out zL_14) (fun _ _ _ h => h) (Or.inl ⟨by rfl, ?_⟩) ?_ ?_
                  rotate_left
                  · intro w'
                    go_simp
                    with_reducible rfl
                  rotate_left
                  · simp only [Act.put, List.setIfInBounds_toArray, List.set_cons_zero, List.set_cons_succ, i64_w, i32_w]
                    rfl
                  refine one_ (i := 8) (N := some 6) #[true, true, true, true, true, true, true, true, true, false, false] rfl rfl (one_of HT_.out zL_14) (by decide) (fun K hK => ?_)
                  refine box_step ?hg (N := 6) ?hd (cs := #[.string (⟨#[]⟩ : ByteArray), .string (⟨#[]⟩ : ByteArray), .int .i64 0]) (t := 42) ?hr ?_; (case hd => rfl); (case hg => rfl); (case hr => first | (go_simp; done) | (go_simp; rfl))
                  intro gb245 hg w39 hbox hb
                  have n0_ := Aside0.mk (blk_below (g := gb232) (o := .cells #[.string a0_0, .string a0_1, .int .i64 a0_2] 47 (0, 0)) zL_0 hb)
                  have n1_ := Aside0.mk (blk_below (g := gb233) (o := .cells #[.string a1_0, .string a1_1] 35 (0, 0)) zL_1 hb)
                  have n2_ := Aside0.mk (below_step zL_3 hb)
                  have n3_ := Aside0.mk (hbox)
                  have n4_ := Aside0.mk ((zL_18 : w.heap.size ≤ gb245))
                  have n5_ := Aside0.mk ((zL_18 : w.heap.size ≤ gb245))
                  have n6_ := Aside0.mk ((zL_8 : gb232 ≠ gb245))
                  have n7_ := Aside0.mk ((zL_9 : gb245 ≠ gb232))
                  have n8_ := Aside0.mk ((zL_12 : gb233 ≠ gb245))
                  have n9_ := Aside0.mk ((zL_13 : gb245 ≠ gb233))
                  clear BK232
                  clear BK233
                  clear HB
                  have BK232 := n0_
                  have BK233 := n1_
                  have HB := n2_
                  have BK245 := n3_
                  have GW245 := n4_
                  have GE245 := n5_
                  have NB232_245 := n6_
                  have NB245_232 := n7_
                  have NB233_245 := n8_
                  have NB245_233 := n9_
                  clear n0_ n1_ n2_ n3_ n4_ n5_ n6_ n7_ n8_ n9_
                  clear hb hbox hg
                  refine hK.out _ _ ⟨(blk_cell BK232.out 0).trans rfl, (blk_cell BK232.out 1).trans rfl, (blk_cell BK232.out 2).trans rfl, (blk_cell BK233.out 0).trans rfl, (blk_cell BK233.out 1).trans rfl⟩ (fun hHeld => ?_)
                  clear hK K
                  refine norm_ (a' := ?_) ?_ ?_
                  rotate_left
                  · show Act.put _ (some 6) _ = _
                    simp only [Act.put, List.setIfInBounds_toArray, List.set_cons_zero, List.set_cons_succ, i64_w, i32_w]
                    rfl
                  exact norm_ zL_15 (hCont (gb245) _ ⟨hHeld, zL_0, zL_1, zL_4, GW245.out, GE245.out, NB232_245.out, NB245_232.out, NB233_245.out, NB245_233.out, zL_2⟩)
                · skip
                  refine box_step ?hg (N := 6) ?hd (cs := #[.string (⟨#[]⟩ : ByteArray), .string (⟨#[]⟩ : ByteArray), .int .i64 0]) (t := 42) ?hr ?_; (case hd => rfl); (case hg => rfl); (case hr => first | (go_simp; done) | (go_simp; rfl))
                  intro gb245 hg w38 hbox hb
                  have n0_ := Aside0.mk (blk_below (g := gb232) (o := .cells #[.string a0_0, .string a0_1, .int .i64 a0_2] 47 (0, 0)) zL_0 hb)
                  have n1_ := Aside0.mk (blk_below (g := gb233) (o := .cells #[.string a1_0, .string a1_1] 35 (0, 0)) zL_1 hb)
                  have n2_ := Aside0.mk (below_step zL_3 hb)
                  have n3_ := Aside0.mk (hbox)
                  have n4_ := Aside0.mk ((zL_18 : w.heap.size ≤ gb245))
                  have n5_ := Aside0.mk ((zL_18 : w.heap.size ≤ gb245))
                  have n6_ := Aside0.mk ((zL_8 : gb232 ≠ gb245))
                  have n7_ := Aside0.mk ((zL_9 : gb245 ≠ gb232))
                  have n8_ := Aside0.mk ((zL_12 : gb233 ≠ gb245))
                  have n9_ := Aside0.mk ((zL_13 : gb245 ≠ gb233))
                  clear BK232
                  clear BK233
                  clear HB
                  have BK232 := n0_
                  have BK233 := n1_
                  have HB := n2_
                  have BK245 := n3_
                  have GW245 := n4_
                  have GE245 := n5_
                  have NB232_245 := n6_
                  have NB245_232 := n7_
                  have NB233_245 := n8_
                  have NB245_233 := n9_
                  clear n0_ n1_ n2_ n3_ n4_ n5_ n6_ n7_ n8_ n9_
                  clear hb hbox hg
                  refine hK.out _ _ ⟨(blk_cell BK232.out 0).trans rfl, (blk_cell BK232.out 1).trans rfl, (blk_cell BK232.out 2).trans rfl, (blk_cell BK233.out 0).trans rfl, (blk_cell BK233.out 1).trans rfl⟩ (fun hHeld => ?_)
                  clear hK K
                  refine norm_ (a' := ?_) ?_ ?_
                  rotate_left
                  · show Act.put _ (some 6) _ = _
                    simp only [Act.put, List.setIfInBounds_toArray, List.set_cons_zero, List.set_cons_succ, i64_w, i32_w]
                    rfl
                  refine one_ (i := 4) (N := some 25) #[true, true, true, true, true, false, false, false, true, false, false] rfl rfl (one_of HT_.out zL_14) (by decide) (fun K hK => ?_)
                  refine goes_ Tryd.func38 zL_14 rfl #[.agg #[.string t236, .string t237, .int .i64 t238], .agg #[.string t239, .string t240]] (by rfl) rfl rfl zL_6 ?_
                  with_reducible refine (spec_AppendRecord.calls k t236 t237 t238 t239 t240 t241 t242 t243 t244 _ A21.out).mono ?_
                  rintro e w39 ⟨rfl, hb⟩
                  refine ⟨_, rfl, ?_⟩
                  have n0_ := Aside0.mk (blk_below (g := gb232) (o := .cells #[.string a0_0, .string a0_1, .int .i64 a0_2] 47 (0, 0)) zL_0 hb)
                  have n1_ := Aside0.mk (blk_below (g := gb233) (o := .cells #[.string a1_0, .string a1_1] 35 (0, 0)) zL_1 hb)
                  have n2_ := Aside0.mk (blk_below (g := gb245) (o := .cells #[.string (⟨#[]⟩ : ByteArray), .string (⟨#[]⟩ : ByteArray), .int .i64 0] 42 (0, 0)) zL_4 hb)
                  have n3_ := Aside0.mk (below_step zL_2 hb)
                  clear BK232
                  clear BK233
                  clear BK245
                  clear HB
                  have BK232 := n0_
                  have BK233 := n1_
                  have BK245 := n2_
                  have HB := n3_
                  clear n0_ n1_ n2_ n3_
                  (try clear hb)
                  (try clear hb2)
                  (try clear hk)
                  (try clear hi)
                  refine hK.out _ _ ⟨(blk_cell BK232.out 0).trans rfl, (blk_cell BK232.out 1).trans rfl, (blk_cell BK232.out 2).trans rfl, (blk_cell BK233.out 0).trans rfl, (blk_cell BK233.out 1).trans rfl⟩ (fun hHeld => ?_)
                  clear hK K
                  refine norm_ (a' := ?_) ?_ ?_
                  rotate_left
                  · show Act.put _ (some 25) _ = _
                    simp only [Act.put, List.setIfInBounds_toArray, List.set_cons_zero, List.set_cons_succ, i64_w, i32_w]
                    rfl
                  refine pure_ (i := 5) (N := some 20) (v := ?_) (a' := ?_) #[true, true, true, true, true, true, false, false, true, false, false] rfl rfl (any_of HT_.out zL_14) (fun _ _ _ h => h) (Or.inl ⟨by rfl, ?_⟩) ?_ ?_
                  rotate_left
                  · intro w'
                    go_simp
                    with_reducible rfl
                  rotate_left
                  · simp only [Act.put, List.setIfInBounds_toArray, List.set_cons_zero, List.set_cons_succ, i64_w, i32_w]
                    rfl
                  refine pure_ (i := 6) (N := some 26) (v := ?_) (a' := ?_) #[true, true, true, true, true, true, true, false, true, false, false] rfl rfl (any_of HT_.out zL_14) (fun _ _ _ h => h) (Or.inl ⟨by rfl, ?_⟩) ?_ ?_
                  rotate_left
                  · intro w'
                    go_simp
                    with_reducible rfl
                  rotate_left
                  · simp only [Act.put, List.setIfInBounds_toArray, List.set_cons_zero, List.set_cons_succ, i64_w, i32_w]
                    rfl
                  refine pure_ (i := 7) (N := some 27) (v := ?_) (a' := ?_) #[true, true, true, true, true, true, true, true, true, false, false] rfl rfl (any_of HT_.out zL_14) (fun _ _ _ h => h) (Or.inl ⟨by rfl, ?_⟩) ?_ ?_
                  rotate_left
                  · intro w'
                    go_simp
                    with_reducible rfl
                  rotate_left
                  · simp only [Act.put, List.setIfInBounds_toArray, List.set_cons_zero, List.set_cons_succ, i64_w, i32_w]
                    rfl
                  exact norm_ zL_15 (hCont (gb245) _ ⟨hHeld, zL_0, zL_1, zL_4, GW245.out, GE245.out, NB232_245.out, NB245_232.out, NB233_245.out, NB245_233.out, zL_2⟩)
              · skip
                refine box_step ?hg (N := 6) ?hd (cs := #[.string (⟨#[]⟩ : ByteArray), .string (⟨#[]⟩ : ByteArray), .int .i64 0]) (t := 42) ?hr ?_; (case hd => rfl); (case hg => rfl); (case hr => first | (go_simp; done) | (go_simp; rfl))
                intro gb245 hg w37 hbox hb
                have n0_ := Aside0.mk (blk_below (g := gb232) (o := .cells #[.string a0_0, .string a0_1, .int .i64 a0_2] 47 (0, 0)) zL_0 hb)
                have n1_ := Aside0.mk (blk_below (g := gb233) (o := .cells #[.string a1_0, .string a1_1] 35 (0, 0)) zL_1 hb)
                have n2_ := Aside0.mk (below_step zL_3 hb)
                have n3_ := Aside0.mk (hbox)
                have n4_ := Aside0.mk ((zL_18 : w.heap.size ≤ gb245))
                have n5_ := Aside0.mk ((zL_18 : w.heap.size ≤ gb245))
                have n6_ := Aside0.mk ((zL_8 : gb232 ≠ gb245))
                have n7_ := Aside0.mk ((zL_9 : gb245 ≠ gb232))
                have n8_ := Aside0.mk ((zL_12 : gb233 ≠ gb245))
                have n9_ := Aside0.mk ((zL_13 : gb245 ≠ gb233))
                clear BK232
                clear BK233
                clear HB
                have BK232 := n0_
                have BK233 := n1_
                have HB := n2_
                have BK245 := n3_
                have GW245 := n4_
                have GE245 := n5_
                have NB232_245 := n6_
                have NB245_232 := n7_
                have NB233_245 := n8_
                have NB245_233 := n9_
                clear n0_ n1_ n2_ n3_ n4_ n5_ n6_ n7_ n8_ n9_
                clear hb hbox hg
                refine hK.out _ _ ⟨(blk_cell BK232.out 0).trans rfl, (blk_cell BK232.out 1).trans rfl, (blk_cell BK232.out 2).trans rfl, (blk_cell BK233.out 0).trans rfl, (blk_cell BK233.out 1).trans rfl⟩ (fun hHeld => ?_)
                clear hK K
                refine norm_ (a' := ?_) ?_ ?_
                rotate_left
                · show Act.put _ (some 6) _ = _
                  simp only [Act.put, List.setIfInBounds_toArray, List.set_cons_zero, List.set_cons_succ, i64_w, i32_w]
                  rfl
                refine one_ (i := 3) (N := some 24) #[true, true, true, true, false, false, false, false, true, false, false] rfl rfl (one_of HT_.out zL_14) (by decide) (fun K hK => ?_)
                refine goes_ Tryd.func25 zL_14 rfl #[.agg #[.string a1_0, .string a1_1]] (by rfl) rfl rfl zL_6 ?_
                with_reducible refine (laws_toLogRecord.calls a1_0 a1_1 t239 t240 _ A20.out).mono ?_
                rintro e w38 ⟨rfl, hb⟩
                refine ⟨_, rfl, ?_⟩
                have n0_ := Aside0.mk (blk_below (g := gb232) (o := .cells #[.string a0_0, .string a0_1, .int .i64 a0_2] 47 (0, 0)) zL_0 hb)
                have n1_ := Aside0.mk (blk_below (g := gb233) (o := .cells #[.string a1_0, .string a1_1] 35 (0, 0)) zL_1 hb)
                have n2_ := Aside0.mk (blk_below (g := gb245) (o := .cells #[.string (⟨#[]⟩ : ByteArray), .string (⟨#[]⟩ : ByteArray), .int .i64 0] 42 (0, 0)) zL_4 hb)
                have n3_ := Aside0.mk (below_step zL_2 hb)
                clear BK232
                clear BK233
                clear BK245
                clear HB
                have BK232 := n0_
                have BK233 := n1_
                have BK245 := n2_
                have HB := n3_
                clear n0_ n1_ n2_ n3_
                (try clear hb)
                (try clear hb2)
                (try clear hk)
                (try clear hi)
                refine hK.out _ _ ⟨(blk_cell BK232.out 0).trans rfl, (blk_cell BK232.out 1).trans rfl, (blk_cell BK232.out 2).trans rfl, (blk_cell BK233.out 0).trans rfl, (blk_cell BK233.out 1).trans rfl⟩ (fun hHeld => ?_)
                clear hK K
                refine norm_ (a' := ?_) ?_ ?_
                rotate_left
                · show Act.put _ (some 24) _ = _
                  simp only [Act.put, List.setIfInBounds_toArray, List.set_cons_zero, List.set_cons_succ, i64_w, i32_w]
                  rfl
                refine one_ (i := 4) (N := some 25) #[true, true, true, true, true, false, false, false, true, false, false] rfl rfl (one_of HT_.out zL_14) (by decide) (fun K hK => ?_)
                refine goes_ Tryd.func38 zL_14 rfl #[.agg #[.string t236, .string t237, .int .i64 t238], .agg #[.string t239, .string t240]] (by rfl) rfl rfl zL_6 ?_
                with_reducible refine (spec_AppendRecord.calls k t236 t237 t238 t239 t240 t241 t242 t243 t244 _ A21.out).mono ?_
                rintro e w39 ⟨rfl, hb⟩
                refine ⟨_, rfl, ?_⟩
                have n0_ := Aside0.mk (blk_below (g := gb232) (o := .cells #[.string a0_0, .string a0_1, .int .i64 a0_2] 47 (0, 0)) zL_0 hb)
                have n1_ := Aside0.mk (blk_below (g := gb233) (o := .cells #[.string a1_0, .string a1_1] 35 (0, 0)) zL_1 hb)
                have n2_ := Aside0.mk (blk_below (g := gb245) (o := .cells #[.string (⟨#[]⟩ : ByteArray), .string (⟨#[]⟩ : ByteArray), .int .i64 0] 42 (0, 0)) zL_4 hb)
                have n3_ := Aside0.mk (below_step zL_2 hb)
                clear BK232
                clear BK233
                clear BK245
                clear HB
                have BK232 := n0_
                have BK233 := n1_
                have BK245 := n2_
                have HB := n3_
                clear n0_ n1_ n2_ n3_
                (try clear hb)
                (try clear hb2)
                (try clear hk)
                (try clear hi)
                refine hK.out _ _ ⟨(blk_cell BK232.out 0).trans rfl, (blk_cell BK232.out 1).trans rfl, (blk_cell BK232.out 2).trans rfl, (blk_cell BK233.out 0).trans rfl, (blk_cell BK233.out 1).trans rfl⟩ (fun hHeld => ?_)
                clear hK K
                refine norm_ (a' := ?_) ?_ ?_
                rotate_left
                · show Act.put _ (some 25) _ = _
                  simp only [Act.put, List.setIfInBounds_toArray, List.set_cons_zero, List.set_cons_succ, i64_w, i32_w]
                  rfl
                refine pure_ (i := 5) (N := some 20) (v := ?_) (a' := ?_) #[true, true, true, true, true, true, false, false, true, false, false] rfl rfl (any_of HT_.out zL_14) (fun _ _ _ h => h) (Or.inl ⟨by rfl, ?_⟩) ?_ ?_
                rotate_left
                · intro w'
                  go_simp
                  with_reducible rfl
                rotate_left
                · simp only [Act.put, List.setIfInBounds_toArray, List.set_cons_zero, List.set_cons_succ, i64_w, i32_w]
                  rfl
                refine pure_ (i := 6) (N := some 26) (v := ?_) (a' := ?_) #[true, true, true, true, true, true, true, false, true, false, false] rfl rfl (any_of HT_.out zL_14) (fun _ _ _ h => h) (Or.inl ⟨by rfl, ?_⟩) ?_ ?_
                rotate_left
                · intro w'
                  go_simp
                  with_reducible rfl
                rotate_left
                · simp only [Act.put, List.setIfInBounds_toArray, List.set_cons_zero, List.set_cons_succ, i64_w, i32_w]
                  rfl
                refine pure_ (i := 7) (N := some 27) (v := ?_) (a' := ?_) #[true, true, true, true, true, true, true, true, true, false, false] rfl rfl (any_of HT_.out zL_14) (fun _ _ _ h => h) (Or.inl ⟨by rfl, ?_⟩) ?_ ?_
                rotate_left
                · intro w'
                  go_simp
                  with_reducible rfl
                rotate_left
                · simp only [Act.put, List.setIfInBounds_toArray, List.set_cons_zero, List.set_cons_succ, i64_w, i32_w]
                  rfl
                exact norm_ zL_15 (hCont (gb245) _ ⟨hHeld, zL_0, zL_1, zL_4, GW245.out, GE245.out, NB232_245.out, NB245_232.out, NB233_245.out, NB245_233.out, zL_2⟩)
            · skip
              refine box_step ?hg (N := 6) ?hd (cs := #[.string (⟨#[]⟩ : ByteArray), .string (⟨#[]⟩ : ByteArray), .int .i64 0]) (t := 42) ?hr ?_; (case hd => rfl); (case hg => rfl); (case hr => first | (go_simp; done) | (go_simp; rfl))
              intro gb245 hg w36 hbox hb
              have n0_ := Aside0.mk (blk_below (g := gb232) (o := .cells #[.string a0_0, .string a0_1, .int .i64 a0_2] 47 (0, 0)) zL_0 hb)
              have n1_ := Aside0.mk (blk_below (g := gb233) (o := .cells #[.string a1_0, .string a1_1] 35 (0, 0)) zL_1 hb)
              have n2_ := Aside0.mk (below_step zL_3 hb)
              have n3_ := Aside0.mk (hbox)
              have n4_ := Aside0.mk ((zL_18 : w.heap.size ≤ gb245))
              have n5_ := Aside0.mk ((zL_18 : w.heap.size ≤ gb245))
              have n6_ := Aside0.mk ((zL_8 : gb232 ≠ gb245))
              have n7_ := Aside0.mk ((zL_9 : gb245 ≠ gb232))
              have n8_ := Aside0.mk ((zL_12 : gb233 ≠ gb245))
              have n9_ := Aside0.mk ((zL_13 : gb245 ≠ gb233))
              clear BK232
              clear BK233
              clear HB
              have BK232 := n0_
              have BK233 := n1_
              have HB := n2_
              have BK245 := n3_
              have GW245 := n4_
              have GE245 := n5_
              have NB232_245 := n6_
              have NB245_232 := n7_
              have NB233_245 := n8_
              have NB245_233 := n9_
              clear n0_ n1_ n2_ n3_ n4_ n5_ n6_ n7_ n8_ n9_
              clear hb hbox hg
              refine hK.out _ _ ⟨(blk_cell BK232.out 0).trans rfl, (blk_cell BK232.out 1).trans rfl, (blk_cell BK232.out 2).trans rfl, (blk_cell BK233.out 0).trans rfl, (blk_cell BK233.out 1).trans rfl⟩ (fun hHeld => ?_)
              clear hK K
              refine norm_ (a' := ?_) ?_ ?_
              rotate_left
              · show Act.put _ (some 6) _ = _
                simp only [Act.put, List.setIfInBounds_toArray, List.set_cons_zero, List.set_cons_succ, i64_w, i32_w]
                rfl
              refine one_ (i := 1) (N := some 22) #[true, true, true, false, false, false, false, false, true, false, false] rfl rfl (one_of HT_.out zL_14) (by decide) (fun K hK => ?_)
              refine goes_ Tryd.func32 zL_14 rfl #[.agg #[.string a0_0, .string a0_1, .int .i64 a0_2]] (by rfl) rfl rfl zL_6 ?_
              with_reducible refine (laws_toLog.calls a0_0 a0_1 a0_2 t236 t237 t238 _ A19.out).mono ?_
              rintro e w37 ⟨rfl, hb⟩
              refine ⟨_, rfl, ?_⟩
              have n0_ := Aside0.mk (blk_below (g := gb232) (o := .cells #[.string a0_0, .string a0_1, .int .i64 a0_2] 47 (0, 0)) zL_0 hb)
              have n1_ := Aside0.mk (blk_below (g := gb233) (o := .cells #[.string a1_0, .string a1_1] 35 (0, 0)) zL_1 hb)
              have n2_ := Aside0.mk (blk_below (g := gb245) (o := .cells #[.string (⟨#[]⟩ : ByteArray), .string (⟨#[]⟩ : ByteArray), .int .i64 0] 42 (0, 0)) zL_4 hb)
              have n3_ := Aside0.mk (below_step zL_2 hb)
              clear BK232
              clear BK233
              clear BK245
              clear HB
              have BK232 := n0_
              have BK233 := n1_
              have BK245 := n2_
              have HB := n3_
              clear n0_ n1_ n2_ n3_
              (try clear hb)
              (try clear hb2)
              (try clear hk)
              (try clear hi)
              refine hK.out _ _ ⟨(blk_cell BK232.out 0).trans rfl, (blk_cell BK232.out 1).trans rfl, (blk_cell BK232.out 2).trans rfl, (blk_cell BK233.out 0).trans rfl, (blk_cell BK233.out 1).trans rfl⟩ (fun hHeld => ?_)
              clear hK K
              refine norm_ (a' := ?_) ?_ ?_
              rotate_left
              · show Act.put _ (some 22) _ = _
                simp only [Act.put, List.setIfInBounds_toArray, List.set_cons_zero, List.set_cons_succ, i64_w, i32_w]
                rfl
              refine one_ (i := 3) (N := some 24) #[true, true, true, true, false, false, false, false, true, false, false] rfl rfl (one_of HT_.out zL_14) (by decide) (fun K hK => ?_)
              refine goes_ Tryd.func25 zL_14 rfl #[.agg #[.string a1_0, .string a1_1]] (by rfl) rfl rfl zL_6 ?_
              with_reducible refine (laws_toLogRecord.calls a1_0 a1_1 t239 t240 _ A20.out).mono ?_
              rintro e w38 ⟨rfl, hb⟩
              refine ⟨_, rfl, ?_⟩
              have n0_ := Aside0.mk (blk_below (g := gb232) (o := .cells #[.string a0_0, .string a0_1, .int .i64 a0_2] 47 (0, 0)) zL_0 hb)
              have n1_ := Aside0.mk (blk_below (g := gb233) (o := .cells #[.string a1_0, .string a1_1] 35 (0, 0)) zL_1 hb)
              have n2_ := Aside0.mk (blk_below (g := gb245) (o := .cells #[.string (⟨#[]⟩ : ByteArray), .string (⟨#[]⟩ : ByteArray), .int .i64 0] 42 (0, 0)) zL_4 hb)
              have n3_ := Aside0.mk (below_step zL_2 hb)
              clear BK232
              clear BK233
              clear BK245
              clear HB
              have BK232 := n0_
              have BK233 := n1_
              have BK245 := n2_
              have HB := n3_
              clear n0_ n1_ n2_ n3_
              (try clear hb)
              (try clear hb2)
              (try clear hk)
              (try clear hi)
              refine hK.out _ _ ⟨(blk_cell BK232.out 0).trans rfl, (blk_cell BK232.out 1).trans rfl, (blk_cell BK232.out 2).trans rfl, (blk_cell BK233.out 0).trans rfl, (blk_cell BK233.out 1).trans rfl⟩ (fun hHeld => ?_)
              clear hK K
              refine norm_ (a' := ?_) ?_ ?_
              rotate_left
              · show Act.put _ (some 24) _ = _
                simp only [Act.put, List.setIfInBounds_toArray, List.set_cons_zero, List.set_cons_succ, i64_w, i32_w]
                rfl
              refine one_ (i := 4) (N := some 25) #[true, true, true, true, true, false, false, false, true, false, false] rfl rfl (one_of HT_.out zL_14) (by decide) (fun K hK => ?_)
              refine goes_ Tryd.func38 zL_14 rfl #[.agg #[.string t236, .string t237, .int .i64 t238], .agg #[.string t239, .string t240]] (by rfl) rfl rfl zL_6 ?_
              with_reducible refine (spec_AppendRecord.calls k t236 t237 t238 t239 t240 t241 t242 t243 t244 _ A21.out).mono ?_
              rintro e w39 ⟨rfl, hb⟩
              refine ⟨_, rfl, ?_⟩
              have n0_ := Aside0.mk (blk_below (g := gb232) (o := .cells #[.string a0_0, .string a0_1, .int .i64 a0_2] 47 (0, 0)) zL_0 hb)
              have n1_ := Aside0.mk (blk_below (g := gb233) (o := .cells #[.string a1_0, .string a1_1] 35 (0, 0)) zL_1 hb)
              have n2_ := Aside0.mk (blk_below (g := gb245) (o := .cells #[.string (⟨#[]⟩ : ByteArray), .string (⟨#[]⟩ : ByteArray), .int .i64 0] 42 (0, 0)) zL_4 hb)
              have n3_ := Aside0.mk (below_step zL_2 hb)
              clear BK232
              clear BK233
              clear BK245
              clear HB
              have BK232 := n0_
              have BK233 := n1_
              have BK245 := n2_
              have HB := n3_
              clear n0_ n1_ n2_ n3_
              (try clear hb)
              (try clear hb2)
              (try clear hk)
              (try clear hi)
              refine hK.out _ _ ⟨(blk_cell BK232.out 0).trans rfl, (blk_cell BK232.out 1).trans rfl, (blk_cell BK232.out 2).trans rfl, (blk_cell BK233.out 0).trans rfl, (blk_cell BK233.out 1).trans rfl⟩ (fun hHeld => ?_)
              clear hK K
              refine norm_ (a' := ?_) ?_ ?_
              rotate_left
              · show Act.put _ (some 25) _ = _
                simp only [Act.put, List.setIfInBounds_toArray, List.set_cons_zero, List.set_cons_succ, i64_w, i32_w]
                rfl
              refine pure_ (i := 5) (N := some 20) (v := ?_) (a' := ?_) #[true, true, true, true, true, true, false, false, true, false, false] rfl rfl (any_of HT_.out zL_14) (fun _ _ _ h => h) (Or.inl ⟨by rfl, ?_⟩) ?_ ?_
              rotate_left
              · intro w'
                go_simp
                with_reducible rfl
              rotate_left
              · simp only [Act.put, List.setIfInBounds_toArray, List.set_cons_zero, List.set_cons_succ, i64_w, i32_w]
                rfl
              refine pure_ (i := 6) (N := some 26) (v := ?_) (a' := ?_) #[true, true, true, true, true, true, true, false, true, false, false] rfl rfl (any_of HT_.out zL_14) (fun _ _ _ h => h) (Or.inl ⟨by rfl, ?_⟩) ?_ ?_
              rotate_left
              · intro w'
                go_simp
                with_reducible rfl
              rotate_left
              · simp only [Act.put, List.setIfInBounds_toArray, List.set_cons_zero, List.set_cons_succ, i64_w, i32_w]
                rfl
              refine pure_ (i := 7) (N := some 27) (v := ?_) (a' := ?_) #[true, true, true, true, true, true, true, true, true, false, false] rfl rfl (any_of HT_.out zL_14) (fun _ _ _ h => h) (Or.inl ⟨by rfl, ?_⟩) ?_ ?_
              rotate_left
              · intro w'
                go_simp
                with_reducible rfl
              rotate_left
              · simp only [Act.put, List.setIfInBounds_toArray, List.set_cons_zero, List.set_cons_succ, i64_w, i32_w]
                rfl
              exact norm_ zL_15 (hCont (gb245) _ ⟨hHeld, zL_0, zL_1, zL_4, GW245.out, GE245.out, NB232_245.out, NB245_232.out, NB233_245.out, NB245_233.out, zL_2⟩)
          rintro gb245 w40 ⟨hS_, h0_, h1_, h2_, h3_, h4_, h5_, h6_, h7_, h8_, h9_⟩
          have n0_ : Aside0 (w40.heap[gb232]? = some (.cells #[.string a0_0, .string a0_1, .int .i64 a0_2] 47 (0, 0))) := ⟨h0_⟩
          have n1_ : Aside0 (w40.heap[gb233]? = some (.cells #[.string a1_0, .string a1_1] 35 (0, 0))) := ⟨h1_⟩
          have n2_ : Aside0 (w40.heap[gb245]? = some (.cells #[.string (⟨#[]⟩ : ByteArray), .string (⟨#[]⟩ : ByteArray), .int .i64 0] 42 (0, 0))) := ⟨h2_⟩
          have n3_ : Aside0 (w.heap.size ≤ gb245) := ⟨h3_⟩
          have n4_ : Aside0 (w.heap.size ≤ gb245) := ⟨h4_⟩
          have n5_ : Aside0 (gb232 ≠ gb245) := ⟨h5_⟩
          have n6_ : Aside0 (gb245 ≠ gb232) := ⟨h6_⟩
          have n7_ : Aside0 (gb233 ≠ gb245) := ⟨h7_⟩
          have n8_ : Aside0 (gb245 ≠ gb233) := ⟨h8_⟩
          have n9_ : Aside0 (Below w.heap.size w w40) := ⟨h9_⟩
          clear BK232
          clear BK233
          clear HB
          clear h0_ h1_ h2_ h3_ h4_ h5_ h6_ h7_ h8_ h9_
          have BK232 := n0_
          have BK233 := n1_
          have BK245 := n2_
          have GW245 := n3_
          have GE245 := n4_
          have NB232_245 := n5_
          have NB245_232 := n6_
          have NB233_245 := n7_
          have NB245_233 := n8_
          have HB := n9_
          clear n0_ n1_ n2_ n3_ n4_ n5_ n6_ n7_ n8_ n9_
          have hHeld : w40.cell? ⟨gb232, 0, none⟩ = some (.string a0_0) ∧ w40.cell? ⟨gb232, 1, none⟩ = some (.string a0_1) ∧ w40.cell? ⟨gb232, 2, none⟩ = some (.int .i64 a0_2) ∧ w40.cell? ⟨gb233, 0, none⟩ = some (.string a1_0) ∧ w40.cell? ⟨gb233, 1, none⟩ = some (.string a1_1) := hS_
          refine norm_ (a' := ?_) ?_ ?_
          rotate_left
          · simp only [putAll, Act.put, List.setIfInBounds_toArray, List.set_cons_zero, List.set_cons_succ]
            rfl
          refine one_ (i := 9) (N := none) #[true, true, true, true, true, true, true, true, true, true, false] rfl rfl (one_of HT_.out zL_14) (by decide) (fun K hK => ?_)
          have hs41 : w40.cell? ⟨gb245, 0, none⟩ = some (.string (⟨#[]⟩ : ByteArray)) := (blk_cell BK245.out 0).trans rfl
          have hfs41 := blk_frozen BK245.out 0
          have hns41_0 := NB232_245.out
          have hns41_1 := NB233_245.out
          have hms41_0 := NB245_232.out
          have hms41_1 := NB245_233.out
          have hs42 : w40.cell? ⟨gb245, 1, none⟩ = some (.string (⟨#[]⟩ : ByteArray)) := (blk_cell BK245.out 1).trans rfl
          have hfs42 := blk_frozen BK245.out 1
          have hns42_0 := NB232_245.out
          have hns42_1 := NB233_245.out
          have hms42_0 := NB245_232.out
          have hms42_1 := NB245_233.out
          have hs43 : w40.cell? ⟨gb245, 2, none⟩ = some (.int .i64 0) := (blk_cell BK245.out 2).trans rfl
          have hfs43 := blk_frozen BK245.out 2
          have hns43_0 := NB232_245.out
          have hns43_1 := NB233_245.out
          have hms43_0 := NB245_232.out
          have hms43_1 := NB245_233.out
          refine skip_ (w1 := ?_) (by rfl) rfl ?_ ?_
          rotate_left
          · go_simp
            rfl
          refine hK.out _ _ ⟨((cell_far (p := ⟨gb245, _, none⟩) NB232_245.out _).trans (((cell_far (p := ⟨gb245, _, none⟩) NB232_245.out _).trans (((cell_far (p := ⟨gb245, _, none⟩) NB232_245.out _).trans (hHeld.1)))))), ((cell_far (p := ⟨gb245, _, none⟩) NB232_245.out _).trans (((cell_far (p := ⟨gb245, _, none⟩) NB232_245.out _).trans (((cell_far (p := ⟨gb245, _, none⟩) NB232_245.out _).trans (hHeld.2.1)))))), ((cell_far (p := ⟨gb245, _, none⟩) NB232_245.out _).trans (((cell_far (p := ⟨gb245, _, none⟩) NB232_245.out _).trans (((cell_far (p := ⟨gb245, _, none⟩) NB232_245.out _).trans (hHeld.2.2.1)))))), ((cell_far (p := ⟨gb245, _, none⟩) NB233_245.out _).trans (((cell_far (p := ⟨gb245, _, none⟩) NB233_245.out _).trans (((cell_far (p := ⟨gb245, _, none⟩) NB233_245.out _).trans (hHeld.2.2.2.1)))))), ((cell_far (p := ⟨gb245, _, none⟩) NB233_245.out _).trans (((cell_far (p := ⟨gb245, _, none⟩) NB233_245.out _).trans (((cell_far (p := ⟨gb245, _, none⟩) NB233_245.out _).trans (hHeld.2.2.2.2))))))⟩ (fun hHeld => ?_)
          clear hK K
          refine pure_ (i := 10) (N := some 7) (v := ?_) (a' := ?_) #[true, true, true, true, true, true, true, true, true, true, true] rfl rfl (any_of HT_.out zL_14) (fun _ _ _ h => h) (Or.inl ⟨by rfl, ?_⟩) ?_ ?_
          rotate_left
          · intro w'
            go_simp
            with_reducible rfl
          rotate_left
          · simp only [Act.put, List.setIfInBounds_toArray, List.set_cons_zero, List.set_cons_succ, i64_w, i32_w]
            rfl
          refine done_ (done_of HT_.out zL_14) ?_
          try go_wp2
          have n0_ : Aside0 ((((w40.setCell ⟨gb245, 0, none⟩ (.string t241)).setCell ⟨gb245, 1, none⟩ (.string t242)).setCell ⟨gb245, 2, none⟩ (.int .i64 t243)).heap[gb232]? = some (.cells #[.string a0_0, .string a0_1, .int .i64 a0_2] 47 (0, 0))) := ⟨by (with_reducible repeat (first | refine blk_drewN ?_ _ | refine blk_drew ?_ | refine blk_alloc ?_ _)); refine blk_far ?_ NB232_245.out _; (with_reducible repeat (first | refine blk_drewN ?_ _ | refine blk_drew ?_ | refine blk_alloc ?_ _)); refine blk_far ?_ NB232_245.out _; (with_reducible repeat (first | refine blk_drewN ?_ _ | refine blk_drew ?_ | refine blk_alloc ?_ _)); refine blk_far ?_ NB232_245.out _; (with_reducible repeat (first | refine blk_drewN ?_ _ | refine blk_drew ?_ | refine blk_alloc ?_ _)); exact BK232.out⟩
          have n1_ : Aside0 ((((w40.setCell ⟨gb245, 0, none⟩ (.string t241)).setCell ⟨gb245, 1, none⟩ (.string t242)).setCell ⟨gb245, 2, none⟩ (.int .i64 t243)).heap[gb233]? = some (.cells #[.string a1_0, .string a1_1] 35 (0, 0))) := ⟨by (with_reducible repeat (first | refine blk_drewN ?_ _ | refine blk_drew ?_ | refine blk_alloc ?_ _)); refine blk_far ?_ NB233_245.out _; (with_reducible repeat (first | refine blk_drewN ?_ _ | refine blk_drew ?_ | refine blk_alloc ?_ _)); refine blk_far ?_ NB233_245.out _; (with_reducible repeat (first | refine blk_drewN ?_ _ | refine blk_drew ?_ | refine blk_alloc ?_ _)); refine blk_far ?_ NB233_245.out _; (with_reducible repeat (first | refine blk_drewN ?_ _ | refine blk_drew ?_ | refine blk_alloc ?_ _)); exact BK233.out⟩
          have n2_ : Aside0 ((((w40.setCell ⟨gb245, 0, none⟩ (.string t241)).setCell ⟨gb245, 1, none⟩ (.string t242)).setCell ⟨gb245, 2, none⟩ (.int .i64 t243)).heap[gb245]? = some (.cells #[.string t241, .string t242, .int .i64 t243] 42 (0, 0))) := ⟨by (with_reducible repeat (first | refine blk_drewN ?_ _ | refine blk_drew ?_ | refine blk_alloc ?_ _)); refine blk_put (cs := #[.string t241, .string t242, .int .i64 0]) ?_ 2 _ rfl; (with_reducible repeat (first | refine blk_drewN ?_ _ | refine blk_drew ?_ | refine blk_alloc ?_ _)); refine blk_put (cs := #[.string t241, .string (⟨#[]⟩ : ByteArray), .int .i64 0]) ?_ 1 _ rfl; (with_reducible repeat (first | refine blk_drewN ?_ _ | refine blk_drew ?_ | refine blk_alloc ?_ _)); refine blk_put (cs := #[.string (⟨#[]⟩ : ByteArray), .string (⟨#[]⟩ : ByteArray), .int .i64 0]) ?_ 0 _ rfl; (with_reducible repeat (first | refine blk_drewN ?_ _ | refine blk_drew ?_ | refine blk_alloc ?_ _)); exact BK245.out⟩
          have n3_ : Aside0 (Below w.heap.size w (((w40.setCell ⟨gb245, 0, none⟩ (.string t241)).setCell ⟨gb245, 1, none⟩ (.string t242)).setCell ⟨gb245, 2, none⟩ (.int .i64 t243))) := ⟨zL_2⟩
          (try clear BK232)
          (try clear BK233)
          (try clear BK245)
          (try clear HB)
          generalize (((w40.setCell ⟨gb245, 0, none⟩ (.string t241)).setCell ⟨gb245, 1, none⟩ (.string t242)).setCell ⟨gb245, 2, none⟩ (.int .i64 t243)) = w44 at n0_ n1_ n2_ n3_ ⊢
          have BK232 := n0_
          have BK233 := n1_
          have BK245 := n2_
          have HB := n3_
          clear n0_ n1_ n2_ n3_
          have n0_ := Aside0.mk (blk_drew BK232.out)
          have n1_ := Aside0.mk (blk_drew BK233.out)
          have n2_ := Aside0.mk (blk_drew BK245.out)
          have n3_ := Aside0.mk (below_drew1 HB.out)
          clear BK232
          clear BK233
          clear BK245
          clear HB
          have BK232 := n0_
          have BK233 := n1_
          have BK245 := n2_
          have HB := n3_
          clear n0_ n1_ n2_ n3_
          refine start_ (n := 11) (S := fun w' => w'.cell? ⟨gb232, 0, none⟩ = some (.string a0_0) ∧ w'.cell? ⟨gb232, 1, none⟩ = some (.string a0_1) ∧ w'.cell? ⟨gb232, 2, none⟩ = some (.int .i64 a0_2) ∧ w'.cell? ⟨gb233, 0, none⟩ = some (.string a1_0) ∧ w'.cell? ⟨gb233, 1, none⟩ = some (.string a1_1)) (ds := []) #[false, false, false, false, false, false, false, false, false, false, false] zL_14 rfl rfl ⟨(blk_cell BK232.out 0).trans rfl, (blk_cell BK232.out 1).trans rfl, (blk_cell BK232.out 2).trans rfl, (blk_cell BK233.out 0).trans rfl, (blk_cell BK233.out 1).trans rfl⟩ (fun hHeld => ?_); refine with_tabW laws_FnExactAppendRecord.tab9 laws_FnExactAppendRecord.bits9 (fun HT_ HW_ => ?_)
          generalize w44.drew = w45 at BK232 BK233 BK245 HB hHeld ⊢
          refine take_ (i := 0) (N := some 29) (v := ?_) (a' := ?_) #[true, false, false, false, false, false, false, false, false, false, false] rfl rfl (take_ofW HT_.out HW_.out zL_14) (fun _ _ _ h => h) (Or.inl ⟨by rfl, ?_⟩) hHeld ?_ ?_
          rotate_left
          · rintro w' ⟨s0, s1, s2, s3, s4⟩
            go_simp
            with_reducible rfl
          rotate_left
          · simp only [Act.put, List.setIfInBounds_toArray, List.set_cons_zero, List.set_cons_succ, i64_w, i32_w]
            rfl
          refine take_ (i := 2) (N := some 31) (v := ?_) (a' := ?_) #[true, false, true, false, false, false, false, false, false, false, false] rfl rfl (take_ofW HT_.out HW_.out zL_14) (fun _ _ _ h => h) (Or.inl ⟨by rfl, ?_⟩) hHeld ?_ ?_
          rotate_left
          · rintro w' ⟨s0, s1, s2, s3, s4⟩
            go_simp
            with_reducible rfl
          rotate_left
          · simp only [Act.put, List.setIfInBounds_toArray, List.set_cons_zero, List.set_cons_succ, i64_w, i32_w]
            rfl
          refine join_ (σ := Nat) 2 #[true, true, true, true, true, true, true, true, true, false, false] (fun s_ => [(30, .agg #[.string t246, .string t247, .int .i64 t248]), (32, .agg #[.string t249, .string t250]), (33, .tuple #[.agg #[.string t251, .string t252, .int .i64 t253], .int .i64 t254]), (8, .pointer (some ⟨s_, 0, none⟩)), (28, .tuple #[.agg #[.string t251, .string t252, .int .i64 t253], .int .i64 t254]), (34, .agg #[.string t251, .string t252, .int .i64 t253]), (35, .int .i64 t254)]) (fun s_ w' => (w'.cell? ⟨gb232, 0, none⟩ = some (.string a0_0) ∧ w'.cell? ⟨gb232, 1, none⟩ = some (.string a0_1) ∧ w'.cell? ⟨gb232, 2, none⟩ = some (.int .i64 a0_2) ∧ w'.cell? ⟨gb233, 0, none⟩ = some (.string a1_0) ∧ w'.cell? ⟨gb233, 1, none⟩ = some (.string a1_1)) ∧ (w'.heap[gb232]? = some (.cells #[.string a0_0, .string a0_1, .int .i64 a0_2] 47 (0, 0))) ∧ (w'.heap[gb233]? = some (.cells #[.string a1_0, .string a1_1] 35 (0, 0))) ∧ (w'.heap[gb245]? = some (.cells #[.string t241, .string t242, .int .i64 t243] 42 (0, 0))) ∧ (w'.heap[s_]? = some (.cells #[.string (⟨#[]⟩ : ByteArray), .string (⟨#[]⟩ : ByteArray), .int .i64 0] 42 (0, 0))) ∧ (w.heap.size ≤ s_) ∧ (w.heap.size ≤ s_) ∧ (gb232 ≠ s_) ∧ (s_ ≠ gb232) ∧ (gb233 ≠ s_) ∧ (s_ ≠ gb233) ∧ (gb245 ≠ s_) ∧ (s_ ≠ gb245) ∧ (Below w.heap.size w w')) ?_ ?_
          rotate_left
          · intro hCont
            refine two_ (i := 1) (j := 8) (Ni := some 30) (Nj := some 8) #[true, true, true, false, false, false, false, false, false, false, false] #[true, false, true, false, false, false, false, false, true, false, false] rfl rfl rfl rfl (two_of HT_.out zL_14) (by decide) (by decide) (fun K hK => ?_) (fun K hK => ?_)
            · skip
              refine goes_ Tryd.func32 zL_14 rfl #[.agg #[.string a0_0, .string a0_1, .int .i64 a0_2]] (by rfl) rfl rfl zL_6 ?_
              with_reducible refine (laws_toLog.calls a0_0 a0_1 a0_2 t246 t247 t248 _ A22.out).mono ?_
              rintro e w46 ⟨rfl, hb⟩
              refine ⟨_, rfl, ?_⟩
              have n0_ := Aside0.mk (blk_below (g := gb232) (o := .cells #[.string a0_0, .string a0_1, .int .i64 a0_2] 47 (0, 0)) zL_0 hb)
              have n1_ := Aside0.mk (blk_below (g := gb233) (o := .cells #[.string a1_0, .string a1_1] 35 (0, 0)) zL_1 hb)
              have n2_ := Aside0.mk (blk_below (g := gb245) (o := .cells #[.string t241, .string t242, .int .i64 t243] 42 (0, 0)) zL_4 hb)
              have n3_ := Aside0.mk (below_step zL_2 hb)
              clear BK232
              clear BK233
              clear BK245
              clear HB
              have BK232 := n0_
              have BK233 := n1_
              have BK245 := n2_
              have HB := n3_
              clear n0_ n1_ n2_ n3_
              (try clear hb)
              (try clear hb2)
              (try clear hk)
              (try clear hi)
              refine hK.out _ _ ⟨(blk_cell BK232.out 0).trans rfl, (blk_cell BK232.out 1).trans rfl, (blk_cell BK232.out 2).trans rfl, (blk_cell BK233.out 0).trans rfl, (blk_cell BK233.out 1).trans rfl⟩ (fun hHeld => ?_)
              clear hK K
              refine norm_ (a' := ?_) ?_ ?_
              rotate_left
              · show Act.put _ (some 30) _ = _
                simp only [Act.put, List.setIfInBounds_toArray, List.set_cons_zero, List.set_cons_succ, i64_w, i32_w]
                rfl
              refine two_ (i := 3) (j := 8) (Ni := some 32) (Nj := some 8) #[true, true, true, true, false, false, false, false, false, false, false] #[true, true, true, false, false, false, false, false, true, false, false] rfl rfl rfl rfl (two_of HT_.out zL_14) (by decide) (by decide) (fun K hK => ?_) (fun K hK => ?_)
              · skip
                refine goes_ Tryd.func25 zL_14 rfl #[.agg #[.string a1_0, .string a1_1]] (by rfl) rfl rfl zL_6 ?_
                with_reducible refine (laws_toLogRecord.calls a1_0 a1_1 t249 t250 _ A23.out).mono ?_
                rintro e w47 ⟨rfl, hb⟩
                refine ⟨_, rfl, ?_⟩
                have n0_ := Aside0.mk (blk_below (g := gb232) (o := .cells #[.string a0_0, .string a0_1, .int .i64 a0_2] 47 (0, 0)) zL_0 hb)
                have n1_ := Aside0.mk (blk_below (g := gb233) (o := .cells #[.string a1_0, .string a1_1] 35 (0, 0)) zL_1 hb)
                have n2_ := Aside0.mk (blk_below (g := gb245) (o := .cells #[.string t241, .string t242, .int .i64 t243] 42 (0, 0)) zL_4 hb)
                have n3_ := Aside0.mk (below_step zL_2 hb)
                clear BK232
                clear BK233
                clear BK245
                clear HB
                have BK232 := n0_
                have BK233 := n1_
                have BK245 := n2_
                have HB := n3_
                clear n0_ n1_ n2_ n3_
                (try clear hb)
                (try clear hb2)
                (try clear hk)
                (try clear hi)
                refine hK.out _ _ ⟨(blk_cell BK232.out 0).trans rfl, (blk_cell BK232.out 1).trans rfl, (blk_cell BK232.out 2).trans rfl, (blk_cell BK233.out 0).trans rfl, (blk_cell BK233.out 1).trans rfl⟩ (fun hHeld => ?_)
                clear hK K
                refine norm_ (a' := ?_) ?_ ?_
                rotate_left
                · show Act.put _ (some 32) _ = _
                  simp only [Act.put, List.setIfInBounds_toArray, List.set_cons_zero, List.set_cons_succ, i64_w, i32_w]
                  rfl
                refine two_ (i := 4) (j := 8) (Ni := some 33) (Nj := some 8) #[true, true, true, true, true, false, false, false, false, false, false] #[true, true, true, true, false, false, false, false, true, false, false] rfl rfl rfl rfl (two_of HT_.out zL_14) (by decide) (by decide) (fun K hK => ?_) (fun K hK => ?_)
                · skip
                  refine goes_ Tryd.func39 zL_14 rfl #[.agg #[.string t246, .string t247, .int .i64 t248], .agg #[.string t249, .string t250]] (by rfl) rfl rfl zL_6 ?_
                  with_reducible refine (impl_AppendRecord.calls k t246 t247 t248 t249 t250 t251 t252 t253 t254 _ ?side1 A24.out).mono ?_
                  (case side1 => exact Glob.below HGL.out zL_2)
                  rintro e w48 ⟨rfl, hb⟩
                  refine ⟨_, rfl, ?_⟩
                  have n0_ := Aside0.mk (blk_below (g := gb232) (o := .cells #[.string a0_0, .string a0_1, .int .i64 a0_2] 47 (0, 0)) zL_0 hb)
                  have n1_ := Aside0.mk (blk_below (g := gb233) (o := .cells #[.string a1_0, .string a1_1] 35 (0, 0)) zL_1 hb)
                  have n2_ := Aside0.mk (blk_below (g := gb245) (o := .cells #[.string t241, .string t242, .int .i64 t243] 42 (0, 0)) zL_4 hb)
                  have n3_ := Aside0.mk (below_step zL_2 hb)
                  clear BK232
                  clear BK233
                  clear BK245
                  clear HB
                  have BK232 := n0_
                  have BK233 := n1_
                  have BK245 := n2_
                  have HB := n3_
                  clear n0_ n1_ n2_ n3_
                  (try clear hb)
                  (try clear hb2)
                  (try clear hk)
                  (try clear hi)
                  refine hK.out _ _ ⟨(blk_cell BK232.out 0).trans rfl, (blk_cell BK232.out 1).trans rfl, (blk_cell BK232.out 2).trans rfl, (blk_cell BK233.out 0).trans rfl, (blk_cell BK233.out 1).trans rfl⟩ (fun hHeld => ?_)
                  clear hK K
                  refine norm_ (a' := ?_) ?_ ?_
                  rotate_left
                  · show Act.put _ (some 33) _ = _
                    simp only [Act.put, List.setIfInBounds_toArray, List.set_cons_zero, List.set_cons_succ, i64_w, i32_w]
                    rfl
                  refine pure_ (i := 5) (N := some 28) (v := ?_) (a' := ?_) #[true, true, true, true, true, true, false, false, false, false, false] rfl rfl (any_of HT_.out zL_14) (fun _ _ _ h => h) (Or.inl ⟨by rfl, ?_⟩) ?_ ?_
                  rotate_left
                  · intro w'
                    go_simp
                    with_reducible rfl
                  rotate_left
                  · simp only [Act.put, List.setIfInBounds_toArray, List.set_cons_zero, List.set_cons_succ, i64_w, i32_w]
                    rfl
                  refine pure_ (i := 6) (N := some 34) (v := ?_) (a' := ?_) #[true, true, true, true, true, true, true, false, false, false, false] rfl rfl (any_of HT_.out zL_14) (fun _ _ _ h => h) (Or.inl ⟨by rfl, ?_⟩) ?_ ?_
                  rotate_left
                  · intro w'
                    go_simp
                    with_reducible rfl
                  rotate_left
                  · simp only [Act.put, List.setIfInBounds_toArray, List.set_cons_zero, List.set_cons_succ, i64_w, i32_w]
                    rfl
                  refine pure_ (i := 7) (N := some 35) (v := ?_) (a' := ?_) #[true, true, true, true, true, true, true, true, false, false, false] rfl rfl (any_of HT_.out zL_14) (fun _ _ _ h => h) (Or.inl ⟨by rfl, ?_⟩) ?_ ?_
                  rotate_left
                  · intro w'
                    go_simp
                    with_reducible rfl
                  rotate_left
                  · simp only [Act.put, List.setIfInBounds_toArray, List.set_cons_zero, List.set_cons_succ, i64_w, i32_w]
                    rfl
                  refine one_ (i := 8) (N := some 8) #[true, true, true, true, true, true, true, true, true, false, false] rfl rfl (one_of HT_.out zL_14) (by decide) (fun K hK => ?_)
                  refine box_step ?hg (N := 8) ?hd (cs := #[.string (⟨#[]⟩ : ByteArray), .string (⟨#[]⟩ : ByteArray), .int .i64 0]) (t := 42) ?hr ?_; (case hd => rfl); (case hg => rfl); (case hr => first | (go_simp; done) | (go_simp; rfl))
                  intro gb255 hg w49 hbox hb
                  have n0_ := Aside0.mk (blk_below (g := gb232) (o := .cells #[.string a0_0, .string a0_1, .int .i64 a0_2] 47 (0, 0)) zL_0 hb)
                  have n1_ := Aside0.mk (blk_below (g := gb233) (o := .cells #[.string a1_0, .string a1_1] 35 (0, 0)) zL_1 hb)
                  have n2_ := Aside0.mk (blk_below (g := gb245) (o := .cells #[.string t241, .string t242, .int .i64 t243] 42 (0, 0)) zL_4 hb)
                  have n3_ := Aside0.mk (below_step zL_2 hb)
                  have n4_ := Aside0.mk (hbox)
                  have n5_ := Aside0.mk ((zL_19 : w.heap.size ≤ gb255))
                  have n6_ := Aside0.mk ((zL_19 : w.heap.size ≤ gb255))
                  have n7_ := Aside0.mk ((zL_8 : gb232 ≠ gb255))
                  have n8_ := Aside0.mk ((zL_9 : gb255 ≠ gb232))
                  have n9_ := Aside0.mk ((zL_12 : gb233 ≠ gb255))
                  have n10_ := Aside0.mk ((zL_13 : gb255 ≠ gb233))
                  have n11_ := Aside0.mk ((zL_16 : gb245 ≠ gb255))
                  have n12_ := Aside0.mk ((zL_17 : gb255 ≠ gb245))
                  clear BK232
                  clear BK233
                  clear BK245
                  clear HB
                  have BK232 := n0_
                  have BK233 := n1_
                  have BK245 := n2_
                  have HB := n3_
                  have BK255 := n4_
                  have GW255 := n5_
                  have GE255 := n6_
                  have NB232_255 := n7_
                  have NB255_232 := n8_
                  have NB233_255 := n9_
                  have NB255_233 := n10_
                  have NB245_255 := n11_
                  have NB255_245 := n12_
                  clear n0_ n1_ n2_ n3_ n4_ n5_ n6_ n7_ n8_ n9_ n10_ n11_ n12_
                  clear hb hbox hg
                  refine hK.out _ _ ⟨(blk_cell BK232.out 0).trans rfl, (blk_cell BK232.out 1).trans rfl, (blk_cell BK232.out 2).trans rfl, (blk_cell BK233.out 0).trans rfl, (blk_cell BK233.out 1).trans rfl⟩ (fun hHeld => ?_)
                  clear hK K
                  refine norm_ (a' := ?_) ?_ ?_
                  rotate_left
                  · show Act.put _ (some 8) _ = _
                    simp only [Act.put, List.setIfInBounds_toArray, List.set_cons_zero, List.set_cons_succ, i64_w, i32_w]
                    rfl
                  exact norm_ zL_15 (hCont (gb255) _ ⟨hHeld, zL_0, zL_1, zL_4, zL_11, GW255.out, GE255.out, NB232_255.out, NB255_232.out, NB233_255.out, NB255_233.out, NB245_255.out, NB255_245.out, zL_5⟩)
                · skip
                  refine box_step ?hg (N := 8) ?hd (cs := #[.string (⟨#[]⟩ : ByteArray), .string (⟨#[]⟩ : ByteArray), .int .i64 0]) (t := 42) ?hr ?_; (case hd => rfl); (case hg => rfl); (case hr => first | (go_simp; done) | (go_simp; rfl))
                  intro gb255 hg w48 hbox hb
                  have n0_ := Aside0.mk (blk_below (g := gb232) (o := .cells #[.string a0_0, .string a0_1, .int .i64 a0_2] 47 (0, 0)) zL_0 hb)
                  have n1_ := Aside0.mk (blk_below (g := gb233) (o := .cells #[.string a1_0, .string a1_1] 35 (0, 0)) zL_1 hb)
                  have n2_ := Aside0.mk (blk_below (g := gb245) (o := .cells #[.string t241, .string t242, .int .i64 t243] 42 (0, 0)) zL_4 hb)
                  have n3_ := Aside0.mk (below_step zL_2 hb)
                  have n4_ := Aside0.mk (hbox)
                  have n5_ := Aside0.mk ((zL_19 : w.heap.size ≤ gb255))
                  have n6_ := Aside0.mk ((zL_19 : w.heap.size ≤ gb255))
                  have n7_ := Aside0.mk ((zL_8 : gb232 ≠ gb255))
                  have n8_ := Aside0.mk ((zL_9 : gb255 ≠ gb232))
                  have n9_ := Aside0.mk ((zL_12 : gb233 ≠ gb255))
                  have n10_ := Aside0.mk ((zL_13 : gb255 ≠ gb233))
                  have n11_ := Aside0.mk ((zL_16 : gb245 ≠ gb255))
                  have n12_ := Aside0.mk ((zL_17 : gb255 ≠ gb245))
                  clear BK232
                  clear BK233
                  clear BK245
                  clear HB
                  have BK232 := n0_
                  have BK233 := n1_
                  have BK245 := n2_
                  have HB := n3_
                  have BK255 := n4_
                  have GW255 := n5_
                  have GE255 := n6_
                  have NB232_255 := n7_
                  have NB255_232 := n8_
                  have NB233_255 := n9_
                  have NB255_233 := n10_
                  have NB245_255 := n11_
                  have NB255_245 := n12_
                  clear n0_ n1_ n2_ n3_ n4_ n5_ n6_ n7_ n8_ n9_ n10_ n11_ n12_
                  clear hb hbox hg
                  refine hK.out _ _ ⟨(blk_cell BK232.out 0).trans rfl, (blk_cell BK232.out 1).trans rfl, (blk_cell BK232.out 2).trans rfl, (blk_cell BK233.out 0).trans rfl, (blk_cell BK233.out 1).trans rfl⟩ (fun hHeld => ?_)
                  clear hK K
                  refine norm_ (a' := ?_) ?_ ?_
                  rotate_left
                  · show Act.put _ (some 8) _ = _
                    simp only [Act.put, List.setIfInBounds_toArray, List.set_cons_zero, List.set_cons_succ, i64_w, i32_w]
                    rfl
                  refine one_ (i := 4) (N := some 33) #[true, true, true, true, true, false, false, false, true, false, false] rfl rfl (one_of HT_.out zL_14) (by decide) (fun K hK => ?_)
                  refine goes_ Tryd.func39 zL_14 rfl #[.agg #[.string t246, .string t247, .int .i64 t248], .agg #[.string t249, .string t250]] (by rfl) rfl rfl zL_6 ?_
                  with_reducible refine (impl_AppendRecord.calls k t246 t247 t248 t249 t250 t251 t252 t253 t254 _ ?side1 A24.out).mono ?_
                  (case side1 => exact Glob.below HGL.out zL_5)
                  rintro e w49 ⟨rfl, hb⟩
                  refine ⟨_, rfl, ?_⟩
                  have n0_ := Aside0.mk (blk_below (g := gb232) (o := .cells #[.string a0_0, .string a0_1, .int .i64 a0_2] 47 (0, 0)) zL_0 hb)
                  have n1_ := Aside0.mk (blk_below (g := gb233) (o := .cells #[.string a1_0, .string a1_1] 35 (0, 0)) zL_1 hb)
                  have n2_ := Aside0.mk (blk_below (g := gb245) (o := .cells #[.string t241, .string t242, .int .i64 t243] 42 (0, 0)) zL_4 hb)
                  have n3_ := Aside0.mk (blk_below (g := gb255) (o := .cells #[.string (⟨#[]⟩ : ByteArray), .string (⟨#[]⟩ : ByteArray), .int .i64 0] 42 (0, 0)) zL_11 hb)
                  have n4_ := Aside0.mk (below_step zL_5 hb)
                  clear BK232
                  clear BK233
                  clear BK245
                  clear BK255
                  clear HB
                  have BK232 := n0_
                  have BK233 := n1_
                  have BK245 := n2_
                  have BK255 := n3_
                  have HB := n4_
                  clear n0_ n1_ n2_ n3_ n4_
                  (try clear hb)
                  (try clear hb2)
                  (try clear hk)
                  (try clear hi)
                  refine hK.out _ _ ⟨(blk_cell BK232.out 0).trans rfl, (blk_cell BK232.out 1).trans rfl, (blk_cell BK232.out 2).trans rfl, (blk_cell BK233.out 0).trans rfl, (blk_cell BK233.out 1).trans rfl⟩ (fun hHeld => ?_)
                  clear hK K
                  refine norm_ (a' := ?_) ?_ ?_
                  rotate_left
                  · show Act.put _ (some 33) _ = _
                    simp only [Act.put, List.setIfInBounds_toArray, List.set_cons_zero, List.set_cons_succ, i64_w, i32_w]
                    rfl
                  refine pure_ (i := 5) (N := some 28) (v := ?_) (a' := ?_) #[true, true, true, true, true, true, false, false, true, false, false] rfl rfl (any_of HT_.out zL_14) (fun _ _ _ h => h) (Or.inl ⟨by rfl, ?_⟩) ?_ ?_
                  rotate_left
                  · intro w'
                    go_simp
                    with_reducible rfl
                  rotate_left
                  · simp only [Act.put, List.setIfInBounds_toArray, List.set_cons_zero, List.set_cons_succ, i64_w, i32_w]
                    rfl
                  refine pure_ (i := 6) (N := some 34) (v := ?_) (a' := ?_) #[true, true, true, true, true, true, true, false, true, false, false] rfl rfl (any_of HT_.out zL_14) (fun _ _ _ h => h) (Or.inl ⟨by rfl, ?_⟩) ?_ ?_
                  rotate_left
                  · intro w'
                    go_simp
                    with_reducible rfl
                  rotate_left
                  · simp only [Act.put, List.setIfInBounds_toArray, List.set_cons_zero, List.set_cons_succ, i64_w, i32_w]
                    rfl
                  refine pure_ (i := 7) (N := some 35) (v := ?_) (a' := ?_) #[true, true, true, true, true, true, true, true, true, false, false] rfl rfl (any_of HT_.out zL_14) (fun _ _ _ h => h) (Or.inl ⟨by rfl, ?_⟩) ?_ ?_
                  rotate_left
                  · intro w'
                    go_simp
                    with_reducible rfl
                  rotate_left
                  · simp only [Act.put, List.setIfInBounds_toArray, List.set_cons_zero, List.set_cons_succ, i64_w, i32_w]
                    rfl
                  exact norm_ zL_15 (hCont (gb255) _ ⟨hHeld, zL_0, zL_1, zL_4, zL_11, GW255.out, GE255.out, NB232_255.out, NB255_232.out, NB233_255.out, NB255_233.out, NB245_255.out, NB255_245.out, zL_5⟩)
              · skip
                refine box_step ?hg (N := 8) ?hd (cs := #[.string (⟨#[]⟩ : ByteArray), .string (⟨#[]⟩ : ByteArray), .int .i64 0]) (t := 42) ?hr ?_; (case hd => rfl); (case hg => rfl); (case hr => first | (go_simp; done) | (go_simp; rfl))
                intro gb255 hg w47 hbox hb
                have n0_ := Aside0.mk (blk_below (g := gb232) (o := .cells #[.string a0_0, .string a0_1, .int .i64 a0_2] 47 (0, 0)) zL_0 hb)
                have n1_ := Aside0.mk (blk_below (g := gb233) (o := .cells #[.string a1_0, .string a1_1] 35 (0, 0)) zL_1 hb)
                have n2_ := Aside0.mk (blk_below (g := gb245) (o := .cells #[.string t241, .string t242, .int .i64 t243] 42 (0, 0)) zL_4 hb)
                have n3_ := Aside0.mk (below_step zL_2 hb)
                have n4_ := Aside0.mk (hbox)
                have n5_ := Aside0.mk ((zL_19 : w.heap.size ≤ gb255))
                have n6_ := Aside0.mk ((zL_19 : w.heap.size ≤ gb255))
                have n7_ := Aside0.mk ((zL_8 : gb232 ≠ gb255))
                have n8_ := Aside0.mk ((zL_9 : gb255 ≠ gb232))
                have n9_ := Aside0.mk ((zL_12 : gb233 ≠ gb255))
                have n10_ := Aside0.mk ((zL_13 : gb255 ≠ gb233))
                have n11_ := Aside0.mk ((zL_16 : gb245 ≠ gb255))
                have n12_ := Aside0.mk ((zL_17 : gb255 ≠ gb245))
                clear BK232
                clear BK233
                clear BK245
                clear HB
                have BK232 := n0_
                have BK233 := n1_
                have BK245 := n2_
                have HB := n3_
                have BK255 := n4_
                have GW255 := n5_
                have GE255 := n6_
                have NB232_255 := n7_
                have NB255_232 := n8_
                have NB233_255 := n9_
                have NB255_233 := n10_
                have NB245_255 := n11_
                have NB255_245 := n12_
                clear n0_ n1_ n2_ n3_ n4_ n5_ n6_ n7_ n8_ n9_ n10_ n11_ n12_
                clear hb hbox hg
                refine hK.out _ _ ⟨(blk_cell BK232.out 0).trans rfl, (blk_cell BK232.out 1).trans rfl, (blk_cell BK232.out 2).trans rfl, (blk_cell BK233.out 0).trans rfl, (blk_cell BK233.out 1).trans rfl⟩ (fun hHeld => ?_)
                clear hK K
                refine norm_ (a' := ?_) ?_ ?_
                rotate_left
                · show Act.put _ (some 8) _ = _
                  simp only [Act.put, List.setIfInBounds_toArray, List.set_cons_zero, List.set_cons_succ, i64_w, i32_w]
                  rfl
                refine one_ (i := 3) (N := some 32) #[true, true, true, true, false, false, false, false, true, false, false] rfl rfl (one_of HT_.out zL_14) (by decide) (fun K hK => ?_)
                refine goes_ Tryd.func25 zL_14 rfl #[.agg #[.string a1_0, .string a1_1]] (by rfl) rfl rfl zL_6 ?_
                with_reducible refine (laws_toLogRecord.calls a1_0 a1_1 t249 t250 _ A23.out).mono ?_
                rintro e w48 ⟨rfl, hb⟩
                refine ⟨_, rfl, ?_⟩
                have n0_ := Aside0.mk (blk_below (g := gb232) (o := .cells #[.string a0_0, .string a0_1, .int .i64 a0_2] 47 (0, 0)) zL_0 hb)
                have n1_ := Aside0.mk (blk_below (g := gb233) (o := .cells #[.string a1_0, .string a1_1] 35 (0, 0)) zL_1 hb)
                have n2_ := Aside0.mk (blk_below (g := gb245) (o := .cells #[.string t241, .string t242, .int .i64 t243] 42 (0, 0)) zL_4 hb)
                have n3_ := Aside0.mk (blk_below (g := gb255) (o := .cells #[.string (⟨#[]⟩ : ByteArray), .string (⟨#[]⟩ : ByteArray), .int .i64 0] 42 (0, 0)) zL_11 hb)
                have n4_ := Aside0.mk (below_step zL_5 hb)
                clear BK232
                clear BK233
                clear BK245
                clear BK255
                clear HB
                have BK232 := n0_
                have BK233 := n1_
                have BK245 := n2_
                have BK255 := n3_
                have HB := n4_
                clear n0_ n1_ n2_ n3_ n4_
                (try clear hb)
                (try clear hb2)
                (try clear hk)
                (try clear hi)
                refine hK.out _ _ ⟨(blk_cell BK232.out 0).trans rfl, (blk_cell BK232.out 1).trans rfl, (blk_cell BK232.out 2).trans rfl, (blk_cell BK233.out 0).trans rfl, (blk_cell BK233.out 1).trans rfl⟩ (fun hHeld => ?_)
                clear hK K
                refine norm_ (a' := ?_) ?_ ?_
                rotate_left
                · show Act.put _ (some 32) _ = _
                  simp only [Act.put, List.setIfInBounds_toArray, List.set_cons_zero, List.set_cons_succ, i64_w, i32_w]
                  rfl
                refine one_ (i := 4) (N := some 33) #[true, true, true, true, true, false, false, false, true, false, false] rfl rfl (one_of HT_.out zL_14) (by decide) (fun K hK => ?_)
                refine goes_ Tryd.func39 zL_14 rfl #[.agg #[.string t246, .string t247, .int .i64 t248], .agg #[.string t249, .string t250]] (by rfl) rfl rfl zL_6 ?_
                with_reducible refine (impl_AppendRecord.calls k t246 t247 t248 t249 t250 t251 t252 t253 t254 _ ?side1 A24.out).mono ?_
                (case side1 => exact Glob.below HGL.out zL_5)
                rintro e w49 ⟨rfl, hb⟩
                refine ⟨_, rfl, ?_⟩
                have n0_ := Aside0.mk (blk_below (g := gb232) (o := .cells #[.string a0_0, .string a0_1, .int .i64 a0_2] 47 (0, 0)) zL_0 hb)
                have n1_ := Aside0.mk (blk_below (g := gb233) (o := .cells #[.string a1_0, .string a1_1] 35 (0, 0)) zL_1 hb)
                have n2_ := Aside0.mk (blk_below (g := gb245) (o := .cells #[.string t241, .string t242, .int .i64 t243] 42 (0, 0)) zL_4 hb)
                have n3_ := Aside0.mk (blk_below (g := gb255) (o := .cells #[.string (⟨#[]⟩ : ByteArray), .string (⟨#[]⟩ : ByteArray), .int .i64 0] 42 (0, 0)) zL_11 hb)
                have n4_ := Aside0.mk (below_step zL_5 hb)
                clear BK232
                clear BK233
                clear BK245
                clear BK255
                clear HB
                have BK232 := n0_
                have BK233 := n1_
                have BK245 := n2_
                have BK255 := n3_
                have HB := n4_
                clear n0_ n1_ n2_ n3_ n4_
                (try clear hb)
                (try clear hb2)
                (try clear hk)
                (try clear hi)
                refine hK.out _ _ ⟨(blk_cell BK232.out 0).trans rfl, (blk_cell BK232.out 1).trans rfl, (blk_cell BK232.out 2).trans rfl, (blk_cell BK233.out 0).trans rfl, (blk_cell BK233.out 1).trans rfl⟩ (fun hHeld => ?_)
                clear hK K
                refine norm_ (a' := ?_) ?_ ?_
                rotate_left
                · show Act.put _ (some 33) _ = _
                  simp only [Act.put, List.setIfInBounds_toArray, List.set_cons_zero, List.set_cons_succ, i64_w, i32_w]
                  rfl
                refine pure_ (i := 5) (N := some 28) (v := ?_) (a' := ?_) #[true, true, true, true, true, true, false, false, true, false, false] rfl rfl (any_of HT_.out zL_14) (fun _ _ _ h => h) (Or.inl ⟨by rfl, ?_⟩) ?_ ?_
                rotate_left
                · intro w'
                  go_simp
                  with_reducible rfl
                rotate_left
                · simp only [Act.put, List.setIfInBounds_toArray, List.set_cons_zero, List.set_cons_succ, i64_w, i32_w]
                  rfl
                refine pure_ (i := 6) (N := some 34) (v := ?_) (a' := ?_) #[true, true, true, true, true, true, true, false, true, false, false] rfl rfl (any_of HT_.out zL_14) (fun _ _ _ h => h) (Or.inl ⟨by rfl, ?_⟩) ?_ ?_
                rotate_left
                · intro w'
                  go_simp
                  with_reducible rfl
                rotate_left
                · simp only [Act.put, List.setIfInBounds_toArray, List.set_cons_zero, List.set_cons_succ, i64_w, i32_w]
                  rfl
                refine pure_ (i := 7) (N := some 35) (v := ?_) (a' := ?_) #[true, true, true, true, true, true, true, true, true, false, false] rfl rfl (any_of HT_.out zL_14) (fun _ _ _ h => h) (Or.inl ⟨by rfl, ?_⟩) ?_ ?_
                rotate_left
                · intro w'
                  go_simp
                  with_reducible rfl
                rotate_left
                · simp only [Act.put, List.setIfInBounds_toArray, List.set_cons_zero, List.set_cons_succ, i64_w, i32_w]
                  rfl
                exact norm_ zL_15 (hCont (gb255) _ ⟨hHeld, zL_0, zL_1, zL_4, zL_11, GW255.out, GE255.out, NB232_255.out, NB255_232.out, NB233_255.out, NB255_233.out, NB245_255.out, NB255_245.out, zL_5⟩)
            · skip
              refine box_step ?hg (N := 8) ?hd (cs := #[.string (⟨#[]⟩ : ByteArray), .string (⟨#[]⟩ : ByteArray), .int .i64 0]) (t := 42) ?hr ?_; (case hd => rfl); (case hg => rfl); (case hr => first | (go_simp; done) | (go_simp; rfl))
              intro gb255 hg w46 hbox hb
              have n0_ := Aside0.mk (blk_below (g := gb232) (o := .cells #[.string a0_0, .string a0_1, .int .i64 a0_2] 47 (0, 0)) zL_0 hb)
              have n1_ := Aside0.mk (blk_below (g := gb233) (o := .cells #[.string a1_0, .string a1_1] 35 (0, 0)) zL_1 hb)
              have n2_ := Aside0.mk (blk_below (g := gb245) (o := .cells #[.string t241, .string t242, .int .i64 t243] 42 (0, 0)) zL_4 hb)
              have n3_ := Aside0.mk (below_step zL_2 hb)
              have n4_ := Aside0.mk (hbox)
              have n5_ := Aside0.mk ((zL_19 : w.heap.size ≤ gb255))
              have n6_ := Aside0.mk ((zL_19 : w.heap.size ≤ gb255))
              have n7_ := Aside0.mk ((zL_8 : gb232 ≠ gb255))
              have n8_ := Aside0.mk ((zL_9 : gb255 ≠ gb232))
              have n9_ := Aside0.mk ((zL_12 : gb233 ≠ gb255))
              have n10_ := Aside0.mk ((zL_13 : gb255 ≠ gb233))
              have n11_ := Aside0.mk ((zL_16 : gb245 ≠ gb255))
              have n12_ := Aside0.mk ((zL_17 : gb255 ≠ gb245))
              clear BK232
              clear BK233
              clear BK245
              clear HB
              have BK232 := n0_
              have BK233 := n1_
              have BK245 := n2_
              have HB := n3_
              have BK255 := n4_
              have GW255 := n5_
              have GE255 := n6_
              have NB232_255 := n7_
              have NB255_232 := n8_
              have NB233_255 := n9_
              have NB255_233 := n10_
              have NB245_255 := n11_
              have NB255_245 := n12_
              clear n0_ n1_ n2_ n3_ n4_ n5_ n6_ n7_ n8_ n9_ n10_ n11_ n12_
              clear hb hbox hg
              refine hK.out _ _ ⟨(blk_cell BK232.out 0).trans rfl, (blk_cell BK232.out 1).trans rfl, (blk_cell BK232.out 2).trans rfl, (blk_cell BK233.out 0).trans rfl, (blk_cell BK233.out 1).trans rfl⟩ (fun hHeld => ?_)
              clear hK K
              refine norm_ (a' := ?_) ?_ ?_
              rotate_left
              · show Act.put _ (some 8) _ = _
                simp only [Act.put, List.setIfInBounds_toArray, List.set_cons_zero, List.set_cons_succ, i64_w, i32_w]
                rfl
              refine one_ (i := 1) (N := some 30) #[true, true, true, false, false, false, false, false, true, false, false] rfl rfl (one_of HT_.out zL_14) (by decide) (fun K hK => ?_)
              refine goes_ Tryd.func32 zL_14 rfl #[.agg #[.string a0_0, .string a0_1, .int .i64 a0_2]] (by rfl) rfl rfl zL_6 ?_
              with_reducible refine (laws_toLog.calls a0_0 a0_1 a0_2 t246 t247 t248 _ A22.out).mono ?_
              rintro e w47 ⟨rfl, hb⟩
              refine ⟨_, rfl, ?_⟩
              have n0_ := Aside0.mk (blk_below (g := gb232) (o := .cells #[.string a0_0, .string a0_1, .int .i64 a0_2] 47 (0, 0)) zL_0 hb)
              have n1_ := Aside0.mk (blk_below (g := gb233) (o := .cells #[.string a1_0, .string a1_1] 35 (0, 0)) zL_1 hb)
              have n2_ := Aside0.mk (blk_below (g := gb245) (o := .cells #[.string t241, .string t242, .int .i64 t243] 42 (0, 0)) zL_4 hb)
              have n3_ := Aside0.mk (blk_below (g := gb255) (o := .cells #[.string (⟨#[]⟩ : ByteArray), .string (⟨#[]⟩ : ByteArray), .int .i64 0] 42 (0, 0)) zL_11 hb)
              have n4_ := Aside0.mk (below_step zL_5 hb)
              clear BK232
              clear BK233
              clear BK245
              clear BK255
              clear HB
              have BK232 := n0_
              have BK233 := n1_
              have BK245 := n2_
              have BK255 := n3_
              have HB := n4_
              clear n0_ n1_ n2_ n3_ n4_
              (try clear hb)
              (try clear hb2)
              (try clear hk)
              (try clear hi)
              refine hK.out _ _ ⟨(blk_cell BK232.out 0).trans rfl, (blk_cell BK232.out 1).trans rfl, (blk_cell BK232.out 2).trans rfl, (blk_cell BK233.out 0).trans rfl, (blk_cell BK233.out 1).trans rfl⟩ (fun hHeld => ?_)
              clear hK K
              refine norm_ (a' := ?_) ?_ ?_
              rotate_left
              · show Act.put _ (some 30) _ = _
                simp only [Act.put, List.setIfInBounds_toArray, List.set_cons_zero, List.set_cons_succ, i64_w, i32_w]
                rfl
              refine one_ (i := 3) (N := some 32) #[true, true, true, true, false, false, false, false, true, false, false] rfl rfl (one_of HT_.out zL_14) (by decide) (fun K hK => ?_)
              refine goes_ Tryd.func25 zL_14 rfl #[.agg #[.string a1_0, .string a1_1]] (by rfl) rfl rfl zL_6 ?_
              with_reducible refine (laws_toLogRecord.calls a1_0 a1_1 t249 t250 _ A23.out).mono ?_
              rintro e w48 ⟨rfl, hb⟩
              refine ⟨_, rfl, ?_⟩
              have n0_ := Aside0.mk (blk_below (g := gb232) (o := .cells #[.string a0_0, .string a0_1, .int .i64 a0_2] 47 (0, 0)) zL_0 hb)
              have n1_ := Aside0.mk (blk_below (g := gb233) (o := .cells #[.string a1_0, .string a1_1] 35 (0, 0)) zL_1 hb)
              have n2_ := Aside0.mk (blk_below (g := gb245) (o := .cells #[.string t241, .string t242, .int .i64 t243] 42 (0, 0)) zL_4 hb)
              have n3_ := Aside0.mk (blk_below (g := gb255) (o := .cells #[.string (⟨#[]⟩ : ByteArray), .string (⟨#[]⟩ : ByteArray), .int .i64 0] 42 (0, 0)) zL_11 hb)
              have n4_ := Aside0.mk (below_step zL_5 hb)
              clear BK232
              clear BK233
              clear BK245
              clear BK255
              clear HB
              have BK232 := n0_
              have BK233 := n1_
              have BK245 := n2_
              have BK255 := n3_
              have HB := n4_
              clear n0_ n1_ n2_ n3_ n4_
              (try clear hb)
              (try clear hb2)
              (try clear hk)
              (try clear hi)
              refine hK.out _ _ ⟨(blk_cell BK232.out 0).trans rfl, (blk_cell BK232.out 1).trans rfl, (blk_cell BK232.out 2).trans rfl, (blk_cell BK233.out 0).trans rfl, (blk_cell BK233.out 1).trans rfl⟩ (fun hHeld => ?_)
              clear hK K
              refine norm_ (a' := ?_) ?_ ?_
              rotate_left
              · show Act.put _ (some 32) _ = _
                simp only [Act.put, List.setIfInBounds_toArray, List.set_cons_zero, List.set_cons_succ, i64_w, i32_w]
                rfl
              refine one_ (i := 4) (N := some 33) #[true, true, true, true, true, false, false, false, true, false, false] rfl rfl (one_of HT_.out zL_14) (by decide) (fun K hK => ?_)
              refine goes_ Tryd.func39 zL_14 rfl #[.agg #[.string t246, .string t247, .int .i64 t248], .agg #[.string t249, .string t250]] (by rfl) rfl rfl zL_6 ?_
              with_reducible refine (impl_AppendRecord.calls k t246 t247 t248 t249 t250 t251 t252 t253 t254 _ ?side1 A24.out).mono ?_
              (case side1 => exact Glob.below HGL.out zL_5)
              rintro e w49 ⟨rfl, hb⟩
              refine ⟨_, rfl, ?_⟩
              have n0_ := Aside0.mk (blk_below (g := gb232) (o := .cells #[.string a0_0, .string a0_1, .int .i64 a0_2] 47 (0, 0)) zL_0 hb)
              have n1_ := Aside0.mk (blk_below (g := gb233) (o := .cells #[.string a1_0, .string a1_1] 35 (0, 0)) zL_1 hb)
              have n2_ := Aside0.mk (blk_below (g := gb245) (o := .cells #[.string t241, .string t242, .int .i64 t243] 42 (0, 0)) zL_4 hb)
              have n3_ := Aside0.mk (blk_below (g := gb255) (o := .cells #[.string (⟨#[]⟩ : ByteArray), .string (⟨#[]⟩ : ByteArray), .int .i64 0] 42 (0, 0)) zL_11 hb)
              have n4_ := Aside0.mk (below_step zL_5 hb)
              clear BK232
              clear BK233
              clear BK245
              clear BK255
              clear HB
              have BK232 := n0_
              have BK233 := n1_
              have BK245 := n2_
              have BK255 := n3_
              have HB := n4_
              clear n0_ n1_ n2_ n3_ n4_
              (try clear hb)
              (try clear hb2)
              (try clear hk)
              (try clear hi)
              refine hK.out _ _ ⟨(blk_cell BK232.out 0).trans rfl, (blk_cell BK232.out 1).trans rfl, (blk_cell BK232.out 2).trans rfl, (blk_cell BK233.out 0).trans rfl, (blk_cell BK233.out 1).trans rfl⟩ (fun hHeld => ?_)
              clear hK K
              refine norm_ (a' := ?_) ?_ ?_
              rotate_left
              · show Act.put _ (some 33) _ = _
                simp only [Act.put, List.setIfInBounds_toArray, List.set_cons_zero, List.set_cons_succ, i64_w, i32_w]
                rfl
              refine pure_ (i := 5) (N := some 28) (v := ?_) (a' := ?_) #[true, true, true, true, true, true, false, false, true, false, false] rfl rfl (any_of HT_.out zL_14) (fun _ _ _ h => h) (Or.inl ⟨by rfl, ?_⟩) ?_ ?_
              rotate_left
              · intro w'
                go_simp
                with_reducible rfl
              rotate_left
              · simp only [Act.put, List.setIfInBounds_toArray, List.set_cons_zero, List.set_cons_succ, i64_w, i32_w]
                rfl
              refine pure_ (i := 6) (N := some 34) (v := ?_) (a' := ?_) #[true, true, true, true, true, true, true, false, true, false, false] rfl rfl (any_of HT_.out zL_14) (fun _ _ _ h => h) (Or.inl ⟨by rfl, ?_⟩) ?_ ?_
              rotate_left
              · intro w'
                go_simp
                with_reducible rfl
              rotate_left
              · simp only [Act.put, List.setIfInBounds_toArray, List.set_cons_zero, List.set_cons_succ, i64_w, i32_w]
                rfl
              refine pure_ (i := 7) (N := some 35) (v := ?_) (a' := ?_) #[true, true, true, true, true, true, true, true, true, false, false] rfl rfl (any_of HT_.out zL_14) (fun _ _ _ h => h) (Or.inl ⟨by rfl, ?_⟩) ?_ ?_
              rotate_left
              · intro w'
                go_simp
                with_reducible rfl
              rotate_left
              · simp only [Act.put, List.setIfInBounds_toArray, List.set_cons_zero, List.set_cons_succ, i64_w, i32_w]
                rfl
              exact norm_ zL_15 (hCont (gb255) _ ⟨hHeld, zL_0, zL_1, zL_4, zL_11, GW255.out, GE255.out, NB232_255.out, NB255_232.out, NB233_255.out, NB255_233.out, NB245_255.out, NB255_245.out, zL_5⟩)
          rintro gb255 w50 ⟨hS_, h0_, h1_, h2_, h3_, h4_, h5_, h6_, h7_, h8_, h9_, h10_, h11_, h12_⟩
          have n0_ : Aside0 (w50.heap[gb232]? = some (.cells #[.string a0_0, .string a0_1, .int .i64 a0_2] 47 (0, 0))) := ⟨h0_⟩
          have n1_ : Aside0 (w50.heap[gb233]? = some (.cells #[.string a1_0, .string a1_1] 35 (0, 0))) := ⟨h1_⟩
          have n2_ : Aside0 (w50.heap[gb245]? = some (.cells #[.string t241, .string t242, .int .i64 t243] 42 (0, 0))) := ⟨h2_⟩
          have n3_ : Aside0 (w50.heap[gb255]? = some (.cells #[.string (⟨#[]⟩ : ByteArray), .string (⟨#[]⟩ : ByteArray), .int .i64 0] 42 (0, 0))) := ⟨h3_⟩
          have n4_ : Aside0 (w.heap.size ≤ gb255) := ⟨h4_⟩
          have n5_ : Aside0 (w.heap.size ≤ gb255) := ⟨h5_⟩
          have n6_ : Aside0 (gb232 ≠ gb255) := ⟨h6_⟩
          have n7_ : Aside0 (gb255 ≠ gb232) := ⟨h7_⟩
          have n8_ : Aside0 (gb233 ≠ gb255) := ⟨h8_⟩
          have n9_ : Aside0 (gb255 ≠ gb233) := ⟨h9_⟩
          have n10_ : Aside0 (gb245 ≠ gb255) := ⟨h10_⟩
          have n11_ : Aside0 (gb255 ≠ gb245) := ⟨h11_⟩
          have n12_ : Aside0 (Below w.heap.size w w50) := ⟨h12_⟩
          clear BK232
          clear BK233
          clear BK245
          clear HB
          clear h0_ h1_ h2_ h3_ h4_ h5_ h6_ h7_ h8_ h9_ h10_ h11_ h12_
          have BK232 := n0_
          have BK233 := n1_
          have BK245 := n2_
          have BK255 := n3_
          have GW255 := n4_
          have GE255 := n5_
          have NB232_255 := n6_
          have NB255_232 := n7_
          have NB233_255 := n8_
          have NB255_233 := n9_
          have NB245_255 := n10_
          have NB255_245 := n11_
          have HB := n12_
          clear n0_ n1_ n2_ n3_ n4_ n5_ n6_ n7_ n8_ n9_ n10_ n11_ n12_
          have hHeld : w50.cell? ⟨gb232, 0, none⟩ = some (.string a0_0) ∧ w50.cell? ⟨gb232, 1, none⟩ = some (.string a0_1) ∧ w50.cell? ⟨gb232, 2, none⟩ = some (.int .i64 a0_2) ∧ w50.cell? ⟨gb233, 0, none⟩ = some (.string a1_0) ∧ w50.cell? ⟨gb233, 1, none⟩ = some (.string a1_1) := hS_
          refine norm_ (a' := ?_) ?_ ?_
          rotate_left
          · simp only [putAll, Act.put, List.setIfInBounds_toArray, List.set_cons_zero, List.set_cons_succ]
            rfl
          refine one_ (i := 9) (N := none) #[true, true, true, true, true, true, true, true, true, true, false] rfl rfl (one_of HT_.out zL_14) (by decide) (fun K hK => ?_)
          have hs51 : w50.cell? ⟨gb255, 0, none⟩ = some (.string (⟨#[]⟩ : ByteArray)) := (blk_cell BK255.out 0).trans rfl
          have hfs51 := blk_frozen BK255.out 0
          have hns51_0 := NB232_255.out
          have hns51_1 := NB233_255.out
          have hns51_2 := NB245_255.out
          have hms51_0 := NB255_232.out
          have hms51_1 := NB255_233.out
          have hms51_2 := NB255_245.out
          have hs52 : w50.cell? ⟨gb255, 1, none⟩ = some (.string (⟨#[]⟩ : ByteArray)) := (blk_cell BK255.out 1).trans rfl
          have hfs52 := blk_frozen BK255.out 1
          have hns52_0 := NB232_255.out
          have hns52_1 := NB233_255.out
          have hns52_2 := NB245_255.out
          have hms52_0 := NB255_232.out
          have hms52_1 := NB255_233.out
          have hms52_2 := NB255_245.out
          have hs53 : w50.cell? ⟨gb255, 2, none⟩ = some (.int .i64 0) := (blk_cell BK255.out 2).trans rfl
          have hfs53 := blk_frozen BK255.out 2
          have hns53_0 := NB232_255.out
          have hns53_1 := NB233_255.out
          have hns53_2 := NB245_255.out
          have hms53_0 := NB255_232.out
          have hms53_1 := NB255_233.out
          have hms53_2 := NB255_245.out
          refine skip_ (w1 := ?_) (by rfl) rfl ?_ ?_
          rotate_left
          · go_simp
            rfl
          refine hK.out _ _ ⟨((cell_far (p := ⟨gb255, _, none⟩) NB232_255.out _).trans (((cell_far (p := ⟨gb255, _, none⟩) NB232_255.out _).trans (((cell_far (p := ⟨gb255, _, none⟩) NB232_255.out _).trans (hHeld.1)))))), ((cell_far (p := ⟨gb255, _, none⟩) NB232_255.out _).trans (((cell_far (p := ⟨gb255, _, none⟩) NB232_255.out _).trans (((cell_far (p := ⟨gb255, _, none⟩) NB232_255.out _).trans (hHeld.2.1)))))), ((cell_far (p := ⟨gb255, _, none⟩) NB232_255.out _).trans (((cell_far (p := ⟨gb255, _, none⟩) NB232_255.out _).trans (((cell_far (p := ⟨gb255, _, none⟩) NB232_255.out _).trans (hHeld.2.2.1)))))), ((cell_far (p := ⟨gb255, _, none⟩) NB233_255.out _).trans (((cell_far (p := ⟨gb255, _, none⟩) NB233_255.out _).trans (((cell_far (p := ⟨gb255, _, none⟩) NB233_255.out _).trans (hHeld.2.2.2.1)))))), ((cell_far (p := ⟨gb255, _, none⟩) NB233_255.out _).trans (((cell_far (p := ⟨gb255, _, none⟩) NB233_255.out _).trans (((cell_far (p := ⟨gb255, _, none⟩) NB233_255.out _).trans (hHeld.2.2.2.2))))))⟩ (fun hHeld => ?_)
          clear hK K
          refine pure_ (i := 10) (N := some 9) (v := ?_) (a' := ?_) #[true, true, true, true, true, true, true, true, true, true, true] rfl rfl (any_of HT_.out zL_14) (fun _ _ _ h => h) (Or.inl ⟨by rfl, ?_⟩) ?_ ?_
          rotate_left
          · intro w'
            go_simp
            with_reducible rfl
          rotate_left
          · simp only [Act.put, List.setIfInBounds_toArray, List.set_cons_zero, List.set_cons_succ, i64_w, i32_w]
            rfl
          refine done_ (done_of HT_.out zL_14) ?_
          have hnb54 := NB255_232.out
          have hnc54 := NB232_255.out
          have hnb55 := NB255_233.out
          have hnc55 := NB233_255.out
          have hnb56 := NB255_245.out
          have hnc56 := NB245_255.out
          have hcz57_0 : w50.cell? ⟨gb255, 0, none⟩ = some (.string (⟨#[]⟩ : ByteArray)) := (blk_cell BK255.out 0).trans rfl
          have hcz57_1 : w50.cell? ⟨gb255, 1, none⟩ = some (.string (⟨#[]⟩ : ByteArray)) := (blk_cell BK255.out 1).trans rfl
          have hcz57_2 : w50.cell? ⟨gb255, 2, none⟩ = some (.int .i64 0) := (blk_cell BK255.out 2).trans rfl
          have hfz57_0 := blk_frozen BK255.out 0
          have hfz57_1 := blk_frozen BK255.out 1
          have hfz57_2 := blk_frozen BK255.out 2
          have hnb58 := NB245_232.out
          have hnc58 := NB232_245.out
          have hnb59 := NB245_233.out
          have hnc59 := NB233_245.out
          have hcz60_0 : w50.cell? ⟨gb245, 0, none⟩ = some (.string t241) := (blk_cell BK245.out 0).trans rfl
          have hcz60_1 : w50.cell? ⟨gb245, 1, none⟩ = some (.string t242) := (blk_cell BK245.out 1).trans rfl
          have hcz60_2 : w50.cell? ⟨gb245, 2, none⟩ = some (.int .i64 t243) := (blk_cell BK245.out 2).trans rfl
          have hfz60_0 := blk_frozen BK245.out 0
          have hfz60_1 := blk_frozen BK245.out 1
          have hfz60_2 := blk_frozen BK245.out 2
          try go_wp2_with (first | ((with_reducible refine gate_callee (f := 29) rfl ?_); refine goesL_ (some 38) rfl rfl Tryd.func29 zL_14 rfl #[.agg #[.string t251, .string t252, .int .i64 t253], .agg #[.string t241, .string t242, .int .i64 t243]] rfl zL_6 ?_; (with_reducible refine (laws_eqLog.calls t251 t252 t253 t241 t242 t243 true _ A25.out).mono ?_); rintro e w61 ⟨rfl, hb⟩; refine ⟨_, rfl, ?_⟩; have n0_ := Aside0.mk (blk_below (g := gb232) (o := .cells #[.string a0_0, .string a0_1, .int .i64 a0_2] 47 (0, 0)) (by (with_reducible repeat (first | refine blk_drewN ?_ _ | refine blk_drew ?_ | refine blk_alloc ?_ _)); refine blk_far ?_ NB232_255.out _; (with_reducible repeat (first | refine blk_drewN ?_ _ | refine blk_drew ?_ | refine blk_alloc ?_ _)); refine blk_far ?_ NB232_255.out _; (with_reducible repeat (first | refine blk_drewN ?_ _ | refine blk_drew ?_ | refine blk_alloc ?_ _)); refine blk_far ?_ NB232_255.out _; (with_reducible repeat (first | refine blk_drewN ?_ _ | refine blk_drew ?_ | refine blk_alloc ?_ _)); exact BK232.out) hb); have n1_ := Aside0.mk (blk_below (g := gb233) (o := .cells #[.string a1_0, .string a1_1] 35 (0, 0)) (by (with_reducible repeat (first | refine blk_drewN ?_ _ | refine blk_drew ?_ | refine blk_alloc ?_ _)); refine blk_far ?_ NB233_255.out _; (with_reducible repeat (first | refine blk_drewN ?_ _ | refine blk_drew ?_ | refine blk_alloc ?_ _)); refine blk_far ?_ NB233_255.out _; (with_reducible repeat (first | refine blk_drewN ?_ _ | refine blk_drew ?_ | refine blk_alloc ?_ _)); refine blk_far ?_ NB233_255.out _; (with_reducible repeat (first | refine blk_drewN ?_ _ | refine blk_drew ?_ | refine blk_alloc ?_ _)); exact BK233.out) hb); have n2_ := Aside0.mk (blk_below (g := gb245) (o := .cells #[.string t241, .string t242, .int .i64 t243] 42 (0, 0)) (by (with_reducible repeat (first | refine blk_drewN ?_ _ | refine blk_drew ?_ | refine blk_alloc ?_ _)); refine blk_far ?_ NB245_255.out _; (with_reducible repeat (first | refine blk_drewN ?_ _ | refine blk_drew ?_ | refine blk_alloc ?_ _)); refine blk_far ?_ NB245_255.out _; (with_reducible repeat (first | refine blk_drewN ?_ _ | refine blk_drew ?_ | refine blk_alloc ?_ _)); refine blk_far ?_ NB245_255.out _; (with_reducible repeat (first | refine blk_drewN ?_ _ | refine blk_drew ?_ | refine blk_alloc ?_ _)); exact BK245.out) hb); have n3_ := Aside0.mk (blk_below (g := gb255) (o := .cells #[.string t251, .string t252, .int .i64 t253] 42 (0, 0)) (by (with_reducible repeat (first | refine blk_drewN ?_ _ | refine blk_drew ?_ | refine blk_alloc ?_ _)); refine blk_put (cs := #[.string t251, .string t252, .int .i64 0]) ?_ 2 _ rfl; (with_reducible repeat (first | refine blk_drewN ?_ _ | refine blk_drew ?_ | refine blk_alloc ?_ _)); refine blk_put (cs := #[.string t251, .string (⟨#[]⟩ : ByteArray), .int .i64 0]) ?_ 1 _ rfl; (with_reducible repeat (first | refine blk_drewN ?_ _ | refine blk_drew ?_ | refine blk_alloc ?_ _)); refine blk_put (cs := #[.string (⟨#[]⟩ : ByteArray), .string (⟨#[]⟩ : ByteArray), .int .i64 0]) ?_ 0 _ rfl; (with_reducible repeat (first | refine blk_drewN ?_ _ | refine blk_drew ?_ | refine blk_alloc ?_ _)); exact BK255.out) hb); have n4_ := Aside0.mk (below_step zL_5 hb); clear BK232; clear BK233; clear BK245; clear BK255; clear HB; have BK232 := n0_; have BK233 := n1_; have BK245 := n2_; have BK255 := n3_; have HB := n4_; clear n0_ n1_ n2_ n3_ n4_; (try clear hb); (try clear hb2); (try clear hk); (try clear hi)))
          go_ret
          exact ⟨by first | rfl | (simp [errW_none, errW_some] <;> rfl) | (simp [*, errW_none, errW_some] <;> rfl), zL_5⟩
        · rw [if_neg c27] at H
          have c27b0 : (t254 == t244) = false := beq_eq_false_iff_ne.mpr c27
          have c27b1 : (t254 != t244) = true := bne_iff_ne.mpr c27
          exact absurd (Option.some.inj H) (by rw [hr]; decide)
      · replace c26 := Bool.eq_false_iff.mpr c26
        subst c26
        have H1 : (some false) = some r := by rw [if_neg (show ¬ (false = true) by decide)] at H; exact H
        clear H
        have H := H1
        clear H1
        exact absurd (Option.some.inj H) (by rw [hr]; decide)
end Go.Proofs.YtgclcjohnnpejaaDoor.Pr
end

section
namespace Go.Proofs.YtgclcjohnnpejaaDoor.PureL
open Go.RowKit Go.Proofs.YtgclcjohnnpejaaDoor.Pr Go.Proofs.YtgclcjohnnpejaaDoorW.PrintWords Go.Proofs.YtgclcjohnnpejaaDoorW.PrintLast
abbrev L (s : ByteArray) : List UInt8 := s.data.toList
theorem ext_L {a b : ByteArray} (h : L a = L b) : a = b := by
  obtain ⟨⟨la⟩⟩ := a
  obtain ⟨⟨lb⟩⟩ := b
  have : la = lb := h
  rw [this]
theorem size_L (s : ByteArray) : s.size = (L s).length := by simp only [L, Array.length_toList]; rfl
theorem L_append (a b : ByteArray) : L (a ++ b) = L a ++ L b := by
  simp [L]
theorem L_extract (s : ByteArray) (a b : Nat) : L (s.extract a b) = ((L s).drop a).take (b - a) := Lib.extract_data s a b
theorem L_toList (s : ByteArray) : s.toList = L s := Lib.toList_data s
theorem L_mk (l : List UInt8) : L ⟨l.toArray⟩ = l := rfl
theorem wrap_up {i : Int} {n : Nat} (h0 : 0 ≤ i) (h : i < (n : Int)) (hn : n ≤ 9223372036854775807) : wrap64 (i + 1) = i + 1 := by
  unfold wrap64
  omega
theorem wrap_in {i : Int} (h0 : -9223372036854775808 ≤ i) (h : i ≤ 9223372036854775807) : wrap64 i = i := by
  unfold wrap64
  omega
theorem bt_get (s : ByteArray) (i : Nat) (h : i < (L s).length) : bt s (i : Int) = (((L s)[i]'h).toNat : Int) := by
  have h' : i < s.size := by rw [size_L]; exact h
  unfold bt
  simp only [Int.toNat_natCast, h', dif_pos]
  rfl
theorem bt_drop {s : ByteArray} {i : Nat} {b : UInt8} {l : List UInt8} (h : (L s).drop i = b :: l) : bt s (i : Int) = (b.toNat : Int) ∧ (L s).drop (i + 1) = l ∧ i < s.size := by
  have hi : i < (L s).length := by
    apply Decidable.byContradiction
    intro hc
    rw [List.drop_eq_nil_of_le (by omega)] at h
    cases h
  have e := List.drop_eq_getElem_cons hi
  rw [h] at e
  injection e with e1 e2
  refine ⟨by rw [bt_get s i hi, e1], e2.symm, by rw [size_L]; exact hi⟩
theorem drop_nil_iff {s : ByteArray} {i : Nat} : (L s).drop i = [] ↔ s.size ≤ i := by rw [List.drop_eq_nil_iff, size_L]
theorem byte_eq (a b : UInt8) : ((a.toNat : Int) = (b.toNat : Int)) ↔ a = b := by
  constructor
  · intro h; exact UInt8.toNat_inj.1 (by omega)
  · rintro rfl; rfl
theorem stands_l0 (s : ByteArray) (c : UInt8) (hs : s.size ≤ 9223372036854775807) : ∀ (l : List UInt8) (i k : Nat), (L s).drop i = l → i ≤ s.size → l.length < k →
    spec_l1Stands.l0 k s (c.toNat : Int) (i : Int) = some (decide (c ∈ l))
  | [], i, k, h, hi, hk => by
    obtain ⟨k, rfl⟩ : ∃ m, k = m + 1 := ⟨k - 1, by omega⟩
    have := drop_nil_iff.1 h
    simp only [spec_l1Stands.l0]
    rw [if_neg (by omega)]
    simp
  | b :: l, i, k, h, hi, hk => by
    obtain ⟨k, rfl⟩ : ∃ m, k = m + 1 := ⟨k - 1, by omega⟩
    obtain ⟨h1, h2, h3⟩ := bt_drop h
    simp only [List.length_cons] at hk
    simp only [spec_l1Stands.l0]
    rw [if_pos (by omega), if_pos (by omega), h1]
    by_cases e : b = c
    · subst e; simp
    · rw [if_neg (fun h => e ((byte_eq _ _).1 h)), wrap_up (n := s.size) (by omega) (by omega) hs]
      have := stands_l0 s c hs l (i + 1) k h2 (by omega) (by omega)
      rw [show ((i : Int) + 1) = ((i + 1 : Nat) : Int) from by omega, this]
      simp [Ne.symm e]
theorem stands (s : ByteArray) (c : UInt8) (k : Nat) (hs : s.size ≤ 9223372036854775807) (hk : s.size < k) : spec_l1Stands.f k s (c.toNat : Int) = some (decide (c ∈ L s)) := by
  unfold spec_l1Stands.f
  exact stands_l0 s c hs (L s) 0 k rfl (by omega) (by rw [← size_L]; exact hk)
def okB (b : UInt8) : Bool := 32 ≤ b && b ≤ 126 && b != 35
theorem okB_iff (b : UInt8) : okB b = true ↔ 32 ≤ (b.toNat : Int) ∧ (b.toNat : Int) ≤ 126 ∧ (b.toNat : Int) ≠ 35 := by
  unfold okB
  simp only [Bool.and_eq_true, decide_eq_true_eq, bne_iff_ne, ne_eq, UInt8.le_iff_toNat_le]
  rw [show (35 : Int) = ((35 : UInt8).toNat : Int) from rfl, byte_eq]
  constructor
  · rintro ⟨⟨h1, h2⟩, h3⟩
    exact ⟨by have : (32 : UInt8).toNat = 32 := rfl; omega, by have : (126 : UInt8).toNat = 126 := rfl; omega, h3⟩
  · rintro ⟨h1, h2, h3⟩
    exact ⟨⟨by have : (32 : UInt8).toNat = 32 := rfl; omega, by have : (126 : UInt8).toNat = 126 := rfl; omega⟩, h3⟩
theorem bytes_l0 (s : ByteArray) (m : Int) (hs : s.size ≤ 9223372036854775807) : ∀ (l : List UInt8) (i k : Nat), (L s).drop i = l → i ≤ s.size → l.length < k →
    spec_l12Bytes.l0 k s m (i : Int) = some (l.all okB && decide ((s.size : Int) ≤ m))
  | [], i, k, h, hi, hk => by
    obtain ⟨k, rfl⟩ : ∃ m, k = m + 1 := ⟨k - 1, by omega⟩
    have := drop_nil_iff.1 h
    simp only [spec_l12Bytes.l0]
    rw [if_neg (by omega)]
    simp
  | b :: l, i, k, h, hi, hk => by
    obtain ⟨k, rfl⟩ : ∃ m, k = m + 1 := ⟨k - 1, by omega⟩
    obtain ⟨h1, h2, h3⟩ := bt_drop h
    simp only [List.length_cons] at hk
    have hb : b.toNat < 256 := b.toNat_lt
    simp only [spec_l12Bytes.l0]
    rw [if_pos (by omega), if_pos (by omega), h1, wrap_in (by omega) (by omega)]
    have ih := bytes_l0 s m hs l (i + 1) k h2 (by omega) (by omega)
    unfold spec_l1In.f
    simp only [List.all_cons]
    cases e : okB b with
    | true =>
      obtain ⟨e1, e2, e3⟩ := (okB_iff b).1 e
      rw [if_pos (by omega)]
      simp only [Option.bind_some, decide_eq_true_eq]
      rw [if_pos e2, if_neg e3, wrap_up (n := s.size) (by omega) (by omega) hs, show ((i : Int) + 1) = ((i + 1 : Nat) : Int) from by omega, ih]
      simp
    | false =>
      have e' : ¬ (32 ≤ (b.toNat : Int) ∧ (b.toNat : Int) ≤ 126 ∧ (b.toNat : Int) ≠ 35) := fun h => by rw [(okB_iff b).2 h] at e; cases e
      by_cases c1 : 32 ≤ (b.toNat : Int)
      · rw [if_pos c1]
        simp only [Option.bind_some, decide_eq_true_eq]
        by_cases c2 : (b.toNat : Int) ≤ 126
        · rw [if_pos c2, if_pos (by omega)]; simp
        · rw [if_neg c2]; simp
      · rw [if_neg c1]; simp
def printed (l : List UInt8) (m : Nat) : Bool := l.all okB && decide (l.length ≤ m)
theorem bytes (s : ByteArray) (m k : Nat) (hs : s.size ≤ 9223372036854775807) (hk : s.size < k) : spec_l12Bytes.f k s (m : Int) = some (printed (L s) m) := by
  unfold spec_l12Bytes.f
  rw [show (0 : Int) = ((0 : Nat) : Int) from rfl, bytes_l0 s m hs (L s) 0 k rfl (by omega) (by rw [← size_L]; exact hk)]
  unfold printed
  rw [size_L]
  congr 2
  exact decide_eq_decide.2 (by omega)
theorem isPrinted_l0 (s : ByteArray) (m : Int) (hs : s.size ≤ 9223372036854775807) : ∀ (l : List UInt8) (i k : Nat), (L s).drop i = l → i ≤ s.size → l.length < k →
    impl_isPrinted.l0 k s m (s.size : Int) (i : Int) = some (l.all okB && decide ((s.size : Int) ≤ m))
  | [], i, k, h, hi, hk => by
    obtain ⟨k, rfl⟩ : ∃ m, k = m + 1 := ⟨k - 1, by omega⟩
    have := drop_nil_iff.1 h
    simp only [impl_isPrinted.l0]
    rw [if_neg (by omega)]
    simp
  | b :: l, i, k, h, hi, hk => by
    obtain ⟨k, rfl⟩ : ∃ m, k = m + 1 := ⟨k - 1, by omega⟩
    obtain ⟨h1, h2, h3⟩ := bt_drop h
    simp only [List.length_cons] at hk
    simp only [impl_isPrinted.l0]
    rw [if_pos (by omega), if_pos (by omega), if_pos (by omega), h1]
    have ih := isPrinted_l0 s m hs l (i + 1) k h2 (by omega) (by omega)
    simp only [List.all_cons]
    cases e : okB b with
    | true =>
      obtain ⟨e1, e2, e3⟩ := (okB_iff b).1 e
      rw [if_neg (by omega), if_neg (by omega), if_neg e3, wrap_up (n := s.size) (by omega) (by omega) hs, show ((i : Int) + 1) = ((i + 1 : Nat) : Int) from by omega, ih]
      simp
    | false =>
      have e' : ¬ (32 ≤ (b.toNat : Int) ∧ (b.toNat : Int) ≤ 126 ∧ (b.toNat : Int) ≠ 35) := fun h => by rw [(okB_iff b).2 h] at e; cases e
      by_cases c1 : (b.toNat : Int) < 32
      · rw [if_pos c1]; simp
      · rw [if_neg c1]
        by_cases c2 : (b.toNat : Int) > 126
        · rw [if_pos c2]; simp
        · rw [if_neg c2, if_pos (by omega)]; simp
theorem isPrinted (s : ByteArray) (m k : Nat) (hs : s.size ≤ 9223372036854775807) (hk : s.size < k) : impl_isPrinted.f k s (m : Int) = some (printed (L s) m) := by
  unfold impl_isPrinted.f
  rw [show (0 : Int) = ((0 : Nat) : Int) from rfl, isPrinted_l0 s m hs (L s) 0 k rfl (by omega) (by rw [← size_L]; exact hk)]
  unfold printed
  rw [size_L]
  congr 2
  exact decide_eq_decide.2 (by omega)
def validRec (c r : List UInt8) : Bool := !c.isEmpty && printed c 160 && !decide ((64 : UInt8) ∈ c) && printed r 280
theorem spec_valid (c r : ByteArray) (k : Nat) (hc : c.size ≤ 9223372036854775807) (hr : r.size ≤ 9223372036854775807) (hk : c.size < k) (hk' : r.size < k) :
    spec_l12Record.f k c r = some (validRec (L c) (L r)) := by
  unfold spec_l12Record.f validRec
  rw [L_toList, show (160 : Int) = ((160 : Nat) : Int) from rfl, show (280 : Int) = ((280 : Nat) : Int) from rfl, show (64 : Int) = ((64 : UInt8).toNat : Int) from rfl, bytes c 160 k hc hk, bytes r 280 k hr hk', stands c 64 k hc hk]
  by_cases h0 : L c = []
  · rw [if_pos h0, h0]; simp
  · rw [if_neg h0]
    have h0' : (L c).isEmpty = false := by simpa using h0
    rw [h0']
    cases printed (L c) 160 <;> by_cases h2 : (64 : UInt8) ∈ L c <;> simp [h2]
theorem impl_valid (c r : ByteArray) (k : Nat) (hc : c.size ≤ 9223372036854775807) (hr : r.size ≤ 9223372036854775807) (hk : c.size < k) (hk' : r.size < k) :
    impl_IsValidRecord.f k c r = some (validRec (L c) (L r)) := by
  unfold impl_IsValidRecord.f impl_isCommand.f validRec strings_Contains.f
  rw [L_toList, show (160 : Int) = ((160 : Nat) : Int) from rfl, show (280 : Int) = ((280 : Nat) : Int) from rfl, isPrinted c 160 k hc hk, isPrinted r 280 k hr hk']
  by_cases h0 : L c = []
  · rw [if_pos h0, h0]; simp
  · rw [if_neg h0]
    have h0' : (L c).isEmpty = false := by simpa using h0
    rw [h0', if_pos (by rfl)]
    have h64 : ((⟨#[64]⟩ : ByteArray).data.toList.headD 0) = 64 := rfl
    rw [h64]
    cases printed (L c) 160 <;> by_cases h2 : (64 : UInt8) ∈ L c <;> simp [h2]
theorem dig_at (n : Nat) (h : n < 10) : L ((⟨#[48, 49, 50, 51, 52, 53, 54, 55, 56, 57]⟩ : ByteArray).extract n (n + 1)) = [UInt8.ofNat (48 + n)] := by
  rw [L_extract]
  match n, h with
  | 0, _ => rfl | 1, _ => rfl | 2, _ => rfl | 3, _ => rfl | 4, _ => rfl | 5, _ => rfl | 6, _ => rfl | 7, _ => rfl | 8, _ => rfl | 9, _ => rfl
theorem dec_len1 (m : Nat) : (Lib.decDigits m).length ≤ m + 1 := by
  induction m using Nat.strongRecOn with
  | _ m ih =>
    rw [Lib.decDigits]
    by_cases hm : m < 10
    · rw [dif_pos hm]; simp
    · rw [dif_neg hm]
      have := ih (m / 10) (by omega)
      simp only [List.length_append, List.length_cons, List.length_nil]
      omega
theorem num_nat (k : Nat) : ∀ n : Nat, n < k → n ≤ 9000000000000000000 → ∃ s, spec_l1Num.f k (n : Int) = some s ∧ L s = Lib.decDigits n := by
  induction k with
  | zero => intro n h; omega
  | succ k ih =>
    intro n h hn
    simp only [spec_l1Num.f]
    rw [if_neg (by omega)]
    by_cases h10 : n < 10
    · rw [if_pos (by omega), if_pos (by omega), wrap_in (by omega) (by omega), if_pos (by omega), if_pos (by omega)]
      refine ⟨_, rfl, ?_⟩
      rw [show ((n : Int) + 1).toNat = n + 1 from by omega, Int.toNat_natCast, dig_at n h10, Lib.decDigits, dif_pos h10]
    · have e1 : Int.tdiv (n : Int) 10 = ((n / 10 : Nat) : Int) := by
        rw [Int.tdiv_eq_ediv_of_nonneg (by omega)]; omega
      have e2 : Int.tmod (n : Int) 10 = ((n % 10 : Nat) : Int) := by
        rw [Int.tmod_eq_emod_of_nonneg (by omega)]; omega
      obtain ⟨s, hs, hL⟩ := ih (n / 10) (by omega) (by omega)
      have hlen : s.size ≤ n := by
        rw [size_L, hL]
        have := dec_len1 (n / 10)
        omega
      rw [if_neg (by omega), e1, e2, wrap_in (i := ((n / 10 : Nat) : Int)) (by omega) (by omega), hs, Option.bind_some]
      rw [if_pos (by omega), wrap_in (by omega) (by omega), if_pos (by omega), if_pos (by omega)]
      have e3 : (((n % 10 : Nat) : Int) + 1).toNat = n % 10 + 1 := by omega
      have hd := dig_at (n % 10) (by omega)
      rw [e3, Int.toNat_natCast]
      have hsz : ((⟨#[48, 49, 50, 51, 52, 53, 54, 55, 56, 57]⟩ : ByteArray).extract (n % 10) (n % 10 + 1)).size = 1 := by rw [size_L, hd]; rfl
      rw [hsz, if_pos (by omega)]
      refine ⟨_, rfl, ?_⟩
      rw [L_append, hL, hd]
      conv => rhs; rw [Lib.decDigits, dif_neg h10]
theorem num_any (n : Int) (k : Nat) (hk : n.natAbs + 1 < k) (h0 : -9000000000000000000 ≤ n) (h1 : n ≤ 9000000000000000000) : ∃ s, spec_l1Num.f k n = some s ∧ L s = Lib.itoa n := by
  by_cases hn : n < 0
  · obtain ⟨k, rfl⟩ : ∃ m, k = m + 1 := ⟨k - 1, by omega⟩
    obtain ⟨s, hs, hL⟩ := num_nat k n.natAbs (by omega) (by omega)
    simp only [spec_l1Num.f]
    rw [if_pos hn, wrap_in (by omega) (by omega), show -n = (n.natAbs : Int) from by omega, hs, Option.bind_some]
    have hlen : s.size ≤ n.natAbs + 1 ∧ n.natAbs + 1 < 9223372036854775807 := by
      rw [size_L, hL]
      exact ⟨dec_len1 n.natAbs, by omega⟩
    rw [if_pos (by omega)]
    refine ⟨_, rfl, ?_⟩
    rw [L_append, hL]
    unfold Lib.itoa
    rw [if_pos hn]
    rfl
  · obtain ⟨s, hs, hL⟩ := num_nat k n.toNat (by omega) (by omega)
    refine ⟨s, by rw [← hs]; congr 1; omega, ?_⟩
    unfold Lib.itoa
    rw [if_neg hn, hL]
theorem num_eq (n : Int) (k : Nat) (hk : n.natAbs + 1 < k) (h0 : -9000000000000000000 ≤ n) (h1 : n ≤ 9000000000000000000) : spec_l1Num.f k n = some ⟨(Lib.itoa n).toArray⟩ := by
  obtain ⟨s, hs, hL⟩ := num_any n k hk h0 h1
  rw [hs, ext_L (a := s) (b := ⟨(Lib.itoa n).toArray⟩) (by rw [hL])]
theorem itoa_eq (n : Int) (h0 : -9000000000000000000 ≤ n) (h1 : n ≤ 9000000000000000000) : strconv_Itoa.f n = some ⟨(Lib.itoa n).toArray⟩ := by
  unfold strconv_Itoa.f
  rw [if_pos (by omega)]
def sumStep (h : Int) (b : UInt8) : Int := (41 * h + (b.toNat : Int) + 1) % 999979
def sumL (l : List UInt8) (h : Int) : Int := l.foldl sumStep h
theorem sumStep_in (h : Int) (b : UInt8) : 0 ≤ sumStep h b ∧ sumStep h b < 999979 := by unfold sumStep; omega
theorem sum_in (l : List UInt8) (h : Int) (h0 : 0 ≤ h) (h1 : h < 999979) : 0 ≤ sumL l h ∧ sumL l h < 999979 := by
  induction l generalizing h with
  | nil => exact ⟨h0, h1⟩
  | cons b l ih => exact ih _ (sumStep_in h b).1 (sumStep_in h b).2
theorem step_wrap (h : Int) (b : UInt8) (h0 : 0 ≤ h) (h1 : h < 999979) : Int.tmod (wrap64 ((wrap64 ((wrap64 (41 * h)) + (wrap64 (b.toNat : Int)))) + 1)) 999979 = sumStep h b := by
  have hb : b.toNat < 256 := b.toNat_lt
  rw [wrap_in (i := 41 * h) (by omega) (by omega), wrap_in (i := (b.toNat : Int)) (by omega) (by omega), wrap_in (i := 41 * h + (b.toNat : Int)) (by omega) (by omega), wrap_in (by omega) (by omega), Int.tmod_eq_emod_of_nonneg (by omega)]
  rfl
theorem sum_l0 (s : ByteArray) (hs : s.size ≤ 9223372036854775807) : ∀ (l : List UInt8) (h : Int) (i k : Nat), (L s).drop i = l → i ≤ s.size → l.length < k → 0 ≤ h → h < 999979 →
    spec_l1Sum.l0 k s h (i : Int) = some (sumL l h)
  | [], h, i, k, hd, hi, hk, _, _ => by
    obtain ⟨k, rfl⟩ : ∃ m, k = m + 1 := ⟨k - 1, by omega⟩
    have := drop_nil_iff.1 hd
    simp only [spec_l1Sum.l0]
    rw [if_neg (by omega)]
    rfl
  | b :: l, h, i, k, hd, hi, hk, h0, h1 => by
    obtain ⟨k, rfl⟩ : ∃ m, k = m + 1 := ⟨k - 1, by omega⟩
    obtain ⟨e1, e2, e3⟩ := bt_drop hd
    simp only [List.length_cons] at hk
    simp only [spec_l1Sum.l0]
    rw [if_pos (by omega), if_pos (by omega), e1, step_wrap h b h0 h1, wrap_up (n := s.size) (by omega) (by omega) hs, show ((i : Int) + 1) = ((i + 1 : Nat) : Int) from by omega,
      sum_l0 s hs l _ (i + 1) k e2 (by omega) (by omega) (sumStep_in h b).1 (sumStep_in h b).2]
    rfl
theorem sum_eq (s : ByteArray) (k : Nat) (hs : s.size ≤ 9223372036854775807) (hk : s.size < k) : spec_l1Sum.f k s = some (sumL (L s) 7) := by
  unfold spec_l1Sum.f
  exact sum_l0 s hs (L s) 7 0 k rfl (by omega) (by rw [← size_L]; exact hk) (by omega) (by omega)
theorem check_l0 (s : ByteArray) (hs : s.size ≤ 9223372036854775807) : ∀ (l : List UInt8) (h : Int) (i k : Nat), (L s).drop i = l → i ≤ s.size → l.length < k → 0 ≤ h → h < 999979 →
    impl_Checksum.l0 k s h (s.size : Int) (i : Int) = some (sumL l h, true)
  | [], h, i, k, hd, hi, hk, _, _ => by
    obtain ⟨k, rfl⟩ : ∃ m, k = m + 1 := ⟨k - 1, by omega⟩
    have := drop_nil_iff.1 hd
    simp only [impl_Checksum.l0]
    rw [if_neg (by omega)]
    rfl
  | b :: l, h, i, k, hd, hi, hk, h0, h1 => by
    obtain ⟨k, rfl⟩ : ∃ m, k = m + 1 := ⟨k - 1, by omega⟩
    obtain ⟨e1, e2, e3⟩ := bt_drop hd
    simp only [List.length_cons] at hk
    simp only [impl_Checksum.l0]
    rw [if_pos (by omega), if_pos (by omega), if_pos (by omega), e1, step_wrap h b h0 h1, wrap_up (n := s.size) (by omega) (by omega) hs, show ((i : Int) + 1) = ((i + 1 : Nat) : Int) from by omega,
      check_l0 s hs l _ (i + 1) k e2 (by omega) (by omega) (sumStep_in h b).1 (sumStep_in h b).2]
    rfl
theorem check_eq (s : ByteArray) (k : Nat) (hk : s.size < k) : impl_Checksum.f k s = some (if s.size ≤ 4000 then (sumL (L s) 7, true) else (0, false)) := by
  unfold impl_Checksum.f
  by_cases h : s.size ≤ 4000
  · rw [if_neg (by omega), if_pos h]
    exact check_l0 s (by omega) (L s) 7 0 k rfl (by omega) (by rw [← size_L]; exact hk) (by omega) (by omega)
  · rw [if_pos (by omega), if_neg h]
def sealL (l : List UInt8) : List UInt8 := l ++ [35] ++ Lib.itoa (sumL l 7)
theorem decDigits_len (m : Nat) : (Lib.decDigits m).length ≤ m / 10 + 1 := by
  induction m using Nat.strongRecOn with
  | _ m ih =>
    rw [Lib.decDigits]
    by_cases hm : m < 10
    · rw [dif_pos hm]; simp
    · rw [dif_neg hm]
      have := ih (m / 10) (by omega)
      simp only [List.length_append, List.length_cons, List.length_nil]
      omega
theorem itoa_len (n : Int) (h0 : 0 ≤ n) (h1 : n < 999979) : (Lib.itoa n).length ≤ 100000 := by
  unfold Lib.itoa
  rw [if_neg (by omega)]
  have := decDigits_len n.toNat
  omega
theorem seal_eq (s : ByteArray) (k : Nat) (hs : s.size ≤ 9000000000000000000) (hk : s.size < k) (hk2 : 1000000 < k) : spec_l1Seal.f k s = some ⟨(sealL (L s)).toArray⟩ := by
  unfold spec_l1Seal.f
  obtain ⟨h0, h1⟩ := sum_in (L s) 7 (by omega) (by omega)
  have hl := itoa_len _ h0 h1
  rw [if_pos (by omega), sum_eq s k (by omega) hk]
  simp only [Option.bind_some]
  rw [num_eq _ k (by omega) (by omega) (by omega)]
  simp only [Option.bind_some]
  rw [if_pos (by
    have : (⟨(Lib.itoa (sumL (L s) 7)).toArray⟩ : ByteArray).size = (Lib.itoa (sumL (L s) 7)).length := by rw [size_L]
    omega)]
  refine congrArg some (ext_L ?_)
  rw [L_append, L_append]
  rfl
theorem appendChecksum_eq (s : ByteArray) (k : Nat) (hs : s.size ≤ 9000000000000000000) (hk : s.size < k) :
    impl_AppendChecksum.f k s = some (if s.size ≤ 4000 ∧ (35 : UInt8) ∉ L s ∧ (sealL (L s)).length ≤ 4000 then (⟨(sealL (L s)).toArray⟩, true) else (⟨#[]⟩, false)) := by
  unfold impl_AppendChecksum.f
  obtain ⟨h0, h1⟩ := sum_in (L s) 7 (by omega) (by omega)
  have hl := itoa_len _ h0 h1
  rw [check_eq s k hk]
  simp only [Option.bind_some]
  rw [if_pos (by omega)]
  by_cases h4 : s.size ≤ 4000
  · rw [if_pos h4]
    have hz : (⟨(Lib.itoa (sumL (L s) 7)).toArray⟩ : ByteArray).size = (Lib.itoa (sumL (L s) 7)).length := by rw [size_L]
    have hc : strings_Contains.f s (⟨#[35]⟩ : ByteArray) = some (decide ((35 : UInt8) ∈ L s)) := by
      unfold strings_Contains.f
      rw [if_pos (show (⟨#[35]⟩ : ByteArray).size = 1 from rfl)]
      rfl
    have hsl : (sealL (L s)).length = s.size + 1 + (Lib.itoa (sumL (L s) 7)).length := by unfold sealL; rw [size_L]; simp only [List.length_append, List.length_cons, List.length_nil]
    rw [itoa_eq _ (by omega) (by omega)]
    simp only [Option.bind_some]
    rw [if_pos (by omega), if_pos trivial, hc]
    simp only [Option.bind_some, decide_eq_true_eq]
    by_cases h5 : (35 : UInt8) ∈ L s
    · rw [if_pos h5, if_neg (fun h => h.2.1 h5)]
    · rw [if_neg h5]
      by_cases h6 : (sealL (L s)).length ≤ 4000
      · rw [if_neg (by omega), if_pos ⟨h4, h5, h6⟩]
        refine congrArg some (Prod.ext ?_ rfl)
        apply ext_L
        rw [L_append, L_append]
        rfl
      · rw [if_pos (by omega), if_neg (fun h => h6 h.2.2)]
  · rw [if_neg h4, if_neg (fun h => h4 h.1)]
    rw [itoa_eq _ (by omega) (by omega)]
    simp only [Option.bind_some]
    have hz : (⟨(Lib.itoa 0).toArray⟩ : ByteArray).size = 1 := by rw [size_L]; unfold Lib.itoa; rw [if_neg (by omega), Lib.decDigits]; rfl
    rw [if_pos (by omega), if_neg (by simp)]
end Go.Proofs.YtgclcjohnnpejaaDoor.PureL
end

section
namespace Go.Proofs.YtgclcjohnnpejaaDoor.PureL
open Go.RowKit Go.Proofs.YtgclcjohnnpejaaDoor.Pr Go.Proofs.YtgclcjohnnpejaaDoorW.PrintWords Go.Proofs.YtgclcjohnnpejaaDoorW.PrintLast
theorem decDigits_pow : ∀ (d n : Nat), n < 10 ^ (d + 1) → (Lib.decDigits n).length ≤ d + 1
  | 0, n, h => by
    rw [Lib.decDigits, dif_pos (by omega)]
    simp
  | d + 1, n, h => by
    rw [Lib.decDigits]
    by_cases hn : n < 10
    · rw [dif_pos hn]; simp
    · rw [dif_neg hn]
      have := decDigits_pow d (n / 10) (by rw [Nat.pow_succ] at h; omega)
      simp only [List.length_append, List.length_cons, List.length_nil]
      omega
theorem decDigits_dig (n : Nat) : ∀ b ∈ Lib.decDigits n, 48 ≤ b.toNat ∧ b.toNat ≤ 57 := by
  induction n using Nat.strongRecOn with
  | _ n ih =>
    rw [Lib.decDigits]
    have hd : ∀ m : Nat, m < 10 → ∀ b ∈ [UInt8.ofNat (48 + m)], 48 ≤ b.toNat ∧ b.toNat ≤ 57 := fun m hm b hb => by
      rw [List.mem_singleton.1 hb, UInt8.toNat_ofNat']
      omega
    by_cases hn : n < 10
    · rw [dif_pos hn]; exact hd n hn
    · rw [dif_neg hn]
      intro b hb
      rcases List.mem_append.1 hb with hb | hb
      · exact ih (n / 10) (by omega) b hb
      · exact hd (n % 10) (by omega) b hb
theorem itoa_dig {n : Int} (h0 : 0 ≤ n) : ∀ b ∈ Lib.itoa n, 48 ≤ b.toNat ∧ b.toNat ≤ 57 := by
  unfold Lib.itoa
  rw [if_neg (by omega)]
  exact decDigits_dig _
theorem itoa_small {n : Int} (h0 : 0 ≤ n) (h1 : n < 1000000) : (Lib.itoa n).length ≤ 6 := by
  unfold Lib.itoa
  rw [if_neg (by omega)]
  exact decDigits_pow 5 n.toNat (by omega)
theorem sum_small (l : List UInt8) : (Lib.itoa (sumL l 7)).length ≤ 6 := by
  obtain ⟨h0, h1⟩ := sum_in l 7 (by omega) (by omega)
  exact itoa_small h0 (by omega)
def textL (n : Int) (c r : List UInt8) : List UInt8 := Lib.itoa n ++ [32] ++ c ++ [64] ++ r
def encL (n : Int) (c r : List UInt8) : List UInt8 := sealL (textL n c r) ++ [10]
theorem all_ok_no35 {l : List UInt8} (h : l.all okB = true) : (35 : UInt8) ∉ l := fun hm => by
  have := List.all_eq_true.1 h 35 hm
  exact absurd this (by decide)
theorem valid_parts {c r : List UInt8} (h : validRec c r = true) : c ≠ [] ∧ c.all okB = true ∧ c.length ≤ 160 ∧ (64 : UInt8) ∉ c ∧ r.all okB = true ∧ r.length ≤ 280 := by
  unfold validRec printed at h
  simp only [Bool.and_eq_true, decide_eq_true_eq, Bool.not_eq_true', decide_eq_false_iff_not] at h
  obtain ⟨⟨⟨h1, h2, h3⟩, h4⟩, h5, h6⟩ := h
  exact ⟨by simpa using h1, h2, h3, h4, h5, h6⟩
theorem text_no35 {n : Int} {c r : List UInt8} (h0 : 0 ≤ n) (h : validRec c r = true) : (35 : UInt8) ∉ textL n c r := by
  obtain ⟨_, h2, _, _, h5, _⟩ := valid_parts h
  unfold textL
  simp only [List.mem_append, List.mem_singleton, not_or]
  exact ⟨⟨⟨⟨fun hm => by have := itoa_dig h0 _ hm; have e : (35 : UInt8).toNat = 35 := rfl; omega, by decide⟩, all_ok_no35 h2⟩, by decide⟩, all_ok_no35 h5⟩
theorem text_len {n : Int} {c r : List UInt8} (h0 : 0 ≤ n) (h1 : n < 1000000) : (textL n c r).length ≤ 8 + c.length + r.length := by
  have := itoa_small h0 h1
  unfold textL
  simp only [List.length_append, List.length_cons, List.length_nil]
  omega
theorem seal_len (l : List UInt8) : (sealL l).length ≤ l.length + 7 := by
  have := sum_small l
  unfold sealL
  simp only [List.length_append, List.length_cons, List.length_nil]
  omega
theorem text_B (n : Int) (c r : ByteArray) : ((((⟨(Lib.itoa n).toArray⟩ : ByteArray) ++ (⟨#[32]⟩ : ByteArray)) ++ c) ++ (⟨#[64]⟩ : ByteArray)) ++ r = ⟨(textL n (L c) (L r)).toArray⟩ := by
  apply ext_L
  simp only [L_append]
  rfl
theorem B_size (l : List UInt8) : (⟨l.toArray⟩ : ByteArray).size = l.length := by rw [size_L]
theorem spec_line (n : Int) (c r : ByteArray) (k : Nat) (h0 : 0 ≤ n) (h1 : n < 1000000) (hc : c.size ≤ 1000000000000) (hr : r.size ≤ 1000000000000) (hk : 1000100 + c.size + r.size < k) :
    spec_l12Line.f k n c r = some ⟨(encL n (L c) (L r)).toArray⟩ := by
  have hi := itoa_small h0 h1
  have ht := text_len (c := L c) (r := L r) h0 h1
  have hs := seal_len (textL n (L c) (L r))
  have hc' := size_L c
  have hr' := size_L r
  unfold spec_l12Line.f
  rw [num_eq n k (by omega) (by omega) (by omega), Option.bind_some, B_size, if_pos (by omega), if_pos (by omega), if_pos (by omega), if_pos (by omega), text_B,
    seal_eq _ k (by rw [B_size]; omega) (by rw [B_size]; omega) (by omega), Option.bind_some, B_size, L_mk (textL n (L c) (L r)), if_pos (by omega)]
  refine congrArg some (ext_L ?_)
  rw [L_append]
  rfl
def encR (n : Int) (c r : ByteArray) : ByteArray × Bool := if 0 ≤ n ∧ n ≤ 59 ∧ validRec (L c) (L r) = true then (⟨(encL n (L c) (L r)).toArray⟩, true) else (⟨#[]⟩, false)
theorem impl_enc (n : Int) (c r : ByteArray) (k : Nat) (hc : c.size ≤ 1000000000000) (hr : r.size ≤ 1000000000000) (hk : 1000100 + c.size + r.size < k) :
    impl_EncodeRecord.f k n c r = some (encR n c r) := by
  obtain ⟨k, rfl⟩ : ∃ m, k = m + 1 := ⟨k - 1, by omega⟩
  unfold impl_EncodeRecord.f impl_in.f encR
  by_cases h0 : 0 ≤ n
  · rw [if_pos (by omega), Option.bind_some]
    by_cases h1 : n ≤ 59
    · rw [if_pos (by simpa using h1), impl_valid c r (k + 1) (by omega) (by omega) (by omega) (by omega), Option.bind_some]
      by_cases hv : validRec (L c) (L r) = true
      · have hi := itoa_small h0 (by omega : n < 1000000)
        have ht := text_len (c := L c) (r := L r) h0 (by omega : n < 1000000)
        have hs := seal_len (textL n (L c) (L r))
        obtain ⟨_, _, v1, _, _, v2⟩ := valid_parts hv
        have hc' := size_L c
        have hr' := size_L r
        rw [hv, if_pos ⟨h0, h1, rfl⟩]
        simp only [impl_EncodeRecord.j0]
        rw [if_neg (by simp), itoa_eq n (by omega) (by omega), Option.bind_some, B_size, if_pos (by omega), if_pos (by omega), if_pos (by omega), if_pos (by omega), text_B,
          appendChecksum_eq _ k (by rw [B_size]; omega) (by rw [B_size]; omega), L_mk (textL n (L c) (L r)), if_pos ⟨by rw [B_size]; omega, text_no35 h0 hv, by omega⟩, Option.bind_some, B_size, if_pos (by omega)]
        refine congrArg some (Prod.ext (ext_L ?_) rfl)
        rw [L_append]
        rfl
      · have hv' : validRec (L c) (L r) = false := by simpa using hv
        rw [hv', if_neg (by simp)]
        simp only [impl_EncodeRecord.j0]
        rw [if_pos (by simp)]
    · rw [if_neg (by simpa using h1), if_neg (fun h => h1 h.2.1)]
      simp only [impl_EncodeRecord.j0]
      rw [if_pos trivial]
  · rw [if_neg (by omega), Option.bind_some, if_neg (by simp), if_neg (fun h => h0 h.1)]
    simp only [impl_EncodeRecord.j0]
    rw [if_pos trivial]
end Go.Proofs.YtgclcjohnnpejaaDoor.PureL
end

section
namespace Go.Proofs.YtgclcjohnnpejaaDoor.PureL
open Go.RowKit Go.Proofs.YtgclcjohnnpejaaDoor.Pr Go.Proofs.YtgclcjohnnpejaaDoorW.PrintWords Go.Proofs.YtgclcjohnnpejaaDoorW.PrintLast
set_option linter.unusedSimpArgs false
set_option linter.unusedVariables false
def upL (l : List UInt8) (c : UInt8) : List UInt8 := l.takeWhile (· != c)
def aftL (l : List UInt8) (c : UInt8) : List UInt8 := (l.dropWhile (· != c)).tail
theorem up_no {l : List UInt8} {c : UInt8} (h : c ∉ l) : upL l c = l := by
  unfold upL
  induction l with
  | nil => rfl
  | cons b l ih =>
    have hb : (b != c) = true := by simp only [bne_iff_ne, ne_eq]; rintro rfl; exact h (List.mem_cons_self ..)
    rw [List.takeWhile_cons, if_pos hb, ih (fun hm => h (List.mem_cons_of_mem _ hm))]
theorem drop_no {l : List UInt8} {c : UInt8} (h : c ∉ l) : l.dropWhile (· != c) = [] := by
  induction l with
  | nil => rfl
  | cons b l ih =>
    have hb : (b != c) = true := by simp only [bne_iff_ne, ne_eq]; rintro rfl; exact h (List.mem_cons_self ..)
    rw [List.dropWhile_cons, if_pos hb, ih (fun hm => h (List.mem_cons_of_mem _ hm))]
theorem up_mid {l r : List UInt8} {c : UInt8} (h : c ∉ l) : upL (l ++ c :: r) c = l := by
  unfold upL
  induction l with
  | nil => simp
  | cons b l ih =>
    have hb : (b != c) = true := by simp only [bne_iff_ne, ne_eq]; rintro rfl; exact h (List.mem_cons_self ..)
    rw [List.cons_append, List.takeWhile_cons, if_pos hb, ih (fun hm => h (List.mem_cons_of_mem _ hm))]
theorem aft_mid {l r : List UInt8} {c : UInt8} (h : c ∉ l) : aftL (l ++ c :: r) c = r := by
  unfold aftL
  induction l with
  | nil => simp
  | cons b l ih =>
    have hb : (b != c) = true := by simp only [bne_iff_ne, ne_eq]; rintro rfl; exact h (List.mem_cons_self ..)
    rw [List.cons_append, List.dropWhile_cons, if_pos hb, ih (fun hm => h (List.mem_cons_of_mem _ hm))]
theorem cutAt_eq (l : List UInt8) (c : UInt8) : cutAt l c = (upL l c, aftL l c, decide (c ∈ l)) := by
  unfold cutAt
  by_cases h : c ∈ l
  · rw [if_pos h, decide_eq_true h]; rfl
  · rw [if_neg h, up_no h, decide_eq_false h]
    unfold aftL
    rw [drop_no h]
    rfl
theorem up_len (l : List UInt8) (c : UInt8) : (upL l c).length ≤ l.length := by
  have := (List.takeWhile_prefix (· != c) (l := l)).length_le
  exact this
theorem no_tw : ∀ (l : List UInt8) (c : UInt8), c ∉ l.takeWhile (· != c)
  | [], c => by simp
  | b :: l, c => by
    by_cases hb : (b != c) = true
    · rw [List.takeWhile_cons, if_pos hb, List.mem_cons, not_or]
      exact ⟨fun e => by rw [e] at hb; simp at hb, no_tw l c⟩
    · rw [List.takeWhile_cons, if_neg hb]; simp
theorem up_lt {l : List UInt8} {c : UInt8} (h : c ∈ l) : (upL l c).length < l.length := by
  have h1 := List.takeWhile_append_dropWhile (p := (· != c)) (l := l)
  have h2 : l.dropWhile (· != c) ≠ [] := fun e => by
    have : c ∈ l.takeWhile (· != c) := by rw [e, List.append_nil] at h1; rw [h1]; exact h
    exact no_tw l c this
  have h3 := congrArg List.length h1
  rw [List.length_append] at h3
  have := List.length_pos_iff.2 h2
  unfold upL
  omega
theorem aft_len (l : List UInt8) (c : UInt8) : (aftL l c).length ≤ l.length := by
  unfold aftL
  have h1 := (List.dropWhile_suffix (· != c) (l := l)).length_le
  rw [List.length_tail]
  omega
theorem cut_f (s : ByteArray) (c : UInt8) (hs : s.size < 4294967281) : strings_Cut.f s (⟨#[c]⟩ : ByteArray) = some (⟨(upL (L s) c).toArray⟩, ⟨(aftL (L s) c).toArray⟩, decide (c ∈ L s)) := by
  unfold strings_Cut.f
  rw [if_pos ⟨rfl, hs⟩]
  have e : ((⟨#[c]⟩ : ByteArray).data.toList.headD 0) = c := rfl
  rw [e, cutAt_eq]
theorem split_l0 (s : ByteArray) (c : UInt8) (hs : s.size ≤ 1000000000000) : ∀ (l : List UInt8) (acc : List ByteArray) (fr i k : Nat), (L s).drop i = l → fr ≤ i → i ≤ s.size → acc.length ≤ i → l.length < k →
    ∃ q qs, spec_l1Split.l0 k s (c.toNat : Int) acc (fr : Int) (i : Int) = some (acc ++ q :: qs) ∧ qs.length = l.count c ∧ L q = ((L s).drop fr).take (i - fr) ++ upL l c
  | [], acc, fr, i, k, h, hf, hi, ha, hk => by
    obtain ⟨k, rfl⟩ : ∃ m, k = m + 1 := ⟨k - 1, by omega⟩
    have hsz := drop_nil_iff.1 h
    have hi' : i = s.size := by omega
    simp only [spec_l1Split.l0]
    rw [if_neg (by omega), if_pos (by omega), if_pos (by omega), if_pos (by omega)]
    refine ⟨_, [], rfl, rfl, ?_⟩
    rw [L_extract, Int.toNat_natCast, hi', size_L]
    simp [upL]
  | b :: l, acc, fr, i, k, h, hf, hi, ha, hk => by
    obtain ⟨k, rfl⟩ : ∃ m, k = m + 1 := ⟨k - 1, by omega⟩
    obtain ⟨e1, e2, e3⟩ := bt_drop h
    simp only [List.length_cons] at hk
    simp only [spec_l1Split.l0]
    rw [if_pos (by omega), if_pos (by omega), e1]
    by_cases e : b = c
    · subst e
      rw [if_pos rfl, if_pos (by omega), if_pos (by omega), if_pos (by omega), if_pos (by omega), wrap_up (n := s.size) (by omega) (by omega) (by omega), show ((i : Int) + 1) = ((i + 1 : Nat) : Int) from by omega]
      obtain ⟨q, qs, h1, h2, _⟩ := split_l0 s b hs l (acc ++ [s.extract (fr : Int).toNat (i : Int).toNat]) (i + 1) (i + 1) k e2 (by omega) (by omega) (by simp; omega) (by omega)
      refine ⟨s.extract fr i, q :: qs, ?_, by simp [h2], ?_⟩
      · rw [h1]; simp
      · rw [L_extract]; simp [upL]
    · rw [if_neg (fun hh => e ((byte_eq _ _).1 hh)), wrap_up (n := s.size) (by omega) (by omega) (by omega), show ((i : Int) + 1) = ((i + 1 : Nat) : Int) from by omega]
      obtain ⟨q, qs, h1, h2, h3⟩ := split_l0 s c hs l acc fr (i + 1) k e2 (by omega) (by omega) (by omega) (by omega)
      refine ⟨q, qs, h1, by rw [h2, List.count_cons]; simp [e], ?_⟩
      rw [h3]
      have hb : (b != c) = true := by simpa using e
      have hup : upL (b :: l) c = b :: upL l c := by unfold upL; rw [List.takeWhile_cons, if_pos hb]
      rw [hup]
      have hlen : i - fr < ((L s).drop fr).length := by rw [List.length_drop, ← size_L]; omega
      have hget : ((L s).drop fr)[i - fr]'hlen = b := by
        rw [List.getElem_drop]
        have hi2 : i < (L s).length := by rw [← size_L]; exact e3
        have := List.drop_eq_getElem_cons hi2
        rw [h] at this
        injection this with t1 _
        rw [t1]
        congr 1
        omega
      rw [show i + 1 - fr = (i - fr) + 1 from by omega, List.take_succ_eq_append_getElem hlen, hget]
      simp
theorem split_f (s : ByteArray) (c : UInt8) (k : Nat) (hs : s.size ≤ 1000000000000) (hk : s.size < k) :
    ∃ q qs, spec_l1Split.f k s (c.toNat : Int) = some (q :: qs) ∧ qs.length = (L s).count c ∧ L q = upL (L s) c := by
  obtain ⟨q, qs, h1, h2, h3⟩ := split_l0 s c hs (L s) [] 0 0 k rfl (by omega) (by omega) (by simp) (by rw [← size_L]; exact hk)
  exact ⟨q, qs, h1, h2, by simpa using h3⟩
def decI (_n : Nat) (line : List UInt8) : List UInt8 × List UInt8 := (upL (aftL (upL line 35) 32) 64, aftL (aftL (upL line 35) 32) 64)
def goodI (n : Nat) (line : List UInt8) : Bool := validRec (decI n line).1 (decI n line).2 && decide (encL n (decI n line).1 (decI n line).2 = line ++ [10])
theorem no_in_itoa {n : Nat} {b : UInt8} (h : b.toNat < 48) : b ∉ Lib.itoa (n : Int) := fun hm => by have := itoa_dig (n := (n : Int)) (by omega) b hm; omega
theorem enc_cuts {n : Nat} {c r line : List UInt8} (hv : validRec c r = true) (he : encL n c r = line ++ [10]) :
    upL line 35 = textL n c r ∧ aftL (textL n c r) 32 = c ++ 64 :: r ∧ upL (c ++ 64 :: r) 64 = c ∧ aftL (c ++ 64 :: r) 64 = r := by
  have hl : sealL (textL n c r) = line := by
    unfold encL at he
    exact (List.append_inj' he rfl).1
  have h35 := text_no35 (n := (n : Int)) (by omega) hv
  obtain ⟨_, _, _, h64, _, _⟩ := valid_parts hv
  refine ⟨?_, ?_, up_mid h64, aft_mid h64⟩
  · rw [← hl]
    unfold sealL
    rw [List.append_assoc]
    exact up_mid h35
  · unfold textL
    rw [show Lib.itoa (n : Int) ++ [32] ++ c ++ [64] ++ r = Lib.itoa (n : Int) ++ 32 :: (c ++ 64 :: r) from by simp]
    exact aft_mid (no_in_itoa (by decide))
theorem goodI_of {n : Nat} {c r line : List UInt8} (hv : validRec c r = true) (he : encL n c r = line ++ [10]) : goodI n line = true ∧ decI n line = (c, r) := by
  obtain ⟨h1, h2, h3, h4⟩ := enc_cuts hv he
  have hd : decI n line = (c, r) := by unfold decI; rw [h1, h2, h3, h4]
  refine ⟨?_, hd⟩
  unfold goodI
  rw [hd, hv, decide_eq_true he]
  rfl
theorem decode_f (n : Nat) (line : ByteArray) (k : Nat) (hn : n < 60) (hs : line.size ≤ 100000000000) (hk : 2000100 + 2 * line.size < k) :
    ∃ c r, spec_l12Decode.f k line (n : Int) = some (c, r, goodI n (L line)) ∧ (goodI n (L line) = true → (L c, L r) = decI n (L line)) := by
  obtain ⟨k, rfl⟩ : ∃ m, k = m + 1 := ⟨k - 1, by omega⟩
  have hi := itoa_small (n := (n : Int)) (by omega) (by omega)
  obtain ⟨q, qs, h1, h2, h3⟩ := split_f line 35 (k + 1) (by omega) (by omega)
  have hq : q.size ≤ line.size := by rw [size_L, h3, size_L]; exact up_len _ _
  unfold spec_l12Decode.f
  rw [num_eq (n : Int) (k + 1) (by omega) (by omega) (by omega), Option.bind_some, B_size, if_pos (by omega), show (35 : Int) = ((35 : UInt8).toNat : Int) from rfl, h1, Option.bind_some, if_pos (by simp)]
  have hrd : rdOf ByteArray.empty (q :: qs) 0 = q := rfl
  rw [hrd]
  have bad : goodI n (L line) = false → ∀ c r, validRec c r = true → encL n c r = L line ++ [10] → False := fun hb c r hv he => by rw [(goodI_of hv he).1] at hb; cases hb
  have ahead : ((⟨(Lib.itoa (n : Int)).toArray⟩ : ByteArray) ++ (⟨#[32]⟩ : ByteArray)) = ⟨(Lib.itoa (n : Int) ++ [32]).toArray⟩ := by apply ext_L; rw [L_append]
  have nohead : ¬ (Lib.itoa (n : Int) ++ [32]) <+: L q → goodI n (L line) = false := fun hp => by
    cases hg : goodI n (L line) with
    | false => rfl
    | true =>
      unfold goodI at hg
      simp only [Bool.and_eq_true, decide_eq_true_eq] at hg
      obtain ⟨e1, _⟩ := enc_cuts hg.1 hg.2
      refine absurd ?_ hp
      rw [h3, e1]
      unfold textL
      exact ⟨(decI n (L line)).1 ++ 64 :: (decI n (L line)).2, by simp⟩
  by_cases hlt : ((q.size : Int)) < (((Lib.itoa (n : Int)).length : Int) + 1)
  · rw [if_pos hlt]
    simp only [spec_l12Decode.j0]
    rw [if_pos trivial]
    have hg := nohead (fun hp => by
      have := hp.length_le
      rw [List.length_append, List.length_singleton, ← size_L] at this
      omega)
    exact ⟨_, _, by rw [hg], fun h => by rw [hg] at h; cases h⟩
  · rw [if_neg hlt, if_pos (by omega), if_pos (by omega), ahead]
    have htk : (q.extract 0 ((((Lib.itoa (n : Int)).length : Int) + 1) : Int).toNat).toList = (L q).take ((Lib.itoa (n : Int)).length + 1) := by
      rw [L_toList, L_extract]
      simp only [List.drop_zero, Nat.sub_zero]
      congr 1
    rw [htk, L_toList, L_mk (Lib.itoa (n : Int) ++ [32])]
    by_cases hp : (L q).take ((Lib.itoa (n : Int)).length + 1) = Lib.itoa (n : Int) ++ [32]
    · rw [show ((L q).take ((Lib.itoa (n : Int)).length + 1) != Lib.itoa (n : Int) ++ [32]) = false from by rw [bne_eq_false_iff_eq]; exact hp]
      simp only [spec_l12Decode.j0]
      have hsz : (⟨(Lib.itoa (n : Int) ++ [32]).toArray⟩ : ByteArray).size = (Lib.itoa (n : Int)).length + 1 := by rw [B_size]; simp
      rw [if_neg (by simp), hsz, if_pos (by omega), if_pos (by omega)]
      generalize hrest : q.extract ((Lib.itoa (n : Int)).length + 1) q.size = rest
      have hL : L rest = (L q).drop ((Lib.itoa (n : Int)).length + 1) := by
        rw [← hrest, L_extract, size_L]
        exact List.take_of_length_le (by simp)
      have hrs : rest.size = q.size - ((Lib.itoa (n : Int)).length + 1) := by rw [size_L, hL, List.length_drop, ← size_L]
      have hqq : L q = Lib.itoa (n : Int) ++ 32 :: L rest := by
        have := List.take_append_drop ((Lib.itoa (n : Int)).length + 1) (L q)
        rw [hp, ← hL] at this
        rw [← this]
        simp
      obtain ⟨p, ps, g1, g2, g3⟩ := split_f rest 64 k (by omega) (by omega)
      have hpr : p.size ≤ rest.size := by rw [size_L, g3, size_L]; exact up_len _ _
      rw [show (64 : Int) = ((64 : UInt8).toNat : Int) from rfl, g1, Option.bind_some, if_pos (by simp)]
      have hrd2 : rdOf ByteArray.empty (p :: ps) 0 = p := rfl
      rw [hrd2]
      have hdec : aftL (upL (L line) 35) 32 = L rest := by rw [← h3, hqq]; exact aft_mid (no_in_itoa (by decide))
      have hdI : decI n (L line) = (upL (L rest) 64, aftL (L rest) 64) := by unfold decI; rw [hdec]
      by_cases hm : (64 : UInt8) ∈ L rest
      · have hlt2 : p.size < rest.size := by rw [size_L, g3, size_L]; exact up_lt hm
        rw [if_neg (by omega), wrap_in (by omega) (by omega), if_pos (by omega), if_pos (by omega)]
        have hrest2 : rest.extract (((p.size : Int) + 1) : Int).toNat (q.size - ((Lib.itoa (n : Int)).length + 1)) = ⟨(aftL (L rest) 64).toArray⟩ := by
          apply ext_L
          rw [← hrs, L_extract, size_L rest, List.take_of_length_le (by simp), show (((p.size : Int) + 1) : Int).toNat = p.size + 1 from by omega, size_L p, g3]
          unfold aftL upL
          rw [← drop_takeWhile, List.tail_drop]
        rw [hrest2]
        have hc : L p = (decI n (L line)).1 := by rw [hdI, g3]
        have hr : aftL (L rest) 64 = (decI n (L line)).2 := by rw [hdI]
        have hasz : (⟨(aftL (L rest) 64).toArray⟩ : ByteArray).size ≤ rest.size := by rw [B_size, size_L]; exact aft_len _ _
        rw [spec_valid p _ k (by omega) (by omega) (by omega) (by omega), Option.bind_some, L_mk (aftL (L rest) 64), hc, hr]
        by_cases hv : validRec (decI n (L line)).1 (decI n (L line)).2 = true
        · rw [if_pos hv, spec_line (n : Int) p _ k (by omega) (by omega) (by omega) (by rw [← hr]; omega) (by rw [← hr]; omega), Option.bind_some, if_pos (by omega)]
          refine ⟨p, ⟨(decI n (L line)).2.toArray⟩, ?_, fun _ => Prod.ext hc rfl⟩
          refine congrArg some (Prod.ext rfl (Prod.ext rfl ?_))
          show (_ == _) = goodI n (L line)
          unfold goodI
          rw [hv, Bool.true_and, L_toList, L_toList, L_append, hc, L_mk (decI n (L line)).2, Bool.eq_iff_iff, beq_iff_eq, decide_eq_true_eq]
        · rw [if_neg hv]
          have hg : goodI n (L line) = false := by unfold goodI; rw [show validRec (decI n (L line)).1 (decI n (L line)).2 = false from by simpa using hv]; rfl
          exact ⟨_, _, by rw [hg], fun h => by rw [hg] at h; cases h⟩
      · have hpe : p.size = rest.size := by rw [size_L, g3, up_no hm, size_L]
        rw [if_pos (by omega)]
        have hg : goodI n (L line) = false := by
          cases hg : goodI n (L line) with
          | false => rfl
          | true =>
            unfold goodI at hg
            simp only [Bool.and_eq_true, decide_eq_true_eq] at hg
            obtain ⟨e1, e2, _⟩ := enc_cuts hg.1 hg.2
            rw [e1] at hdec
            rw [e2] at hdec
            refine absurd ?_ hm
            rw [← hdec]
            simp
        exact ⟨_, _, by rw [hg], fun h => by rw [hg] at h; cases h⟩
    · rw [show ((L q).take ((Lib.itoa (n : Int)).length + 1) != Lib.itoa (n : Int) ++ [32]) = true from by rw [bne_iff_ne]; exact hp]
      simp only [spec_l12Decode.j0]
      rw [if_pos trivial]
      have hg := nohead (fun hpre => hp (by
        have := List.prefix_iff_eq_take.1 hpre
        rw [List.length_append, List.length_singleton] at this
        exact this.symm))
      exact ⟨_, _, by rw [hg], fun h => by rw [hg] at h; cases h⟩
theorem open_eq (s : ByteArray) (hs : s.size ≤ 2000000) : ∀ (d i : Nat) (acc : List S38), i ≤ s.size → s.size - i ≤ d →
    ∃ (l : List S38) (n : Nat), n ≤ s.size ∧ (l.length ≤ 60 ∨ l = acc) ∧ ∀ k, 9000000 + 2 * d < k → impl_readRecords.l0 k s acc (i : Int) = some (l, (n : Int)) ∧ spec_l12Open.l0 k s acc (i : Int) = some (l, (n : Int)) := by
  intro d
  induction d with
  | zero =>
    intro i acc hi hd
    have hie : i = s.size := by omega
    refine ⟨acc, i, hi, .inr rfl, fun k hk => ?_⟩
    obtain ⟨k, rfl⟩ : ∃ m, k = m + 2 := ⟨k - 2, by omega⟩
    constructor
    · simp only [impl_readRecords.l0]
      by_cases h60 : (acc.length : Int) < 60
      · have he : L (s.extract i s.size) = [] := by rw [L_extract, hie, size_L]; simp
        have hez : (s.extract i s.size).size = 0 := by rw [size_L, he]; rfl
        rw [if_pos h60, if_pos (by omega), if_pos (by omega), Int.toNat_natCast, cut_f _ 10 (by omega), Option.bind_some, he]
        simp only [upL, aftL, List.takeWhile_nil, List.dropWhile_nil, List.tail_nil]
        rw [cut_f _ 35 (by rw [B_size]; decide), Option.bind_some, L_mk]
        simp only [upL, aftL, List.takeWhile_nil, List.dropWhile_nil, List.tail_nil]
        rw [cut_f _ 32 (by rw [B_size]; decide), Option.bind_some, L_mk]
        simp only [upL, aftL, List.takeWhile_nil, List.dropWhile_nil, List.tail_nil]
        rw [cut_f _ 64 (by rw [B_size]; decide), Option.bind_some, L_mk]
        simp only [upL, aftL, List.takeWhile_nil, List.dropWhile_nil, List.tail_nil]
        rw [impl_enc _ _ _ _ (by rw [B_size]; decide) (by rw [B_size]; decide) (by rw [B_size]; simp; omega), Option.bind_some, if_neg (by simp)]
      · rw [if_neg h60]
    · simp only [spec_l12Open.l0]
      rw [if_neg (by omega)]
      simp only [spec_l12Open.j1]
      rw [if_neg (by simp)]
  | succ d ih =>
    intro i acc hi hd
    by_cases h60 : (acc.length : Int) < 60
    · generalize hx : s.extract i s.size = x
      have hLx : L x = (L s).drop i := by rw [← hx, L_extract, size_L]; exact List.take_of_length_le (by simp)
      have hxs : x.size = s.size - i := by rw [size_L, hLx, List.length_drop, ← size_L]
      generalize hline : (⟨(upL (L x) 10).toArray⟩ : ByteArray) = line
      have hLl : L line = upL (L x) 10 := by rw [← hline]
      have hls : line.size ≤ x.size := by rw [size_L, hLl, size_L]; exact up_len _ _
      have hal : acc.length < 60 := by omega
      have hb : (⟨(upL (L line) 35).toArray⟩ : ByteArray).size ≤ line.size := by rw [B_size, size_L]; exact up_len _ _
      have hr : (⟨(aftL (upL (L line) 35) 32).toArray⟩ : ByteArray).size ≤ line.size := by rw [B_size]; have := aft_len (upL (L line) 35) 32; have h2 := up_len (L line) 35; rw [size_L]; omega
      have hc : (⟨(upL (aftL (upL (L line) 35) 32) 64).toArray⟩ : ByteArray).size ≤ line.size := by rw [B_size] at hr ⊢; have := up_len (aftL (upL (L line) 35) 32) 64; omega
      have hrp : (⟨(aftL (aftL (upL (L line) 35) 32) 64).toArray⟩ : ByteArray).size ≤ line.size := by rw [B_size] at hr ⊢; have := aft_len (aftL (upL (L line) 35) 32) 64; omega
      have impl_step : ∀ k, 9000000 < k → impl_readRecords.l0 (k + 1) s acc (i : Int) =
          if (10 : UInt8) ∈ L x ∧ goodI acc.length (L line) = true then impl_readRecords.l0 k s (acc ++ [⟨⟨(decI acc.length (L line)).1.toArray⟩, ⟨(decI acc.length (L line)).2.toArray⟩⟩]) ((i + line.size + 1 : Nat) : Int) else some (acc, (i : Int)) := by
        intro k hk
        simp only [impl_readRecords.l0]
        rw [if_pos h60, if_pos (by omega), if_pos (by omega), Int.toNat_natCast, hx, cut_f x 10 (by omega), Option.bind_some, hline]
        dsimp only
        rw [cut_f line 35 (by omega), Option.bind_some]
        dsimp only
        rw [cut_f _ 32 (by omega), Option.bind_some, L_mk (upL (L line) 35)]
        dsimp only
        rw [cut_f _ 64 (by omega), Option.bind_some, L_mk (aftL (upL (L line) 35) 32)]
        dsimp only
        rw [impl_enc _ _ _ _ (by omega) (by omega) (by omega), Option.bind_some]
        by_cases hm : (10 : UInt8) ∈ L x
        · rw [if_pos (by simpa using hm)]
          by_cases hv : validRec (upL (aftL (upL (L line) 35) 32) 64) (aftL (aftL (upL (L line) 35) 32) 64) = true
          · have henc : encR (acc.length : Int) ⟨(upL (aftL (upL (L line) 35) 32) 64).toArray⟩ ⟨(aftL (aftL (upL (L line) 35) 32) 64).toArray⟩ = (⟨(encL (acc.length : Int) (upL (aftL (upL (L line) 35) 32) 64) (aftL (aftL (upL (L line) 35) 32) 64)).toArray⟩, true) := by
              unfold encR
              rw [L_mk (upL (aftL (upL (L line) 35) 32) 64), L_mk (aftL (aftL (upL (L line) 35) 32) 64), if_pos ⟨by omega, by omega, hv⟩]
            rw [henc]
            dsimp only
            rw [if_pos rfl, if_pos (by omega), L_toList, L_toList, L_append, L_mk (encL (acc.length : Int) (upL (aftL (upL (L line) 35) 32) 64) (aftL (aftL (upL (L line) 35) 32) 64)), L_mk [10]]
            by_cases he : encL (acc.length : Int) (upL (aftL (upL (L line) 35) 32) 64) (aftL (aftL (upL (L line) 35) 32) 64) = L line ++ [10]
            · rw [if_pos he, if_pos (by omega), if_pos ⟨hm, (goodI_of hv he).1⟩, wrap_in (i := (i : Int) + (line.size : Int)) (by omega) (by omega), wrap_in (by omega) (by omega)]
              rfl
            · rw [if_neg he, if_neg (fun h => he (by
                have h2 := h.2
                unfold goodI decI at h2
                simp only [Bool.and_eq_true, decide_eq_true_eq] at h2
                exact h2.2))]
          · have henc : encR (acc.length : Int) ⟨(upL (aftL (upL (L line) 35) 32) 64).toArray⟩ ⟨(aftL (aftL (upL (L line) 35) 32) 64).toArray⟩ = (⟨#[]⟩, false) := by
              unfold encR
              rw [L_mk (upL (aftL (upL (L line) 35) 32) 64), L_mk (aftL (aftL (upL (L line) 35) 32) 64), if_neg (fun h => hv h.2.2)]
            rw [henc]
            dsimp only
            rw [if_neg (by simp), if_neg (fun h => hv (by
              have h2 := h.2
              unfold goodI decI at h2
              simp only [Bool.and_eq_true, decide_eq_true_eq] at h2
              exact h2.1))]
        · rw [if_neg (by simpa using hm), if_neg (fun h => hm h.1)]
      have spec_step : ∀ k, 9000000 < k → spec_l12Open.l0 (k + 2) s acc (i : Int) =
          if (10 : UInt8) ∈ L x ∧ goodI acc.length (L line) = true then spec_l12Open.l0 k s (acc ++ [⟨⟨(decI acc.length (L line)).1.toArray⟩, ⟨(decI acc.length (L line)).2.toArray⟩⟩]) ((i + line.size + 1 : Nat) : Int) else some (acc, (i : Int)) := by
        intro k hk
        simp only [spec_l12Open.l0]
        by_cases hlt : (i : Int) < (s.size : Int)
        · rw [if_pos hlt]
          simp only [spec_l12Open.j1]
          rw [if_pos (by simpa using h60), if_pos (by omega), if_pos (by omega), Int.toNat_natCast, hx]
          obtain ⟨q, qs, h1, h2, h3⟩ := split_f x 10 k (by omega) (by omega)
          rw [show (10 : Int) = ((10 : UInt8).toNat : Int) from rfl, h1, Option.bind_some, if_pos (by simp)]
          have hq : rdOf ByteArray.empty (q :: qs) 0 = line := by
            show q = line
            apply ext_L
            rw [h3, hLl]
          rw [hq]
          obtain ⟨c, r, g1, g2⟩ := decode_f acc.length line k hal (by omega) (by omega)
          rw [g1, Option.bind_some]
          by_cases hm : (10 : UInt8) ∈ L x
          · have hcnt : 0 < qs.length := by rw [h2]; exact List.count_pos_iff.2 hm
            rw [if_neg (by simp only [List.length_cons]; omega)]
            by_cases hg : goodI acc.length (L line) = true
            · rw [if_pos hg, if_pos (by omega), if_pos ⟨hm, hg⟩, wrap_in (i := (i : Int) + (line.size : Int)) (by omega) (by omega), wrap_in (by omega) (by omega)]
              have h4 := g2 hg
              have e1 : c = ⟨(decI acc.length (L line)).1.toArray⟩ := ext_L (by rw [← h4])
              have e2 : r = ⟨(decI acc.length (L line)).2.toArray⟩ := ext_L (by rw [← h4])
              rw [e1, e2]
              rfl
            · rw [if_neg hg, if_neg (fun h => hg h.2)]
          · have hcnt : qs.length = 0 := by rw [h2]; exact List.count_eq_zero.2 hm
            rw [if_pos (by simp only [List.length_cons]; omega), if_neg (fun h => hm h.1)]
        · rw [if_neg hlt]
          simp only [spec_l12Open.j1]
          have hm : (10 : UInt8) ∉ L x := by
            have : L x = [] := List.eq_nil_of_length_eq_zero (by rw [← size_L]; omega)
            rw [this]; simp
          rw [if_neg (by simp), if_neg (fun h => hm h.1)]
      by_cases hgo : (10 : UInt8) ∈ L x ∧ goodI acc.length (L line) = true
      · have hlt := up_lt hgo.1
        rw [← hLl, ← size_L, ← size_L] at hlt
        obtain ⟨l, n, hn, hll, h⟩ := ih (i + line.size + 1) (acc ++ [⟨⟨(decI acc.length (L line)).1.toArray⟩, ⟨(decI acc.length (L line)).2.toArray⟩⟩]) (by omega) (by omega)
        refine ⟨l, n, hn, .inl (hll.elim id (fun e => by rw [e, List.length_append]; simp; omega)), fun k hk => ?_⟩
        obtain ⟨k, rfl⟩ : ∃ m, k = m + 2 := ⟨k - 2, by omega⟩
        rw [show k + 2 = (k + 1) + 1 from rfl, impl_step (k + 1) (by omega), if_pos hgo]
        refine ⟨(h (k + 1) (by omega)).1, ?_⟩
        rw [show k + 1 + 1 = k + 2 from rfl, spec_step k (by omega), if_pos hgo]
        exact (h k (by omega)).2
      · refine ⟨acc, i, hi, .inr rfl, fun k hk => ?_⟩
        obtain ⟨k, rfl⟩ : ∃ m, k = m + 2 := ⟨k - 2, by omega⟩
        rw [show k + 2 = (k + 1) + 1 from rfl, impl_step (k + 1) (by omega), if_neg hgo]
        refine ⟨rfl, ?_⟩
        rw [show k + 1 + 1 = k + 2 from rfl, spec_step k (by omega), if_neg hgo]
    · refine ⟨acc, i, hi, .inr rfl, fun k hk => ?_⟩
      obtain ⟨k, rfl⟩ : ∃ m, k = m + 2 := ⟨k - 2, by omega⟩
      constructor
      · simp only [impl_readRecords.l0]
        rw [if_neg h60]
      · simp only [spec_l12Open.l0]
        by_cases hlt : (i : Int) < (s.size : Int)
        · rw [if_pos hlt]
          simp only [spec_l12Open.j1]
          rw [if_neg (by simpa using h60)]
        · rw [if_neg hlt]
          simp only [spec_l12Open.j1]
          rw [if_neg (by simp)]
theorem read_eq (s : ByteArray) (hs : s.size ≤ 2000000) : ∃ (l : List S38) (n : Nat), n ≤ s.size ∧ l.length ≤ 60 ∧ ∀ k, 20000000 < k → impl_readRecords.f k s = some (l, (n : Int)) ∧ spec_l12Open.f k s = some (l, (n : Int)) := by
  obtain ⟨l, n, hn, hl, h⟩ := open_eq s hs s.size 0 [] (by omega) (by omega)
  exact ⟨l, n, hn, hl.elim id (fun e => by rw [e]; simp), fun k hk => h k (by omega)⟩
end Go.Proofs.YtgclcjohnnpejaaDoor.PureL
end

section
namespace Go.Proofs.YtgclcjohnnpejaaDoor.PureL
open Go.RowKit Go.Proofs.YtgclcjohnnpejaaDoor.Pr Go.Proofs.YtgclcjohnnpejaaDoorW.PrintWords Go.Proofs.YtgclcjohnnpejaaDoorW.PrintLast
theorem size_app (a b : ByteArray) : (a ++ b).size = a.size + b.size := by rw [size_L, L_append, List.length_append, ← size_L, ← size_L]
theorem records_eq (a b : ByteArray) (n : Int) (ha : a.size ≤ 1048576) (hb : b.size ≤ 1048576) : ∃ (l : List S38) (v : Bool), l.length ≤ 60 ∧ (v = true → a.size + b.size ≤ 30000) ∧ ∀ k, 30000000 < k →
    spec_l12Valid.f k a b n = some v ∧ impl_Log_records.f k a b n = some (l, v) ∧ (v = true → ∃ m, spec_l12Open.f k (a ++ b) = some (l, m)) := by
  by_cases h : a.size + b.size ≤ 30000
  · obtain ⟨l1, n1, hn1, hl1, h1⟩ := read_eq (a ++ b) (by rw [size_app]; omega)
    obtain ⟨l2, n2, hn2, hl2, h2⟩ := read_eq a (by omega)
    refine ⟨l1, decide ((n1 : Int) = (a.size : Int) + (b.size : Int)) && decide ((n2 : Int) = (a.size : Int)) && decide ((l1.length : Int) = n), hl1, fun _ => h, fun k hk => ?_⟩
    obtain ⟨i1, s1⟩ := h1 k (by omega)
    obtain ⟨i2, s2⟩ := h2 k (by omega)
    unfold spec_l12Valid.f impl_Log_records.f
    rw [i1, i2, s1, s2, wrap_in (by omega) (by omega), if_neg (by omega), if_pos (by omega), Option.bind_some]
    dsimp only
    rw [Option.bind_some, Option.bind_some]
    dsimp only
    refine ⟨?_, ?_, fun _ => ⟨_, rfl⟩⟩
    · by_cases c1 : (n1 : Int) = (a.size : Int) + (b.size : Int)
      · rw [if_pos c1, decide_eq_true c1]
        by_cases c2 : (n2 : Int) = (a.size : Int)
        · rw [if_pos c2, decide_eq_true c2]; rfl
        · rw [if_neg c2, decide_eq_false c2]; rfl
      · rw [if_neg c1, decide_eq_false c1]; rfl
    · rw [if_neg (by omega), if_pos (by omega), Option.bind_some]
      dsimp only
      by_cases c1 : (n1 : Int) = (a.size : Int) + (b.size : Int)
      · rw [if_pos c1, decide_eq_true c1]
        by_cases c2 : (n2 : Int) = (a.size : Int)
        · rw [if_pos c2, decide_eq_true c2]; rfl
        · rw [if_neg c2, decide_eq_false c2]; rfl
      · rw [if_neg c1, decide_eq_false c1]; rfl
  · refine ⟨[], false, by simp, (fun h => by cases h), fun k hk => ?_⟩
    unfold spec_l12Valid.f impl_Log_records.f
    rw [wrap_in (by omega) (by omega), if_pos (by omega)]
    rw [if_pos (by omega)]
    exact ⟨rfl, rfl, (fun h => by cases h)⟩
theorem sz_log (a b : ByteArray) (n : Int) (ha : a.size ≤ 140737488351232) (hb : b.size ≤ 140737488351232) : ∃ r, laws_szLog.f a b n 1048576 = some r ∧ (¬ r < 0 → a.size ≤ 1048576 ∧ b.size ≤ 1048576 ∧ 0 ≤ r ∧ r ≤ 1048576) := by
  unfold laws_szLog.f
  rw [wrap_in (by omega) (by omega), wrap_in (by omega) (by omega)]
  by_cases h1 : (1048576 : Int) - (a.size : Int) < 0
  · rw [if_pos h1]; exact ⟨_, rfl, fun h => absurd (by omega) h⟩
  · rw [if_neg h1]
    by_cases h2 : (1048576 : Int) - (a.size : Int) - (b.size : Int) < 0
    · rw [if_pos h2]; exact ⟨_, rfl, fun h => absurd (by omega) h⟩
    · rw [if_neg h2]; exact ⟨_, rfl, fun _ => by omega⟩
theorem valid_eq (a b : ByteArray) (n : Int) (ha : a.size ≤ 1048576) (hb : b.size ≤ 1048576) : ∃ v, (v = true → a.size + b.size ≤ 30000) ∧ ∀ k, 30000000 < k → spec_l12Valid.f k a b n = some v ∧ impl_IsValidLog.f k a b n = some v := by
  obtain ⟨l, v, _, hv, h⟩ := records_eq a b n ha hb
  refine ⟨v, hv, fun k hk => ?_⟩
  obtain ⟨h1, h2, _⟩ := h k hk
  unfold impl_IsValidLog.f
  rw [h2, Option.bind_some]
  exact ⟨h1, rfl⟩
theorem eqLog_same (x y : ByteArray) (m : Int) : laws_eqLog.f x y m x y m = some true := by unfold laws_eqLog.f; rw [if_pos rfl, if_pos rfl, if_pos rfl]
end Go.Proofs.YtgclcjohnnpejaaDoor.PureL
end

section
namespace Go.Proofs.YtgclcjohnnpejaaDoor.PureL
open Go.RowKit Go.Proofs.YtgclcjohnnpejaaDoor.Pr Go.Proofs.YtgclcjohnnpejaaDoorW.PrintWords Go.Proofs.YtgclcjohnnpejaaDoorW.PrintLast
theorem valid_count (a b : ByteArray) (n : Int) (ha : a.size ≤ 1048576) (hb : b.size ≤ 1048576) (k : Nat) (hk : 30000000 < k) (h : spec_l12Valid.f k a b n = some true) : 0 ≤ n ∧ n ≤ 60 := by
  by_cases c : a.size + b.size ≤ 30000
  · obtain ⟨l1, n1, hn1, hl1, h1⟩ := read_eq (a ++ b) (by rw [size_app]; omega)
    obtain ⟨l2, n2, hn2, hl2, h2⟩ := read_eq a (by omega)
    obtain ⟨i1, s1⟩ := h1 k (by omega)
    obtain ⟨i2, s2⟩ := h2 k (by omega)
    unfold spec_l12Valid.f at h
    rw [s1, s2, wrap_in (by omega) (by omega), if_neg (by omega), if_pos (by omega), Option.bind_some] at h
    dsimp only at h
    rw [Option.bind_some] at h
    dsimp only at h
    split at h
    · split at h
      · have := of_decide_eq_true (Option.some.inj h)
        omega
      · cases h
    · cases h
  · unfold spec_l12Valid.f at h
    rw [wrap_in (by omega) (by omega), if_pos (by omega)] at h
    cases h
theorem append_eq (a b : ByteArray) (n : Int) (c r : ByteArray) (ha : a.size ≤ 1048576) (hb : b.size ≤ 1048576) (hc : c.size ≤ 1048576) (hr : r.size ≤ 1048576) :
    ∃ p q m e, ∀ k, 50000000 < k → spec_AppendRecord.f k a b n c r = some (p, q, m, e) ∧ impl_AppendRecord.f k a b n c r = some (p, q, m, e) := by
  obtain ⟨v, hv0, hv⟩ := valid_eq a b n ha hb
  have hrec : ∀ k, 1048576 < k → spec_l12Record.f k c r = some (validRec (L c) (L r)) ∧ impl_IsValidRecord.f k c r = some (validRec (L c) (L r)) := fun k hk => ⟨spec_valid c r k (by omega) (by omega) (by omega) (by omega), impl_valid c r k (by omega) (by omega) (by omega) (by omega)⟩
  cases v with
  | false =>
    refine ⟨a, b, n, 1, fun k hk => ?_⟩
    obtain ⟨e1, e2⟩ := hv k (by omega)
    obtain ⟨k, rfl⟩ : ∃ z, k = z + 1 := ⟨k - 1, by omega⟩
    unfold spec_AppendRecord.f impl_AppendRecord.f
    rw [e1, e2, Option.bind_some, Option.bind_some, if_neg (by simp), if_neg (by simp), spec_AppendRecord.j0, impl_AppendRecord.j0, if_pos rfl, if_pos rfl]
    exact ⟨rfl, rfl⟩
  | true =>
    have hS : ∀ k, 50000000 < k → spec_AppendRecord.f k a b n c r = spec_AppendRecord.j0 k (!validRec (L c) (L r)) a b n c r ∧ impl_AppendRecord.f k a b n c r = impl_AppendRecord.j0 k (!validRec (L c) (L r)) a b n c r := fun k hk => by
      obtain ⟨e1, e2⟩ := hv k (by omega)
      obtain ⟨r1, r2⟩ := hrec k (by omega)
      unfold spec_AppendRecord.f impl_AppendRecord.f
      rw [e1, e2, r1, r2]
      exact ⟨rfl, rfl⟩
    have nt : ¬ (!true) = true := by simp
    obtain ⟨n0, n1⟩ := valid_count a b n ha hb 30000001 (by omega) (hv 30000001 (by omega)).1
    cases hw : validRec (L c) (L r) with
    | false =>
      refine ⟨a, b, n, 1, fun k hk => ?_⟩
      rw [(hS k hk).1, (hS k hk).2, hw]
      obtain ⟨k, rfl⟩ : ∃ z, k = z + 1 := ⟨k - 1, by omega⟩
      rw [spec_AppendRecord.j0, impl_AppendRecord.j0]
      exact ⟨rfl, rfl⟩
    | true =>
      by_cases h60 : n = 60
      · refine ⟨a, b, n, 2, fun k hk => ?_⟩
        rw [(hS k hk).1, (hS k hk).2, hw]
        obtain ⟨k, rfl⟩ : ∃ z, k = z + 1 := ⟨k - 1, by omega⟩
        rw [spec_AppendRecord.j0, impl_AppendRecord.j0, if_neg nt, if_neg nt, if_pos h60, if_pos h60]
        exact ⟨rfl, rfl⟩
      · refine ⟨a, b ++ ⟨(encL n (L c) (L r)).toArray⟩, n + 1, 0, fun k hk => ?_⟩
        rw [(hS k hk).1, (hS k hk).2, hw]
        obtain ⟨k, rfl⟩ : ∃ z, k = z + 1 := ⟨k - 1, by omega⟩
        have l1 := spec_line n c r k (by omega) (by omega) (by omega) (by omega) (by omega)
        have l2 := impl_enc n c r k (by omega) (by omega) (by omega)
        have l3 : encR n c r = (⟨(encL n (L c) (L r)).toArray⟩, true) := by
          unfold encR
          rw [if_pos ⟨n0, by omega, hw⟩]
        have hz : (encL n (L c) (L r)).length ≤ 3000000 := by
          have a1 := text_len (n := n) (c := L c) (r := L r) n0 (by omega)
          have a2 := seal_len (textL n (L c) (L r))
          rw [← size_L, ← size_L] at a1
          unfold encL
          rw [List.length_append, List.length_singleton]
          omega
        rw [spec_AppendRecord.j0, impl_AppendRecord.j0, if_neg nt, if_neg nt, if_neg h60, if_neg h60, l1, l2, l3, Option.bind_some, Option.bind_some]
        dsimp only
        have hz2 : (⟨(encL n (L c) (L r)).toArray⟩ : ByteArray).size ≤ 3000000 := by rw [B_size]; exact hz
        rw [if_pos (by omega), wrap_in (by omega) (by omega)]
        exact ⟨rfl, rfl⟩
theorem FnExactAppendRecord (a b : ByteArray) (n : Int) (c r : ByteArray) (ha : a.size ≤ 140737488351232) (hb : b.size ≤ 140737488351232) (hc : c.size ≤ 140737488351232) (hr : r.size ≤ 140737488351232) : ∃ k, laws_FnExactAppendRecord.f k a b n c r = some true := by
  refine ⟨60000000, ?_⟩
  obtain ⟨z, hz, hs⟩ := sz_log a b n ha hb
  unfold laws_FnExactAppendRecord.f
  rw [hz, Option.bind_some]
  by_cases h : z < 0
  · rw [if_pos h]
  · obtain ⟨h1, h2, h3, h4⟩ := hs h
    rw [if_neg h]
    have hy : ∃ y, laws_szLogRecord.f c r z = some y ∧ (¬ y < 0 → c.size ≤ 1048576 ∧ r.size ≤ 1048576) := by
      unfold laws_szLogRecord.f
      rw [wrap_in (by omega) (by omega), wrap_in (by omega) (by omega)]
      by_cases h1 : z - (c.size : Int) < 0
      · rw [if_pos h1]; exact ⟨_, rfl, fun h => absurd (by omega) h⟩
      · rw [if_neg h1]
        by_cases h2 : z - (c.size : Int) - (r.size : Int) < 0
        · rw [if_pos h2]; exact ⟨_, rfl, fun h => absurd (by omega) h⟩
        · rw [if_neg h2]; exact ⟨_, rfl, fun _ => by omega⟩
    obtain ⟨y, hy, hy2⟩ := hy
    rw [hy, Option.bind_some]
    by_cases h' : y < 0
    · rw [if_pos h']
    · obtain ⟨h5, h6⟩ := hy2 h'
      obtain ⟨p, q, m, e, hE⟩ := append_eq a b n c r h1 h2 h5 h6
      obtain ⟨e1, e2⟩ := hE 60000000 (by omega)
      rw [if_neg h']
      unfold laws_toLog.f laws_toLogRecord.f
      rw [Option.bind_some, Option.bind_some]
      dsimp only
      rw [e1, Option.bind_some, Option.bind_some, Option.bind_some]
      dsimp only
      rw [e2, Option.bind_some]
      dsimp only
      rw [eqLog_same, Option.bind_some, if_pos rfl, if_pos rfl]
end Go.Proofs.YtgclcjohnnpejaaDoor.PureL
end
