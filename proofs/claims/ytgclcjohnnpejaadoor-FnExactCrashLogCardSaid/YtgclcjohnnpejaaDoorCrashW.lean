/- CrashLog: its walk, by hand where bytes of a text are turned. -/
import Derived.Test.YtgclcjohnnpejaaDoorPrx16
import Derived.Test.YtgclcjohnnpejaaDoorPrx3
import Derived.Test.YtgclcjohnnpejaaDoorPrx8
import Derived.Test.YtgclcjohnnpejaaDoorHLib
namespace Go.Proofs.YtgclcjohnnpejaaDoor.Pr
open Go.RowKit Go.Proofs.YtgclcjohnnpejaaDoorW.PrintWords Go.Proofs.YtgclcjohnnpejaaDoorW.PrintLast Go.Proofs.YtgclcjohnnpejaaDoorW.PrintMore
set_option linter.unusedVariables false
set_option linter.unusedSimpArgs false

/-- what a crash leaves of a text: torn, its last byte is another one -/
def tornL (s : ByteArray) : List Int := (bytesOf s).set (s.size - 1) ((255 - bt s ((s.size - 1 : Nat) : Int)) % 256)
def crashed (s : ByteArray) (torn more : Bool) : ByteArray := if torn && more then strOfNums (tornL s) else strOfNums (bytesOf s)

theorem bytesOf_get (s : ByteArray) (j : Nat) (h : j < s.size) : (bytesOf s).getD j 0 = ((s.data.toList.getD j 0).toNat : Int) := by
  have h' : j < s.data.toList.length := by rw [data_length]; exact h
  simp [bytesOf, List.getD_eq_getElem?_getD, List.getElem?_eq_getElem h']

/-- the new row of bytes, whole: it becomes a text -/
theorem back_whole (W : World) (s : ByteArray) (n c : Nat) (hn : n = s.size) : (convert 22 9 (.slice (some ⟨W.heap.size, 0, none⟩) n c)).run Tryd.prog (Lib.bytesWorld W 5 s) = .ok (.string (strOfNums (bytesOf s))) (Lib.bytesWorld W 5 s) :=
  run_convert_bytes_arg _ 22 5 Tryd.underlying22 Tryd.underlying5 _ 0 n c (bytesOf s) (by rw [bytesOf_length, hn]) (fun i hi => by
    rw [Nat.zero_add, Lib.bytesWorld_cell W 5 s i (by omega), bytesOf_get s i (by omega)]) 9 Tryd.underlying9

/-- one of its bytes turned -/
theorem back_torn (W : World) (s : ByteArray) (n c : Nat) (hn : n = s.size) (v : Int) (h0 : 0 < n) (i : Nat) (hi : i = n - 1) : (convert 22 9 (.slice (some ⟨W.heap.size, 0, none⟩) n c)).run Tryd.prog ((Lib.bytesWorld W 5 s).setCell ⟨W.heap.size, i, none⟩ (.int .u8 v)) = .ok (.string (strOfNums ((bytesOf s).set (s.size - 1) v))) ((Lib.bytesWorld W 5 s).setCell ⟨W.heap.size, i, none⟩ (.int .u8 v)) := by
  subst hi
  refine run_convert_bytes_arg _ 22 5 Tryd.underlying22 Tryd.underlying5 _ 0 n c ((bytesOf s).set (s.size - 1) v) (by rw [List.length_set, bytesOf_length, hn]) (fun i hi => ?_) 9 Tryd.underlying9
  rw [Nat.zero_add]
  by_cases e : i = n - 1
  · subst e
    have hc := Lib.bytesWorld_cell W 5 s (n - 1) (by omega)
    rw [World.cell?_setCell_same (h := hc), List.getD_eq_getElem?_getD, hn, List.getElem?_set_self (by rw [bytesOf_length]; omega)]
    rfl
  · have hne : (⟨W.heap.size, n - 1, none⟩ : Addr) ≠ ⟨W.heap.size, i, none⟩ := by
      intro h
      injection h with _ h
      exact e h.symm
    rw [World.cell?_setCell_other (h := hne), Lib.bytesWorld_cell W 5 s i (by omega), ← bytesOf_get s i (by omega), List.getD_eq_getElem?_getD, List.getD_eq_getElem?_getD, List.getElem?_set_ne (by omega)]

theorem bytes_frozen (W : World) (s : ByteArray) (i : Nat) (h : i < s.size) : (Lib.bytesWorld W 5 s).frozen? ⟨W.heap.size, i, none⟩ = false := by
  unfold World.frozen?
  rw [Lib.bytesWorld_at_new]
  have : s.size ≤ (Lib.bytesCells W 5 s).size := by
    unfold Lib.bytesCells
    rw [Array.size_append, Array.size_map]
    show s.data.size ≤ _
    omega
  simp
  omega

theorem bytes_last (W : World) (s : ByteArray) (i : Nat) (h : i < s.size) : (Lib.bytesWorld W 5 s).cell? ⟨W.heap.size, i, none⟩ = some (.int .u8 (bt s (i : Int))) := by
  rw [Lib.bytesWorld_cell W 5 s i h, ← bytesOf_get s i h]
  have := rd_bytesOf s (i : Int)
  unfold rd at this
  rw [Int.toNat_natCast] at this
  rw [this]

set_option hygiene false in
local macro "zq0" : tactic => `(tactic| (repeat (first | (with_reducible first | exact HB.out | apply below_alloc | apply pw_below_drewN | apply below_drew1 | refine below_set ?_ GE216.out) | exact HB.out)))
set_option hygiene false in
local macro "zq1" : tactic => `(tactic| (repeat (first | (with_reducible first | exact HB.out | apply below_alloc | apply pw_below_drewN | apply below_drew1) | exact HB.out)))
set_option hygiene false in
local macro "zq2" : tactic => `(tactic| (repeat (first | refine blk_drewN ?_ _ | refine blk_drew ?_ | refine blk_alloc ?_ _)))
set_option hygiene false in
local macro "zq3" : tactic => `(tactic| (simp only [Act.put, List.setIfInBounds_toArray, List.set_cons_zero, List.set_cons_succ, i64_w, i32_w]))
set_option hygiene false in
local macro "zq4" : tactic => `(tactic| (repeat (first | (with_reducible first | exact HB.out | apply below_alloc | apply pw_below_drewN | apply below_drew1 | refine below_set ?_ GE163.out) | exact HB.out)))
/-! ### spec_CrashLog: function 34 -/
def spec_CrashLog.j0 : Nat → Int → Bool → ByteArray → ByteArray → Int → Bool → Option (ByteArray × Bool)
  | 0, _, _, _, _, _, _ => none
  | k + 1, x1, x19, x164000, x164001, x164002, xt => if x19 = true then (some ((⟨#[]⟩ : ByteArray), false)) else (if 0 ≤ x1 then (if x1 ≤ (x164001.size : Int) then (if x164000.size + (crashed (x164001.extract 0 (x1 : Int).toNat) xt (decide (x1 > 0))).size ≤ 9223372036854775807 then (some (x164000 ++ crashed (x164001.extract 0 (x1 : Int).toNat) xt (decide (x1 > 0)), true)) else (none)) else (none)) else (none))
def spec_CrashLog.f (k : Nat) (a0_0 : ByteArray) (a0_1 : ByteArray) (a0_2 : Int) (a1 : Int) (a2 : Bool) : Option (ByteArray × Bool) := (spec_l12Valid.f k a0_0 a0_1 a0_2).bind fun t164 => (if t164 = true then ((spec_l1In.f a1 0 (a0_1.size : Int)).bind fun t165 => (spec_CrashLog.j0 k a1 (!t165) a0_0 a0_1 a0_2 a2)) else (spec_CrashLog.j0 k a1 true a0_0 a0_1 a0_2 a2))
theorem spec_CrashLog.mono_l : ∀ k, (∀ y0 y1 y2 y3 y4 y5, LeO (spec_CrashLog.j0 k y0 y1 y2 y3 y4 y5) (spec_CrashLog.j0 (k + 1) y0 y1 y2 y3 y4 y5))
  | 0 => fun _ _ _ _ _ _ r h => by simp [spec_CrashLog.j0] at h
  | k + 1 => by
    have ih0 := spec_CrashLog.mono_l k
    · intro y0 y1 y2 y3 y4 y5
      unfold spec_CrashLog.j0
      repeat' first
      | (with_reducible exact ih0 _ _ _ _ _ _)
      | (with_reducible exact spec_l12Valid.mono _ _ _ _)
      | (with_reducible exact LeO.refl _)
      | (with_reducible exact LeO.none _)
      | (with_reducible refine LeO.ite ?_ ?_)
      | (with_reducible refine LeO.bind ?_ (fun _ => ?_))
      | exact ih0 _ _ _ _ _ _
      | exact spec_l12Valid.mono _ _ _ _
      | exact LeO.none _
      | refine LeO.ite ?_ ?_
      | refine LeO.bind ?_ (fun _ => ?_)
theorem spec_CrashLog.mono : ∀ a0 a1 a2 a3 a4 k, LeO (spec_CrashLog.f k a0 a1 a2 a3 a4) (spec_CrashLog.f (k + 1) a0 a1 a2 a3 a4) := by
  intro a0 a1 a2 a3 a4 k
  have ih0 := spec_CrashLog.mono_l k
  unfold spec_CrashLog.f
  repeat' first
      | (with_reducible exact ih0 _ _ _ _ _ _)
      | (with_reducible exact spec_l12Valid.mono _ _ _ _)
      | (with_reducible exact LeO.refl _)
      | (with_reducible exact LeO.none _)
      | (with_reducible refine LeO.ite ?_ ?_)
      | (with_reducible refine LeO.bind ?_ (fun _ => ?_))
      | exact ih0 _ _ _ _ _ _
      | exact spec_l12Valid.mono _ _ _ _
      | exact LeO.none _
      | refine LeO.ite ?_ ?_
      | refine LeO.bind ?_ (fun _ => ?_)
set_option maxHeartbeats 8000000 in
set_option maxRecDepth 100000 in
theorem spec_CrashLog.calls (k : Nat) (a0_0 : ByteArray) (a0_1 : ByteArray) (a0_2 : Int) (a1 : Int) (a2 : Bool) (r1 : ByteArray) (r2 : Bool) (w : World) (h : spec_CrashLog.f k a0_0 a0_1 a0_2 a1 a2 = some (r1, r2)) :
    Calls Tryd.prog 34 #[.agg #[.string a0_0, .string a0_1, .int .i64 a0_2], .int .i64 a1, .bool a2] w fun e w' => e = .returned (.tuple #[.string r1, .bool r2]) ∧ Below w.heap.size w w' := by
  have hu42 := Tryd.underlying42
  have HB := Aside0.mk (Below.refl w.heap.size w)
  have H : ((spec_l12Valid.f k a0_0 a0_1 a0_2).bind fun t164 => (if t164 = true then ((spec_l1In.f a1 0 (a0_1.size : Int)).bind fun t165 => (spec_CrashLog.j0 k a1 (!t165) a0_0 a0_1 a0_2 a2)) else (spec_CrashLog.j0 k a1 true a0_0 a0_1 a0_2 a2))) = some (r1, r2) := h
  clear h
  have HC4 := Aside0.mk H
  clear H
  go_enter Tryd.func34, Tryd.ntmps34
  go_upto_region 1 with (first | ((with_reducible refine gate_dst (N := 3) rfl ?_); (try (refine gate_guard (by rfl) ?_; dsimp only)); refine box_event ?hg (N := 3) ?hd (cs := #[.string a0_0, .string a0_1, .int .i64 a0_2]) (t := 42) ?hr ?_; (case hd => rfl); (case hg => rfl); (case hr => first | (go_simp; done) | (go_simp; rfl)); intro gb163 hg w5 hbox hb; have n0_ := Aside0.mk (below_step (by zq1) hb); have n1_ := Aside0.mk (hbox); have n2_ := Aside0.mk ((by rw [hg]; exact (below_size (by zq1)) : w.heap.size ≤ gb163)); have n3_ := Aside0.mk ((by rw [hg]; exact (below_size (by zq1)) : w.heap.size ≤ gb163)); clear HB; have HB := n0_; have BK163 := n1_; have GW163 := n2_; have GE163 := n3_; clear n0_ n1_ n2_ n3_; clear hb hbox hg))
  (try simp only [Act.put, List.setIfInBounds_toArray, List.set_cons_zero, List.set_cons_succ])
  go_cut [19] (fun v19 wc => ∃ (kq : Nat) (x19_3 : Bool), v19 = .bool x19_3 ∧ Aside0 (spec_CrashLog.j0 kq a1 x19_3 a0_0 a0_1 a0_2 a2 = some (r1, r2)) ∧ Aside0 (kq ≤ k) ∧ Aside0 (wc.heap[gb163]? = some (.cells #[.string a0_0, .string a0_1, .int .i64 a0_2] 42 (0, 0))) ∧ Aside0 (Below w.heap.size w wc))
  case first =>
    have H := HC4.out
    clear HC4
    replace H := Option.bind_eq_some_iff.mp H
    obtain ⟨t164, A60, H⟩ := H
    replace H : (if t164 = true then ((spec_l1In.f a1 0 (a0_1.size : Int)).bind fun t165 => (spec_CrashLog.j0 k a1 (!t165) a0_0 a0_1 a0_2 a2)) else (spec_CrashLog.j0 k a1 true a0_0 a0_1 a0_2 a2)) = some (r1, r2) := H
    have A6 := Aside0.mk A60
    clear A60
    by_cases c7 : t164 = true
    · subst c7
      have H1 : ((spec_l1In.f a1 0 (a0_1.size : Int)).bind fun t165 => (spec_CrashLog.j0 k a1 (!t165) a0_0 a0_1 a0_2 a2)) = some (r1, r2) := by rw [if_pos rfl] at H; exact H
      clear H
      have H := H1
      clear H1
      replace H := Option.bind_eq_some_iff.mp H
      obtain ⟨t165, A80, H⟩ := H
      replace H : (spec_CrashLog.j0 k a1 (!t165) a0_0 a0_1 a0_2 a2) = some (r1, r2) := H
      have A8 := Aside0.mk A80
      clear A80
      have H' := Aside0.mk H
      clear H
      have hcz9_0 : w5.cell? ⟨gb163, 0, none⟩ = some (.string a0_0) := (blk_cell BK163.out 0).trans rfl
      have hcz9_1 : w5.cell? ⟨gb163, 1, none⟩ = some (.string a0_1) := (blk_cell BK163.out 1).trans rfl
      have hcz9_2 : w5.cell? ⟨gb163, 2, none⟩ = some (.int .i64 a0_2) := (blk_cell BK163.out 2).trans rfl
      have hfz9_0 := blk_frozen BK163.out 0
      have hfz9_1 := blk_frozen BK163.out 1
      have hfz9_2 := blk_frozen BK163.out 2
      go_wp2_with (first | ((with_reducible refine gate_callee (f := 81) rfl ?_); refine goesL_ (some 10) rfl rfl Tryd.func81 (by kernel_rfl) rfl #[.agg #[.string a0_0, .string a0_1, .int .i64 a0_2]] rfl (by (try simp only [List.map_toArray, List.map_cons, List.map_nil]); first | done | rfl | (simp only [List.length_drop, List.length_take]; rfl)) ?_; (with_reducible refine (spec_l12Valid.calls k a0_0 a0_1 a0_2 true _ A6.out).mono ?_); rintro e w10 ⟨rfl, hb⟩; refine ⟨_, rfl, ?_⟩; have n0_ := Aside0.mk (blk_below (g := gb163) (o := .cells #[.string a0_0, .string a0_1, .int .i64 a0_2] 42 (0, 0)) (by (with_reducible zq2); exact BK163.out) hb); have n1_ := Aside0.mk (below_step (by zq4) hb); clear BK163; clear HB; have BK163 := n0_; have HB := n1_; clear n0_ n1_; (try clear hb); (try clear hb2); (try clear hk); (try clear hi); have hcz11_0 : w10.cell? ⟨gb163, 0, none⟩ = some (.string a0_0) := (blk_cell BK163.out 0).trans rfl; have hcz11_1 : w10.cell? ⟨gb163, 1, none⟩ = some (.string a0_1) := (blk_cell BK163.out 1).trans rfl; have hcz11_2 : w10.cell? ⟨gb163, 2, none⟩ = some (.int .i64 a0_2) := (blk_cell BK163.out 2).trans rfl; have hfz11_0 := blk_frozen BK163.out 0; have hfz11_1 := blk_frozen BK163.out 1; have hfz11_2 := blk_frozen BK163.out 2) | (go_at_call 74; (with_reducible refine (spec_l1In.calls a1 0 (a0_1.size : Int) t165 _ A8.out).mono ?_); rintro e w' ⟨rfl, ⟨nd, rfl⟩⟩))
      go_meet
      case rel => exact ⟨_, (!t165), (by first | rfl | (simp; done) | (simp [*]; done)), H', ⟨by first | omega | exact Nat.le_refl _⟩, ⟨by (with_reducible zq2); exact BK163.out⟩, ⟨by zq4⟩⟩
    · replace c7 := Bool.eq_false_iff.mpr c7
      subst c7
      have H1 : (spec_CrashLog.j0 k a1 true a0_0 a0_1 a0_2 a2) = some (r1, r2) := by rw [if_neg (show ¬ (false = true) by decide)] at H; exact H
      clear H
      have H := H1
      clear H1
      have H' := Aside0.mk H
      clear H
      have hcz12_0 : w5.cell? ⟨gb163, 0, none⟩ = some (.string a0_0) := (blk_cell BK163.out 0).trans rfl
      have hcz12_1 : w5.cell? ⟨gb163, 1, none⟩ = some (.string a0_1) := (blk_cell BK163.out 1).trans rfl
      have hcz12_2 : w5.cell? ⟨gb163, 2, none⟩ = some (.int .i64 a0_2) := (blk_cell BK163.out 2).trans rfl
      have hfz12_0 := blk_frozen BK163.out 0
      have hfz12_1 := blk_frozen BK163.out 1
      have hfz12_2 := blk_frozen BK163.out 2
      go_wp2_with (first | ((with_reducible refine gate_callee (f := 81) rfl ?_); refine goesL_ (some 10) rfl rfl Tryd.func81 (by kernel_rfl) rfl #[.agg #[.string a0_0, .string a0_1, .int .i64 a0_2]] rfl (by (try simp only [List.map_toArray, List.map_cons, List.map_nil]); first | done | rfl | (simp only [List.length_drop, List.length_take]; rfl)) ?_; (with_reducible refine (spec_l12Valid.calls k a0_0 a0_1 a0_2 false _ A6.out).mono ?_); rintro e w13 ⟨rfl, hb⟩; refine ⟨_, rfl, ?_⟩; have n0_ := Aside0.mk (blk_below (g := gb163) (o := .cells #[.string a0_0, .string a0_1, .int .i64 a0_2] 42 (0, 0)) (by (with_reducible zq2); exact BK163.out) hb); have n1_ := Aside0.mk (below_step (by zq4) hb); clear BK163; clear HB; have BK163 := n0_; have HB := n1_; clear n0_ n1_; (try clear hb); (try clear hb2); (try clear hk); (try clear hi)))
      go_meet
      case rel => exact ⟨_, (true), (by first | rfl | (simp; done) | (simp [*]; done)), H', ⟨by first | omega | exact Nat.le_refl _⟩, ⟨by (with_reducible zq2); exact BK163.out⟩, ⟨by zq4⟩⟩
  case rest =>
    clear HC4
    try clear p2
    try clear c3
    try clear c7
    try clear c8
    try clear hcz11_0
    try clear hcz11_1
    try clear hcz11_2
    try clear hcz12_0
    try clear hcz12_1
    try clear hcz12_2
    try clear hcz9_0
    try clear hcz9_1
    try clear hcz9_2
    try clear hfz11_0
    try clear hfz11_1
    try clear hfz11_2
    try clear hfz12_0
    try clear hfz12_1
    try clear hfz12_2
    try clear hfz9_0
    try clear hfz9_1
    try clear hfz9_2
    obtain ⟨kq, x19_3, rfl, HA, HJ3, BK163, HB⟩ := hcut
    cases kq with
    | zero => exact absurd HA.out (by simp [spec_CrashLog.j0])
    | succ kj3 =>
      have H := HA.out
      clear HA
      simp only [spec_CrashLog.j0] at H
      by_cases c14 : x19_3 = true
      · subst c14
        have H1 : (some ((⟨#[]⟩ : ByteArray), false)) = some (r1, r2) := by rw [if_pos rfl] at H; exact H
        clear H
        have H := H1
        clear H1
        simp only [Option.some.injEq, Prod.mk.injEq] at H
        obtain ⟨rfl, rfl⟩ := H
        go_wp2
        go_ret2
        exact ⟨by first | rfl | (simp [errW_none, errW_some] <;> rfl) | (simp [*, errW_none, errW_some] <;> rfl), by zq4⟩
      · replace c14 := Bool.eq_false_iff.mpr c14
        subst c14
        have H1 : (if 0 ≤ a1 then (if a1 ≤ (a0_1.size : Int) then (if a0_0.size + (crashed (a0_1.extract 0 (a1 : Int).toNat) a2 (decide (a1 > 0))).size ≤ 9223372036854775807 then (some (a0_0 ++ crashed (a0_1.extract 0 (a1 : Int).toNat) a2 (decide (a1 > 0)), true)) else (none)) else (none)) else (none)) = some (r1, r2) := by rw [if_neg (show ¬ (false = true) by decide)] at H; exact H
        clear H
        have H := H1
        clear H1
        by_cases c15 : 0 ≤ a1
        · rw [if_pos c15] at H
          have c15b0 := eq_true c15
          have c15b1 : decide (0 ≤ a1) = true := decide_eq_true c15
          clear c15
          by_cases c16 : a1 ≤ (a0_1.size : Int)
          · rw [if_pos c16] at H
            have c16b0 := eq_true c16
            have c16b1 : decide (a1 ≤ (a0_1.size : Int)) = true := decide_eq_true c16
            have c17 : a0_0.size + (crashed (a0_1.extract 0 (a1 : Int).toNat) a2 (decide (a1 > 0))).size ≤ 9223372036854775807 := by
              apply Decidable.byContradiction
              intro hc
              rw [if_neg hc] at H
              cases H
            rw [if_pos c17] at H
            simp only [Option.some.injEq, Prod.mk.injEq] at H
            obtain ⟨rfl, rfl⟩ := H
            have kb := fun W => print_bytes (P := Tryd.prog) 9 22 5 Tryd.underlying9 Tryd.underlying22 Tryd.underlying5 (a0_1.extract 0 (a1 : Int).toNat) W
            have hcz0 : wc.cell? ⟨gb163, 0, none⟩ = some (.string a0_0) := (blk_cell BK163.out 0).trans rfl
            have hcz1 : wc.cell? ⟨gb163, 1, none⟩ = some (.string a0_1) := (blk_cell BK163.out 1).trans rfl
            have hcz2 : wc.cell? ⟨gb163, 2, none⟩ = some (.int .i64 a0_2) := (blk_cell BK163.out 2).trans rfl
            have hsz : (a0_1.extract 0 (a1 : Int).toNat).size = a1.toNat := by simp; omega
            have hlt := World.block_lt_of_cell? wc _ hcz0
            have hcw0 : (Lib.bytesWorld wc 5 (a0_1.extract 0 (a1 : Int).toNat)).cell? ⟨gb163, 0, none⟩ = some (.string a0_0) := (Lib.bytesWorld_old wc 5 _ _ hlt).trans hcz0
            have bel := bytes_below HB.out HB.out.size 5 (a0_1.extract 0 (a1 : Int).toNat)
            have hcat : a0_0.size + (crashed (a0_1.extract 0 (a1 : Int).toNat) a2 (decide (a1 > 0))).size ≤ 9223372036854775807 := c17
            cases a2 with
            | false =>
              have ks := back_whole wc (a0_1.extract 0 (a1 : Int).toNat) a1.toNat (grownCap wc a1.toNat 0 5) hsz.symm
              have hcat' : a0_0.size + (strOfNums (bytesOf (a0_1.extract 0 (a1 : Int).toNat))).size ≤ 9223372036854775807 := hcat
              have hcat2 : (9223372036854775807 < a0_0.size + (strOfNums (bytesOf (a0_1.extract 0 (a1 : Int).toNat))).size) = False := eq_false (Nat.not_lt.2 hcat')
              go_wp2
              go_ret2
              exact ⟨by first | rfl | (simp [*, crashed]; done), by first | exact bel | (simp only [World.drewN_zero]; exact bel)⟩
            | true =>
              by_cases c18 : a1 > 0
              · have c18b : decide (a1 > 0) = true := decide_eq_true c18
                have hfz := bytes_frozen wc (a0_1.extract 0 (a1 : Int).toNat) (a1.toNat - 1) (by rw [hsz]; omega)
                have hbt := bytes_last wc (a0_1.extract 0 (a1 : Int).toNat) (a1.toNat - 1) (by rw [hsz]; omega)
                have hcr : crashed (a0_1.extract 0 (a1 : Int).toNat) true (decide (a1 > 0)) = strOfNums (tornL (a0_1.extract 0 (a1 : Int).toNat)) := by rw [c18b]; rfl
                rw [hcr] at hcat
                have hl : (strOfNums (tornL (a0_1.extract 0 (a1 : Int).toNat))).size = a1.toNat := by rw [strOfNums_size, tornL, List.length_set, bytesOf_length, hsz]
                have hw1 : wrap64 (a1 - 1) = a1 - 1 := by
                  have : a1.toNat ≤ 9223372036854775807 := by rw [← hl]; omega
                  unfold wrap64
                  omega
                have hcat2 : (9223372036854775807 < a0_0.size + (strOfNums (tornL (a0_1.extract 0 (a1 : Int).toNat))).size) = False := eq_false (Nat.not_lt.2 hcat)
                have ks := back_torn wc (a0_1.extract 0 (a1 : Int).toNat) a1.toNat (grownCap wc a1.toNat 0 5) hsz.symm ((255 - bt (a0_1.extract 0 (a1 : Int).toNat) ((a1.toNat - 1 : Nat) : Int)) % 256) (by omega) (a1.toNat - 1) rfl
                have ht : (bytesOf (a0_1.extract 0 (a1 : Int).toNat)).set ((a0_1.extract 0 (a1 : Int).toNat).size - 1) ((255 - bt (a0_1.extract 0 (a1 : Int).toNat) ((a1.toNat - 1 : Nat) : Int)) % 256) = tornL (a0_1.extract 0 (a1 : Int).toNat) := by unfold tornL; rw [hsz]
                rw [ht] at ks
                have bel2 := below_set (j := a1.toNat - 1) (v := .int .u8 ((255 - bt (a0_1.extract 0 (a1 : Int).toNat) ((a1.toNat - 1 : Nat) : Int)) % 256)) bel HB.out.size
                go_wp2
                go_ret2
                exact ⟨by rw [hcr]; rfl, bel2⟩
              · have c18b : decide (a1 > 0) = false := decide_eq_false c18
                have hcr : crashed (a0_1.extract 0 (a1 : Int).toNat) true (decide (a1 > 0)) = strOfNums (bytesOf (a0_1.extract 0 (a1 : Int).toNat)) := by rw [c18b]; rfl
                rw [hcr] at hcat
                have ks := back_whole wc (a0_1.extract 0 (a1 : Int).toNat) a1.toNat (grownCap wc a1.toNat 0 5) hsz.symm
                have hcat2 : (9223372036854775807 < a0_0.size + (strOfNums (bytesOf (a0_1.extract 0 (a1 : Int).toNat))).size) = False := eq_false (Nat.not_lt.2 hcat)
                go_wp2
                go_ret2
                exact ⟨rfl, bel⟩
          · rw [if_neg c16] at H
            exact absurd H (by simp)
        · rw [if_neg c15] at H
          exact absurd H (by simp)

/-! ### impl_CrashLog: function 35 -/
def impl_CrashLog.j0 : Nat → Int → Bool → ByteArray → ByteArray → Int → Bool → Option (ByteArray × Bool)
  | 0, _, _, _, _, _, _ => none
  | k + 1, x1, x19, x217000, x217001, x217002, xt => if x19 = true then (some ((⟨#[]⟩ : ByteArray), false)) else (if 0 ≤ x1 then (if x1 ≤ (x217001.size : Int) then (if x217000.size + (x217001.extract 0 (x1 : Int).toNat).size ≤ 9223372036854775807 then (some (crashed (x217000 ++ x217001.extract 0 (x1 : Int).toNat) xt (decide (x1 > 0)), true)) else (none)) else (none)) else (none))
def impl_CrashLog.f (k : Nat) (a0_0 : ByteArray) (a0_1 : ByteArray) (a0_2 : Int) (a1 : Int) (a2 : Bool) : Option (ByteArray × Bool) := (impl_IsValidLog.f k a0_0 a0_1 a0_2).bind fun t217 => (if t217 = true then ((impl_in.f a1 0 (a0_1.size : Int)).bind fun t218 => (impl_CrashLog.j0 k a1 (!t218) a0_0 a0_1 a0_2 a2)) else (impl_CrashLog.j0 k a1 true a0_0 a0_1 a0_2 a2))
theorem impl_CrashLog.mono_l : ∀ k, (∀ y0 y1 y2 y3 y4 y5, LeO (impl_CrashLog.j0 k y0 y1 y2 y3 y4 y5) (impl_CrashLog.j0 (k + 1) y0 y1 y2 y3 y4 y5))
  | 0 => fun _ _ _ _ _ _ r h => by simp [impl_CrashLog.j0] at h
  | k + 1 => by
    have ih0 := impl_CrashLog.mono_l k
    · intro y0 y1 y2 y3 y4 y5
      unfold impl_CrashLog.j0
      repeat' first
      | (with_reducible exact ih0 _ _ _ _ _ _)
      | (with_reducible exact impl_IsValidLog.mono _ _ _ _)
      | (with_reducible exact LeO.refl _)
      | (with_reducible exact LeO.none _)
      | (with_reducible refine LeO.ite ?_ ?_)
      | (with_reducible refine LeO.bind ?_ (fun _ => ?_))
      | exact ih0 _ _ _ _ _ _
      | exact impl_IsValidLog.mono _ _ _ _
      | exact LeO.none _
      | refine LeO.ite ?_ ?_
      | refine LeO.bind ?_ (fun _ => ?_)
theorem impl_CrashLog.mono : ∀ a0 a1 a2 a3 a4 k, LeO (impl_CrashLog.f k a0 a1 a2 a3 a4) (impl_CrashLog.f (k + 1) a0 a1 a2 a3 a4) := by
  intro a0 a1 a2 a3 a4 k
  have ih0 := impl_CrashLog.mono_l k
  unfold impl_CrashLog.f
  repeat' first
      | (with_reducible exact ih0 _ _ _ _ _ _)
      | (with_reducible exact impl_IsValidLog.mono _ _ _ _)
      | (with_reducible exact LeO.refl _)
      | (with_reducible exact LeO.none _)
      | (with_reducible refine LeO.ite ?_ ?_)
      | (with_reducible refine LeO.bind ?_ (fun _ => ?_))
      | exact ih0 _ _ _ _ _ _
      | exact impl_IsValidLog.mono _ _ _ _
      | exact LeO.none _
      | refine LeO.ite ?_ ?_
      | refine LeO.bind ?_ (fun _ => ?_)
set_option maxHeartbeats 8000000 in
set_option maxRecDepth 100000 in
theorem impl_CrashLog.calls (k : Nat) (a0_0 : ByteArray) (a0_1 : ByteArray) (a0_2 : Int) (a1 : Int) (a2 : Bool) (r1 : ByteArray) (r2 : Bool) (w : World) (hgl : Glob w) (h : impl_CrashLog.f k a0_0 a0_1 a0_2 a1 a2 = some (r1, r2)) :
    Calls Tryd.prog 35 #[.agg #[.string a0_0, .string a0_1, .int .i64 a0_2], .int .i64 a1, .bool a2] w fun e w' => e = .returned (.tuple #[.string r1, .bool r2]) ∧ Below w.heap.size w w' := by
  have hu42 := Tryd.underlying42
  have HB := Aside0.mk (Below.refl w.heap.size w)
  have HGL := Aside0.mk hgl
  clear hgl
  have H : ((impl_IsValidLog.f k a0_0 a0_1 a0_2).bind fun t217 => (if t217 = true then ((impl_in.f a1 0 (a0_1.size : Int)).bind fun t218 => (impl_CrashLog.j0 k a1 (!t218) a0_0 a0_1 a0_2 a2)) else (impl_CrashLog.j0 k a1 true a0_0 a0_1 a0_2 a2))) = some (r1, r2) := h
  clear h
  have HC4 := Aside0.mk H
  clear H
  go_enter Tryd.func35, Tryd.ntmps35
  go_upto_region 1 with (first | ((with_reducible refine gate_dst (N := 3) rfl ?_); (try (refine gate_guard (by rfl) ?_; dsimp only)); refine box_event ?hg (N := 3) ?hd (cs := #[.string a0_0, .string a0_1, .int .i64 a0_2]) (t := 42) ?hr ?_; (case hd => rfl); (case hg => rfl); (case hr => first | (go_simp; done) | (go_simp; rfl)); intro gb216 hg w5 hbox hb; have n0_ := Aside0.mk (below_step (by zq1) hb); have n1_ := Aside0.mk (hbox); have n2_ := Aside0.mk ((by rw [hg]; exact (below_size (by zq1)) : w.heap.size ≤ gb216)); have n3_ := Aside0.mk ((by rw [hg]; exact (below_size (by zq1)) : w.heap.size ≤ gb216)); clear HB; have HB := n0_; have BK216 := n1_; have GW216 := n2_; have GE216 := n3_; clear n0_ n1_ n2_ n3_; clear hb hbox hg))
  repeat (go_quiet (first | ((with_reducible refine gate_dst (N := 3) rfl ?_); (try (refine gate_guard (by rfl) ?_; dsimp only)); refine box_event ?hg (N := 3) ?hd (cs := #[.string a0_0, .string a0_1, .int .i64 a0_2]) (t := 42) ?hr ?_; (case hd => rfl); (case hg => rfl); (case hr => first | (go_simp; done) | (go_simp; rfl)); intro gb216 hg w5 hbox hb; have n0_ := Aside0.mk (below_step (by zq1) hb); have n1_ := Aside0.mk (hbox); have n2_ := Aside0.mk ((by rw [hg]; exact (below_size (by zq1)) : w.heap.size ≤ gb216)); have n3_ := Aside0.mk ((by rw [hg]; exact (below_size (by zq1)) : w.heap.size ≤ gb216)); clear HB; have HB := n0_; have BK216 := n1_; have GW216 := n2_; have GE216 := n3_; clear n0_ n1_ n2_ n3_; clear hb hbox hg)); go_upto_region 1 with (first | ((with_reducible refine gate_dst (N := 3) rfl ?_); (try (refine gate_guard (by rfl) ?_; dsimp only)); refine box_event ?hg (N := 3) ?hd (cs := #[.string a0_0, .string a0_1, .int .i64 a0_2]) (t := 42) ?hr ?_; (case hd => rfl); (case hg => rfl); (case hr => first | (go_simp; done) | (go_simp; rfl)); intro gb216 hg w5 hbox hb; have n0_ := Aside0.mk (below_step (by zq1) hb); have n1_ := Aside0.mk (hbox); have n2_ := Aside0.mk ((by rw [hg]; exact (below_size (by zq1)) : w.heap.size ≤ gb216)); have n3_ := Aside0.mk ((by rw [hg]; exact (below_size (by zq1)) : w.heap.size ≤ gb216)); clear HB; have HB := n0_; have BK216 := n1_; have GW216 := n2_; have GE216 := n3_; clear n0_ n1_ n2_ n3_; clear hb hbox hg)))
  (try simp only [Act.put, List.setIfInBounds_toArray, List.set_cons_zero, List.set_cons_succ])
  go_cut [19] (fun v19 wc => ∃ (kq : Nat) (x19_3 : Bool), v19 = .bool x19_3 ∧ Aside0 (impl_CrashLog.j0 kq a1 x19_3 a0_0 a0_1 a0_2 a2 = some (r1, r2)) ∧ Aside0 (kq ≤ k) ∧ Aside0 (wc.heap[gb216]? = some (.cells #[.string a0_0, .string a0_1, .int .i64 a0_2] 42 (0, 0))) ∧ Aside0 (Below w.heap.size w wc))
  case first =>
    have H := HC4.out
    clear HC4
    replace H := Option.bind_eq_some_iff.mp H
    obtain ⟨t217, A60, H⟩ := H
    replace H : (if t217 = true then ((impl_in.f a1 0 (a0_1.size : Int)).bind fun t218 => (impl_CrashLog.j0 k a1 (!t218) a0_0 a0_1 a0_2 a2)) else (impl_CrashLog.j0 k a1 true a0_0 a0_1 a0_2 a2)) = some (r1, r2) := H
    have A6 := Aside0.mk A60
    clear A60
    by_cases c7 : t217 = true
    · subst c7
      have H1 : ((impl_in.f a1 0 (a0_1.size : Int)).bind fun t218 => (impl_CrashLog.j0 k a1 (!t218) a0_0 a0_1 a0_2 a2)) = some (r1, r2) := by rw [if_pos rfl] at H; exact H
      clear H
      have H := H1
      clear H1
      replace H := Option.bind_eq_some_iff.mp H
      obtain ⟨t218, A80, H⟩ := H
      replace H : (impl_CrashLog.j0 k a1 (!t218) a0_0 a0_1 a0_2 a2) = some (r1, r2) := H
      have A8 := Aside0.mk A80
      clear A80
      have H' := Aside0.mk H
      clear H
      have hcz9_0 : w5.cell? ⟨gb216, 0, none⟩ = some (.string a0_0) := (blk_cell BK216.out 0).trans rfl
      have hcz9_1 : w5.cell? ⟨gb216, 1, none⟩ = some (.string a0_1) := (blk_cell BK216.out 1).trans rfl
      have hcz9_2 : w5.cell? ⟨gb216, 2, none⟩ = some (.int .i64 a0_2) := (blk_cell BK216.out 2).trans rfl
      have hfz9_0 := blk_frozen BK216.out 0
      have hfz9_1 := blk_frozen BK216.out 1
      have hfz9_2 := blk_frozen BK216.out 2
      go_wp2_with (first | (go_at_call 33; (with_reducible refine (impl_IsValidLog.calls k a0_0 a0_1 a0_2 true _ ?side1 A6.out).mono ?_); (case side1 => exact Glob.below HGL.out (by zq0)); rintro e w10 ⟨rfl, hb⟩; have n0_ := Aside0.mk (blk_below (g := gb216) (o := .cells #[.string a0_0, .string a0_1, .int .i64 a0_2] 42 (0, 0)) (by (with_reducible zq2); exact BK216.out) hb); have n1_ := Aside0.mk (below_step (by zq0) hb); clear BK216; clear HB; have BK216 := n0_; have HB := n1_; clear n0_ n1_; (try clear hb); (try clear hb2); (try clear hk); (try clear hi); have hcz11_0 : w10.cell? ⟨gb216, 0, none⟩ = some (.string a0_0) := (blk_cell BK216.out 0).trans rfl; have hcz11_1 : w10.cell? ⟨gb216, 1, none⟩ = some (.string a0_1) := (blk_cell BK216.out 1).trans rfl; have hcz11_2 : w10.cell? ⟨gb216, 2, none⟩ = some (.int .i64 a0_2) := (blk_cell BK216.out 2).trans rfl; have hfz11_0 := blk_frozen BK216.out 0; have hfz11_1 := blk_frozen BK216.out 1; have hfz11_2 := blk_frozen BK216.out 2) | (go_at_call 77; (with_reducible refine (impl_in.calls a1 0 (a0_1.size : Int) t218 _ A8.out).mono ?_); rintro e w' ⟨rfl, ⟨nd, rfl⟩⟩; (try first | exact ⟨rfl, _, World.drewN_drewN _ _ _⟩ | exact ⟨rfl, _, Eq.trans (World.drewN_drewN _ _ _) (congrArg (World.drewN _) (Nat.add_assoc _ _ _))⟩)))
      repeat (go_quiet (first | (go_at_call 33; (with_reducible refine (impl_IsValidLog.calls k a0_0 a0_1 a0_2 true _ ?side1 A6.out).mono ?_); (case side1 => exact Glob.below HGL.out (by zq0)); rintro e w10 ⟨rfl, hb⟩; have n0_ := Aside0.mk (blk_below (g := gb216) (o := .cells #[.string a0_0, .string a0_1, .int .i64 a0_2] 42 (0, 0)) (by (with_reducible zq2); exact BK216.out) hb); have n1_ := Aside0.mk (below_step (by zq0) hb); clear BK216; clear HB; have BK216 := n0_; have HB := n1_; clear n0_ n1_; (try clear hb); (try clear hb2); (try clear hk); (try clear hi); have hcz11_0 : w10.cell? ⟨gb216, 0, none⟩ = some (.string a0_0) := (blk_cell BK216.out 0).trans rfl; have hcz11_1 : w10.cell? ⟨gb216, 1, none⟩ = some (.string a0_1) := (blk_cell BK216.out 1).trans rfl; have hcz11_2 : w10.cell? ⟨gb216, 2, none⟩ = some (.int .i64 a0_2) := (blk_cell BK216.out 2).trans rfl; have hfz11_0 := blk_frozen BK216.out 0; have hfz11_1 := blk_frozen BK216.out 1; have hfz11_2 := blk_frozen BK216.out 2) | (go_at_call 77; (with_reducible refine (impl_in.calls a1 0 (a0_1.size : Int) t218 _ A8.out).mono ?_); rintro e w' ⟨rfl, ⟨nd, rfl⟩⟩; (try first | exact ⟨rfl, _, World.drewN_drewN _ _ _⟩ | exact ⟨rfl, _, Eq.trans (World.drewN_drewN _ _ _) (congrArg (World.drewN _) (Nat.add_assoc _ _ _))⟩))); try go_wp2_with (first | (go_at_call 33; (with_reducible refine (impl_IsValidLog.calls k a0_0 a0_1 a0_2 true _ ?side1 A6.out).mono ?_); (case side1 => exact Glob.below HGL.out (by zq0)); rintro e w10 ⟨rfl, hb⟩; have n0_ := Aside0.mk (blk_below (g := gb216) (o := .cells #[.string a0_0, .string a0_1, .int .i64 a0_2] 42 (0, 0)) (by (with_reducible zq2); exact BK216.out) hb); have n1_ := Aside0.mk (below_step (by zq0) hb); clear BK216; clear HB; have BK216 := n0_; have HB := n1_; clear n0_ n1_; (try clear hb); (try clear hb2); (try clear hk); (try clear hi); have hcz11_0 : w10.cell? ⟨gb216, 0, none⟩ = some (.string a0_0) := (blk_cell BK216.out 0).trans rfl; have hcz11_1 : w10.cell? ⟨gb216, 1, none⟩ = some (.string a0_1) := (blk_cell BK216.out 1).trans rfl; have hcz11_2 : w10.cell? ⟨gb216, 2, none⟩ = some (.int .i64 a0_2) := (blk_cell BK216.out 2).trans rfl; have hfz11_0 := blk_frozen BK216.out 0; have hfz11_1 := blk_frozen BK216.out 1; have hfz11_2 := blk_frozen BK216.out 2) | (go_at_call 77; (with_reducible refine (impl_in.calls a1 0 (a0_1.size : Int) t218 _ A8.out).mono ?_); rintro e w' ⟨rfl, ⟨nd, rfl⟩⟩; (try first | exact ⟨rfl, _, World.drewN_drewN _ _ _⟩ | exact ⟨rfl, _, Eq.trans (World.drewN_drewN _ _ _) (congrArg (World.drewN _) (Nat.add_assoc _ _ _))⟩))))
      go_meet
      case rel => exact ⟨_, (!t218), (by first | rfl | (simp; done) | (simp [*]; done)), H', ⟨by first | omega | exact Nat.le_refl _⟩, ⟨by (with_reducible zq2); exact BK216.out⟩, ⟨by zq0⟩⟩
    · replace c7 := Bool.eq_false_iff.mpr c7
      subst c7
      have H1 : (impl_CrashLog.j0 k a1 true a0_0 a0_1 a0_2 a2) = some (r1, r2) := by rw [if_neg (show ¬ (false = true) by decide)] at H; exact H
      clear H
      have H := H1
      clear H1
      have H' := Aside0.mk H
      clear H
      have hcz12_0 : w5.cell? ⟨gb216, 0, none⟩ = some (.string a0_0) := (blk_cell BK216.out 0).trans rfl
      have hcz12_1 : w5.cell? ⟨gb216, 1, none⟩ = some (.string a0_1) := (blk_cell BK216.out 1).trans rfl
      have hcz12_2 : w5.cell? ⟨gb216, 2, none⟩ = some (.int .i64 a0_2) := (blk_cell BK216.out 2).trans rfl
      have hfz12_0 := blk_frozen BK216.out 0
      have hfz12_1 := blk_frozen BK216.out 1
      have hfz12_2 := blk_frozen BK216.out 2
      go_wp2_with (first | (go_at_call 33; (with_reducible refine (impl_IsValidLog.calls k a0_0 a0_1 a0_2 false _ ?side1 A6.out).mono ?_); (case side1 => exact Glob.below HGL.out (by zq0)); rintro e w13 ⟨rfl, hb⟩; have n0_ := Aside0.mk (blk_below (g := gb216) (o := .cells #[.string a0_0, .string a0_1, .int .i64 a0_2] 42 (0, 0)) (by (with_reducible zq2); exact BK216.out) hb); have n1_ := Aside0.mk (below_step (by zq0) hb); clear BK216; clear HB; have BK216 := n0_; have HB := n1_; clear n0_ n1_; (try clear hb); (try clear hb2); (try clear hk); (try clear hi)))
      repeat (go_quiet (first | (go_at_call 33; (with_reducible refine (impl_IsValidLog.calls k a0_0 a0_1 a0_2 false _ ?side1 A6.out).mono ?_); (case side1 => exact Glob.below HGL.out (by zq0)); rintro e w13 ⟨rfl, hb⟩; have n0_ := Aside0.mk (blk_below (g := gb216) (o := .cells #[.string a0_0, .string a0_1, .int .i64 a0_2] 42 (0, 0)) (by (with_reducible zq2); exact BK216.out) hb); have n1_ := Aside0.mk (below_step (by zq0) hb); clear BK216; clear HB; have BK216 := n0_; have HB := n1_; clear n0_ n1_; (try clear hb); (try clear hb2); (try clear hk); (try clear hi))); try go_wp2_with (first | (go_at_call 33; (with_reducible refine (impl_IsValidLog.calls k a0_0 a0_1 a0_2 false _ ?side1 A6.out).mono ?_); (case side1 => exact Glob.below HGL.out (by zq0)); rintro e w13 ⟨rfl, hb⟩; have n0_ := Aside0.mk (blk_below (g := gb216) (o := .cells #[.string a0_0, .string a0_1, .int .i64 a0_2] 42 (0, 0)) (by (with_reducible zq2); exact BK216.out) hb); have n1_ := Aside0.mk (below_step (by zq0) hb); clear BK216; clear HB; have BK216 := n0_; have HB := n1_; clear n0_ n1_; (try clear hb); (try clear hb2); (try clear hk); (try clear hi))))
      go_meet
      case rel => exact ⟨_, (true), (by first | rfl | (simp; done) | (simp [*]; done)), H', ⟨by first | omega | exact Nat.le_refl _⟩, ⟨by (with_reducible zq2); exact BK216.out⟩, ⟨by zq0⟩⟩
  case rest =>
    clear HC4
    try clear p2
    try clear c3
    try clear c7
    try clear hcz11_0
    try clear hcz11_1
    try clear hcz11_2
    try clear hcz12_0
    try clear hcz12_1
    try clear hcz12_2
    try clear hcz9_0
    try clear hcz9_1
    try clear hcz9_2
    try clear hfz11_0
    try clear hfz11_1
    try clear hfz11_2
    try clear hfz12_0
    try clear hfz12_1
    try clear hfz12_2
    try clear hfz9_0
    try clear hfz9_1
    try clear hfz9_2
    obtain ⟨kq, x19_3, rfl, HA, HJ3, BK216, HB⟩ := hcut
    cases kq with
    | zero => exact absurd HA.out (by simp [impl_CrashLog.j0])
    | succ kj3 =>
      have H := HA.out
      clear HA
      simp only [impl_CrashLog.j0] at H
      by_cases c14 : x19_3 = true
      · subst c14
        have H1 : (some ((⟨#[]⟩ : ByteArray), false)) = some (r1, r2) := by rw [if_pos rfl] at H; exact H
        clear H
        have H := H1
        clear H1
        simp only [Option.some.injEq, Prod.mk.injEq] at H
        obtain ⟨rfl, rfl⟩ := H
        go_wp2
        repeat (go_quiet (fail); try go_wp2)
        go_ret2
        exact ⟨by first | rfl | (simp [errW_none, errW_some] <;> rfl) | (simp [*, errW_none, errW_some] <;> rfl), by zq0⟩
      · replace c14 := Bool.eq_false_iff.mpr c14
        subst c14
        have H1 : (if 0 ≤ a1 then (if a1 ≤ (a0_1.size : Int) then (if a0_0.size + (a0_1.extract 0 (a1 : Int).toNat).size ≤ 9223372036854775807 then (some (crashed (a0_0 ++ a0_1.extract 0 (a1 : Int).toNat) a2 (decide (a1 > 0)), true)) else (none)) else (none)) else (none)) = some (r1, r2) := by rw [if_neg (show ¬ (false = true) by decide)] at H; exact H
        clear H
        have H := H1
        clear H1
        by_cases c15 : 0 ≤ a1
        · rw [if_pos c15] at H
          have c15b0 := eq_true c15
          have c15b1 : decide (0 ≤ a1) = true := decide_eq_true c15
          clear c15
          by_cases c16 : a1 ≤ (a0_1.size : Int)
          · rw [if_pos c16] at H
            have c16b0 := eq_true c16
            have c16b1 : decide (a1 ≤ (a0_1.size : Int)) = true := decide_eq_true c16
            clear c16
            by_cases c17 : a0_0.size + (a0_1.extract 0 (a1 : Int).toNat).size ≤ 9223372036854775807
            · rw [if_pos c17] at H
              simp only [Option.some.injEq, Prod.mk.injEq] at H
              obtain ⟨rfl, rfl⟩ := H
              have c17b0 := eq_true c17
              have c17b1 : decide (a0_0.size + (a0_1.extract 0 (a1 : Int).toNat).size ≤ 9223372036854775807) = true := decide_eq_true c17
              have c17b2 : (9223372036854775807 < a0_0.size + (a0_1.extract 0 (a1 : Int).toNat).size) = False := eq_false (Nat.not_lt.2 c17)
              have kb := fun W => print_bytes (P := Tryd.prog) 9 22 5 Tryd.underlying9 Tryd.underlying22 Tryd.underlying5 (a0_0 ++ a0_1.extract 0 (a1 : Int).toNat) W
              have n0_ := Aside0.mk (blk_drew BK216.out)
              have n1_ := Aside0.mk (below_drew1 HB.out)
              have hext : (a0_1.extract 0 (a1 : Int).toNat).size = a1.toNat := by rw [ByteArray.size_extract]; have := of_decide_eq_true c16b1; omega
              have hsz : (a0_0 ++ a0_1.extract 0 (a1 : Int).toNat).size = a0_0.size + a1.toNat := by rw [ByteArray.size_append, hext]
              have c17b3 : (9223372036854775807 < a0_0.size + a1.toNat) = False := eq_false (by rw [← hext]; exact Nat.not_lt.2 c17)
              try go_wp2
              clear BK216 HB
              have BK216 := n0_
              have HB := n1_
              clear n0_ n1_
              refine start_ (n := 9) (S := fun w' => w'.cell? ⟨gb216, 0, none⟩ = some (.string a0_0) ∧ w'.cell? ⟨gb216, 1, none⟩ = some (.string a0_1)) (ds := []) #[false, false, false, false, false, false, false, false, false] (by kernel_rfl) rfl rfl ⟨(blk_cell BK216.out 0).trans rfl, (blk_cell BK216.out 1).trans rfl⟩ (fun hHeld => ?_)
              generalize wc.drew = wd at BK216 HB hHeld ⊢
              have hcz0 : wd.cell? ⟨gb216, 0, none⟩ = some (.string a0_0) := (blk_cell BK216.out 0).trans rfl
              have hcz1 : wd.cell? ⟨gb216, 1, none⟩ = some (.string a0_1) := (blk_cell BK216.out 1).trans rfl
              have hlt0 := World.block_lt_of_cell? wd _ hcz0
              have hlt1 := World.block_lt_of_cell? wd _ hcz1
              have bel := bytes_below HB.out HB.out.size 5 (a0_0 ++ a0_1.extract 0 (a1 : Int).toNat)
              refine pure_ (i := 0) (N := some 20) (v := ?_) (a' := ?_) #[true, false, false, false, false, false, false, false, false] rfl rfl (by kernel_rfl) (fun _ _ _ h => h) (Or.inl ⟨by rfl, ?_⟩) ?_ ?_
              rotate_left
              · intro w'
                go_simp
                with_reducible rfl
              rotate_left
              · zq3
                rfl
              refine pure_ (i := 2) (N := some 22) (v := ?_) (a' := ?_) #[true, false, true, false, false, false, false, false, false] rfl rfl (by kernel_rfl) (fun _ _ _ h => h) (Or.inl ⟨by rfl, ?_⟩) ?_ ?_
              rotate_left
              · intro w'
                go_simp
                with_reducible rfl
              rotate_left
              · zq3
                rfl
              refine pure_ (i := 4) (N := some 24) (v := ?_) (a' := ?_) #[true, false, true, false, true, false, false, false, false] rfl rfl (by kernel_rfl) (fun _ _ _ h => h) (Or.inl ⟨by rfl, ?_⟩) ?_ ?_
              rotate_left
              · intro w'
                go_simp
                with_reducible rfl
              rotate_left
              · zq3
                rfl
              refine take_ (i := 1) (N := some 21) (v := ?_) (a' := ?_) #[true, true, true, false, true, false, false, false, false] rfl rfl (by kernel_rfl) (fun _ _ _ h => h) (Or.inl ⟨by rfl, ?_⟩) hHeld ?_ ?_
              rotate_left
              · rintro w' ⟨s0, s1⟩
                go_simp
                with_reducible rfl
              rotate_left
              · zq3
                rfl
              refine take_ (i := 3) (N := some 23) (v := ?_) (a' := ?_) #[true, true, true, true, true, false, false, false, false] rfl rfl (by kernel_rfl) (fun _ _ _ h => h) (Or.inl ⟨by rfl, ?_⟩) hHeld ?_ ?_
              rotate_left
              · rintro w' ⟨s0, s1⟩
                go_simp
                with_reducible rfl
              rotate_left
              · zq3
                rfl
              refine pure_ (i := 5) (N := some 25) (v := ?_) (a' := ?_) #[true, true, true, true, true, true, false, false, false] rfl rfl (by kernel_rfl) (fun _ _ _ h => h) (Or.inl ⟨by rfl, ?_⟩) ?_ ?_
              rotate_left
              · intro w'
                go_simp
                with_reducible rfl
              rotate_left
              · zq3
                rfl
              refine pure_ (i := 6) (N := some 26) (v := ?_) (a' := ?_) #[true, true, true, true, true, true, true, false, false] rfl rfl (by kernel_rfl) (fun _ _ _ h => h) (Or.inl ⟨by rfl, ?_⟩) ?_ ?_
              rotate_left
              · intro w'
                go_simp
                with_reducible rfl
              rotate_left
              · zq3
                rfl
              refine one_ (i := 7) (N := some 27) #[true, true, true, true, true, true, true, true, false] rfl rfl (by kernel_rfl) (by decide) (fun K hK => ?_)
              refine event_step (by rfl) (w1 := Lib.bytesWorld wd 5 (a0_0 ++ a0_1.extract 0 (a1 : Int).toNat)) (v := .slice (some ⟨wd.heap.size, 0, none⟩) (a0_0.size + a1.toNat) (grownCap wd (a0_0.size + a1.toNat) 0 5)) ?hrun ?_
              case hrun =>
                go_simp
                first | done | (rw [kb, hsz]; rfl) | (rw [hsz]; rfl) | rfl
              refine hK _ _ ⟨(Lib.bytesWorld_old wd 5 _ _ hlt0).trans hcz0, (Lib.bytesWorld_old wd 5 _ _ hlt1).trans hcz1⟩ (fun hHeld2 => ?_)
              zq3
              refine pure_ (i := 8) (N := some 8) (v := ?_) (a' := ?_) #[true, true, true, true, true, true, true, true, true] rfl rfl (by kernel_rfl) (fun _ _ _ h => h) (Or.inl ⟨by rfl, ?_⟩) ?_ ?_
              rotate_left
              · intro w'
                go_simp
                with_reducible rfl
              rotate_left
              · zq3
                rfl
              refine done_ (by kernel_rfl) ?_
              have hle : a0_0.size + a1.toNat ≤ 9223372036854775807 := by rw [← hext]; exact c17
              have hpos : 0 < a1 → 0 < a0_0.size + a1.toNat := fun h => by omega
              generalize hn : a0_0.size + a1.toNat = n at hsz hle hpos ⊢
              cases a2 with
              | false =>
                have ks := back_whole wd (a0_0 ++ a0_1.extract 0 (a1 : Int).toNat) n (grownCap wd n 0 5) hsz.symm
                try go_wp2
                go_ret2
                exact ⟨rfl, bel⟩
              | true =>
                by_cases c18 : a1 > 0
                · have c18b : decide (a1 > 0) = true := decide_eq_true c18
                  have hp := hpos c18
                  have hfz := bytes_frozen wd (a0_0 ++ a0_1.extract 0 (a1 : Int).toNat) (n - 1) (by rw [hsz]; omega)
                  have hbt := bytes_last wd (a0_0 ++ a0_1.extract 0 (a1 : Int).toNat) (n - 1) (by rw [hsz]; omega)
                  have hcr : crashed (a0_0 ++ a0_1.extract 0 (a1 : Int).toNat) true (decide (a1 > 0)) = strOfNums (tornL (a0_0 ++ a0_1.extract 0 (a1 : Int).toNat)) := by rw [c18b]; rfl
                  have hw1 : wrap64 ((n : Int) - 1) = (n : Int) - 1 := by unfold wrap64; omega
                  have ks := back_torn wd (a0_0 ++ a0_1.extract 0 (a1 : Int).toNat) n (grownCap wd n 0 5) hsz.symm ((255 - bt (a0_0 ++ a0_1.extract 0 (a1 : Int).toNat) ((n - 1 : Nat) : Int)) % 256) hp (n - 1) rfl
                  have ht : (bytesOf (a0_0 ++ a0_1.extract 0 (a1 : Int).toNat)).set ((a0_0 ++ a0_1.extract 0 (a1 : Int).toNat).size - 1) ((255 - bt (a0_0 ++ a0_1.extract 0 (a1 : Int).toNat) ((n - 1 : Nat) : Int)) % 256) = tornL (a0_0 ++ a0_1.extract 0 (a1 : Int).toNat) := by unfold tornL; rw [hsz]
                  rw [ht] at ks
                  have bel2 := below_set (j := n - 1) (v := .int .u8 ((255 - bt (a0_0 ++ a0_1.extract 0 (a1 : Int).toNat) ((n - 1 : Nat) : Int)) % 256)) bel HB.out.size
                  try go_wp2
                  go_ret2
                  exact ⟨rfl, bel2⟩
                · have c18b : decide (a1 > 0) = false := decide_eq_false c18
                  have ks := back_whole wd (a0_0 ++ a0_1.extract 0 (a1 : Int).toNat) n (grownCap wd n 0 5) hsz.symm
                  try go_wp2
                  go_ret2
                  exact ⟨rfl, bel⟩
            · rw [if_neg c17] at H
              exact absurd H (by simp)
          · rw [if_neg c16] at H
            exact absurd H (by simp)
        · rw [if_neg c15] at H
          exact absurd H (by simp)
end Go.Proofs.YtgclcjohnnpejaaDoor.Pr
