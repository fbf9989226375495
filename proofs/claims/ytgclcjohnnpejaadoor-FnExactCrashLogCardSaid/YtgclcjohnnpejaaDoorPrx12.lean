-- written by a program of this session (wip/tools) out of the translation; Lean checks it
import Derived.Test.YtgclcjohnnpejaaDoorPrx0
import Derived.Test.YtgclcjohnnpejaaDoorPrx4
import Derived.Test.YtgclcjohnnpejaaDoorPrx6
import Derived.Test.YtgclcjohnnpejaaDoorPrx11
namespace Go.Proofs.YtgclcjohnnpejaaDoor.Pr
open Go.RowKit Go.Proofs.YtgclcjohnnpejaaDoorW.PrintWords Go.Proofs.YtgclcjohnnpejaaDoorW.PrintLast Go.Proofs.YtgclcjohnnpejaaDoorW.PrintMore
attribute [local go_sem] max2_int min2_int max_two min_two max_three min_three max_four min_four   -- for this text's walks alone
set_option linter.unusedVariables false
set_option linter.unusedSimpArgs false

set_option hygiene false in
local macro "zq0" : tactic => `(tactic| (repeat (first | refine blk_drewN ?_ _ | refine blk_drew ?_ | refine blk_alloc ?_ _)))
set_option hygiene false in
local macro "zq1" : tactic => `(tactic| (repeat (first | (with_reducible first | exact HB.out | apply below_alloc | apply pw_below_drewN | apply below_drew1 | refine below_set ?_ GE155.out) | exact HB.out)))
set_option hygiene false in
local macro "zq2" : tactic => `(tactic| (simp only [Act.put, List.setIfInBounds_toArray, List.set_cons_zero, List.set_cons_succ, i64_w, i32_w]))
set_option hygiene false in
local macro "zq3" : tactic => `(tactic| (repeat (first | (with_reducible first | exact HB.out | apply below_alloc | apply pw_below_drewN | apply below_drew1 | refine below_set ?_ GE155.out | refine below_set ?_ GE165.out) | exact HB.out)))
set_option hygiene false in
local macro "zq4" : tactic => `(tactic| (have n2_ := Aside0.mk (blk_below (g := gb165) (o := .cells #[.string (rdOf ByteArray.empty t161 0), .string (((rdOf ByteArray.empty t157 0).extract yj1.size (rdOf ByteArray.empty t157 0).size).extract ((ji26) : Int).toNat ((rdOf ByteArray.empty t157 0).size - yj1.size))] 38 (0, 0)) (by (with_reducible zq0); exact BK165.out) hb)))
set_option hygiene false in
local macro "zq5" : tactic => `(tactic| (refine start_ (n := 13) (S := fun w' => w'.cell? ⟨gb165, 0, none⟩ = some (.string (rdOf ByteArray.empty t161 0)) ∧ w'.cell? ⟨gb165, 1, none⟩ = some (.string (((rdOf ByteArray.empty t157 0).extract yj1.size (rdOf ByteArray.empty t157 0).size).extract ((ji26) : Int).toNat ((rdOf ByteArray.empty t157 0).size - yj1.size)))) (ds := []) #[false, false, false, false, false, false, false, false, false, false, false, false, false] (by kernel_rfl) rfl rfl ⟨(blk_cell BK165.out 0).trans rfl, (blk_cell BK165.out 1).trans rfl⟩ (fun hHeld => ?_); refine with_tabW spec_l12Decode.tab10 spec_l12Decode.bits10 (fun HT_ HW_ => ?_)))
set_option hygiene false in
local macro "zq6" : tactic => `(tactic| (refine bodyPost_ret (results_ct rfl _ _ gb155 38 #[.string (rdOf ByteArray.empty t161 0), .string (((rdOf ByteArray.empty t157 0).extract yj1.size (rdOf ByteArray.empty t157 0).size).extract ((ji26) : Int).toNat ((rdOf ByteArray.empty t157 0).size - yj1.size))] (0, 0) _ rfl (by (with_reducible zq0); refine blk_put (cs := #[.string (rdOf ByteArray.empty t161 0), .string (⟨#[]⟩ : ByteArray)]) ?_ 1 _ rfl; (with_reducible zq0); refine blk_put (cs := #[.string (⟨#[]⟩ : ByteArray), .string (⟨#[]⟩ : ByteArray)]) ?_ 0 _ rfl; (with_reducible zq0); exact BK155.out) Tryd.underlying38 rfl (by kernel_rfl)) rfl ?_))
set_option hygiene false in
local macro "zq7" : tactic => `(tactic| (refine bodyPost_ret (results_ct rfl _ _ gb155 38 #[.string (⟨#[]⟩ : ByteArray), .string (⟨#[]⟩ : ByteArray)] (0, 0) _ rfl (by (with_reducible zq0); refine blk_put (cs := #[.string (⟨#[]⟩ : ByteArray), .string (⟨#[]⟩ : ByteArray)]) ?_ 1 _ rfl; (with_reducible zq0); refine blk_put (cs := #[.string (⟨#[]⟩ : ByteArray), .string (⟨#[]⟩ : ByteArray)]) ?_ 0 _ rfl; (with_reducible zq0); exact BK155.out) Tryd.underlying38 rfl (by kernel_rfl)) rfl ?_))
set_option hygiene false in
local macro "zq8" : tactic => `(tactic| (refine goes_ Tryd.func75 (by kernel_rfl) rfl #[.agg #[.string (rdOf ByteArray.empty t161 0), .string (((rdOf ByteArray.empty t157 0).extract yj1.size (rdOf ByteArray.empty t157 0).size).extract ((ji26) : Int).toNat ((rdOf ByteArray.empty t157 0).size - yj1.size))]] (by rfl) rfl rfl (by (try simp only [List.map_toArray, List.map_cons, List.map_nil]); first | done | (simp only [hji26]; rfl) | rfl | (simp only [List.length_drop, List.length_take]; rfl)) ?_))
set_option hygiene false in
local macro "zq9" : tactic => `(tactic| (repeat (first | apply Kd.R_alloc | apply Kd.R_drewN | apply Kd.R_drew)))
set_option hygiene false in
local macro "zq10" : tactic => `(tactic| (have n1_ := Aside0.mk (blk_below (g := gb155) (o := .cells #[.string (⟨#[]⟩ : ByteArray), .string (⟨#[]⟩ : ByteArray)] 38 (0, 0)) (by (with_reducible zq0); exact BK155.out) hb)))
set_option hygiene false in
local macro "zq11" : tactic => `(tactic| (refine hK.out _ _ ⟨((cell_far (p := ⟨gb155, _, none⟩) NB165_155.out _).trans (((cell_far (p := ⟨gb155, _, none⟩) NB165_155.out _).trans (hHeld.1)))), ((cell_far (p := ⟨gb155, _, none⟩) NB165_155.out _).trans (((cell_far (p := ⟨gb155, _, none⟩) NB165_155.out _).trans (hHeld.2))))⟩ (fun hHeld => ?_)))
/-! ### spec_l12Decode: function 107 -/
def spec_l12Decode.j0 : Nat → ByteArray → Int → ByteArray → ByteArray → Bool → Option (ByteArray × ByteArray × Bool)
  | 0, _, _, _, _, _ => none
  | k + 1, x0, x1, x6, x7, x30 => if x30 = true then (some ((⟨#[]⟩ : ByteArray), (⟨#[]⟩ : ByteArray), false)) else (if 0 ≤ (x6.size : Int) then (if (x6.size : Int) ≤ (x7.size : Int) then ((spec_l1Split.f k (x7.extract x6.size x7.size) 64).bind fun t161 => (if 0 < (t161.length : Int) then (if ((rdOf ByteArray.empty t161 0).size : Int) = ((x7.size - x6.size) : Int) then (some ((⟨#[]⟩ : ByteArray), (⟨#[]⟩ : ByteArray), false)) else (if 0 ≤ (wrap64 (((rdOf ByteArray.empty t161 0).size : Int) + 1)) then (if (wrap64 (((rdOf ByteArray.empty t161 0).size : Int) + 1)) ≤ ((x7.size - x6.size) : Int) then ((spec_l12Record.f k (rdOf ByteArray.empty t161 0) ((x7.extract x6.size x7.size).extract ((wrap64 (((rdOf ByteArray.empty t161 0).size : Int) + 1)) : Int).toNat (x7.size - x6.size))).bind fun t166 => (if t166 = true then ((spec_l12Line.f k x1 (rdOf ByteArray.empty t161 0) ((x7.extract x6.size x7.size).extract ((wrap64 (((rdOf ByteArray.empty t161 0).size : Int) + 1)) : Int).toNat (x7.size - x6.size))).bind fun t167 => (if x0.size + 1 ≤ 9223372036854775807 then (some (rdOf ByteArray.empty t161 0, (x7.extract x6.size x7.size).extract ((wrap64 (((rdOf ByteArray.empty t161 0).size : Int) + 1)) : Int).toNat (x7.size - x6.size), (t167.toList == (x0 ++ (⟨#[10]⟩ : ByteArray)).toList))) else (none))) else (some (rdOf ByteArray.empty t161 0, (x7.extract x6.size x7.size).extract ((wrap64 (((rdOf ByteArray.empty t161 0).size : Int) + 1)) : Int).toNat (x7.size - x6.size), false)))) else (none)) else (none))) else (none))) else (none)) else (none))
def spec_l12Decode.f (k : Nat) (a0 : ByteArray) (a1 : Int) : Option (ByteArray × ByteArray × Bool) := (spec_l1Num.f k a1).bind fun t156 => (if t156.size + 1 ≤ 9223372036854775807 then ((spec_l1Split.f k a0 35).bind fun t157 => (if 0 < (t157.length : Int) then (if ((rdOf ByteArray.empty t157 0).size : Int) < ((t156.size : Int) + 1) then (spec_l12Decode.j0 k a0 a1 (t156 ++ (⟨#[32]⟩ : ByteArray)) (rdOf ByteArray.empty t157 0) true) else (if 0 ≤ ((t156.size : Int) + 1) then (if ((t156.size : Int) + 1) ≤ ((rdOf ByteArray.empty t157 0).size : Int) then (spec_l12Decode.j0 k a0 a1 (t156 ++ (⟨#[32]⟩ : ByteArray)) (rdOf ByteArray.empty t157 0) (((rdOf ByteArray.empty t157 0).extract 0 (((t156.size : Int) + 1) : Int).toNat).toList != (t156 ++ (⟨#[32]⟩ : ByteArray)).toList)) else (none)) else (none))) else (none))) else (none))
theorem spec_l12Decode.mono_l : ∀ k, (∀ y0 y1 y2 y3 y4, LeO (spec_l12Decode.j0 k y0 y1 y2 y3 y4) (spec_l12Decode.j0 (k + 1) y0 y1 y2 y3 y4))
  | 0 => fun _ _ _ _ _ r h => by simp [spec_l12Decode.j0] at h
  | k + 1 => by
    have ih0 := spec_l12Decode.mono_l k
    · intro y0 y1 y2 y3 y4
      unfold spec_l12Decode.j0
      repeat' first
      | (with_reducible exact ih0 _ _ _ _ _)
      | (with_reducible exact spec_l12Line.mono _ _ _ _)
      | (with_reducible exact spec_l12Record.mono _ _ _)
      | (with_reducible exact spec_l1Num.mono _ _)
      | (with_reducible exact spec_l1Split.mono _ _ _)
      | (with_reducible exact LeO.refl _)
      | (with_reducible exact LeO.none _)
      | (with_reducible refine LeO.ite ?_ ?_)
      | (with_reducible refine LeO.bind ?_ (fun _ => ?_))
      | exact ih0 _ _ _ _ _
      | exact spec_l12Line.mono _ _ _ _
      | exact spec_l12Record.mono _ _ _
      | exact spec_l1Num.mono _ _
      | exact spec_l1Split.mono _ _ _
      | exact LeO.none _
      | refine LeO.ite ?_ ?_
      | refine LeO.bind ?_ (fun _ => ?_)
theorem spec_l12Decode.mono : ∀ a0 a1 k, LeO (spec_l12Decode.f k a0 a1) (spec_l12Decode.f (k + 1) a0 a1) := by
  intro a0 a1 k
  have ih0 := spec_l12Decode.mono_l k
  unfold spec_l12Decode.f
  repeat' first
      | (with_reducible exact ih0 _ _ _ _ _)
      | (with_reducible exact spec_l12Line.mono _ _ _ _)
      | (with_reducible exact spec_l12Record.mono _ _ _)
      | (with_reducible exact spec_l1Num.mono _ _)
      | (with_reducible exact spec_l1Split.mono _ _ _)
      | (with_reducible exact LeO.refl _)
      | (with_reducible exact LeO.none _)
      | (with_reducible refine LeO.ite ?_ ?_)
      | (with_reducible refine LeO.bind ?_ (fun _ => ?_))
      | exact ih0 _ _ _ _ _
      | exact spec_l12Line.mono _ _ _ _
      | exact spec_l12Record.mono _ _ _
      | exact spec_l1Num.mono _ _
      | exact spec_l1Split.mono _ _ _
      | exact LeO.none _
      | refine LeO.ite ?_ ?_
      | refine LeO.bind ?_ (fun _ => ?_)
def spec_l12Decode.T10 : Bool × List (List Nat × List Nat) := (true, [([], []), ([], []), ([1], [1]), ([2, 2], [2]), ([3], [3]), ([3], [3]), ([4, 5, 3, 3], [3, 4, 5]), ([3], [3]), ([7, 3], [3, 7]), ([6, 8, 3], [3, 6, 8]), ([3, 9], [3, 9]), ([0, 6, 0], [0]), ([10, 11, 0, 1, 2, 3, 4, 5, 6, 7, 8, 9, 10, 11], [10])])
def spec_l12Decode.B10 : List Nat := [0, 0, 2, 6, 14, 14, 62, 14, 142, 510, 1022, 127, 4095]
theorem spec_l12Decode.tab10 : rtab .any (opsOf Tryd.f107 10) = spec_l12Decode.T10 := by kernel_rfl
theorem spec_l12Decode.bits10 : waitsOk spec_l12Decode.T10.2 spec_l12Decode.B10 = true := by kernel_rfl
set_option maxHeartbeats 8000000 in
set_option maxRecDepth 100000 in
theorem spec_l12Decode.calls (k : Nat) (a0 : ByteArray) (a1 : Int) (r1 : ByteArray) (r2 : ByteArray) (r3 : Bool) (w : World) (h : spec_l12Decode.f k a0 a1 = some (r1, r2, r3)) :
    Calls Tryd.prog 107 #[.string a0, .int .i64 a1] w fun e w' => e = .returned (.tuple #[.agg #[.string r1, .string r2], .bool r3]) ∧ Below w.heap.size w w' := by
  have hu38 := Tryd.underlying38
  have HB := Aside0.mk (Below.refl w.heap.size w)
  have H : ((spec_l1Num.f k a1).bind fun t156 => (if t156.size + 1 ≤ 9223372036854775807 then ((spec_l1Split.f k a0 35).bind fun t157 => (if 0 < (t157.length : Int) then (if ((rdOf ByteArray.empty t157 0).size : Int) < ((t156.size : Int) + 1) then (spec_l12Decode.j0 k a0 a1 (t156 ++ (⟨#[32]⟩ : ByteArray)) (rdOf ByteArray.empty t157 0) true) else (if 0 ≤ ((t156.size : Int) + 1) then (if ((t156.size : Int) + 1) ≤ ((rdOf ByteArray.empty t157 0).size : Int) then (spec_l12Decode.j0 k a0 a1 (t156 ++ (⟨#[32]⟩ : ByteArray)) (rdOf ByteArray.empty t157 0) (((rdOf ByteArray.empty t157 0).extract 0 (((t156.size : Int) + 1) : Int).toNat).toList != (t156 ++ (⟨#[32]⟩ : ByteArray)).toList)) else (none)) else (none))) else (none))) else (none))) = some (r1, r2, r3) := h
  clear h
  replace H := Option.bind_eq_some_iff.mp H
  obtain ⟨t156, A30, H⟩ := H
  replace H : (if t156.size + 1 ≤ 9223372036854775807 then ((spec_l1Split.f k a0 35).bind fun t157 => (if 0 < (t157.length : Int) then (if ((rdOf ByteArray.empty t157 0).size : Int) < ((t156.size : Int) + 1) then (spec_l12Decode.j0 k a0 a1 (t156 ++ (⟨#[32]⟩ : ByteArray)) (rdOf ByteArray.empty t157 0) true) else (if 0 ≤ ((t156.size : Int) + 1) then (if ((t156.size : Int) + 1) ≤ ((rdOf ByteArray.empty t157 0).size : Int) then (spec_l12Decode.j0 k a0 a1 (t156 ++ (⟨#[32]⟩ : ByteArray)) (rdOf ByteArray.empty t157 0) (((rdOf ByteArray.empty t157 0).extract 0 (((t156.size : Int) + 1) : Int).toNat).toList != (t156 ++ (⟨#[32]⟩ : ByteArray)).toList)) else (none)) else (none))) else (none))) else (none)) = some (r1, r2, r3) := H
  have A3 := Aside0.mk A30
  clear A30
  by_cases c4 : t156.size + 1 ≤ 9223372036854775807
  · rw [if_pos c4] at H
    have c4b0 := eq_true c4
    have c4b1 : decide (t156.size + 1 ≤ 9223372036854775807) = true := decide_eq_true c4
    try have c4b2 : (9223372036854775807 < t156.size + 1) = False := eq_false (Nat.not_lt.2 c4)
    replace H := Option.bind_eq_some_iff.mp H
    obtain ⟨t157, A50, H⟩ := H
    replace H : (if 0 < (t157.length : Int) then (if ((rdOf ByteArray.empty t157 0).size : Int) < ((t156.size : Int) + 1) then (spec_l12Decode.j0 k a0 a1 (t156 ++ (⟨#[32]⟩ : ByteArray)) (rdOf ByteArray.empty t157 0) true) else (if 0 ≤ ((t156.size : Int) + 1) then (if ((t156.size : Int) + 1) ≤ ((rdOf ByteArray.empty t157 0).size : Int) then (spec_l12Decode.j0 k a0 a1 (t156 ++ (⟨#[32]⟩ : ByteArray)) (rdOf ByteArray.empty t157 0) (((rdOf ByteArray.empty t157 0).extract 0 (((t156.size : Int) + 1) : Int).toNat).toList != (t156 ++ (⟨#[32]⟩ : ByteArray)).toList)) else (none)) else (none))) else (none)) = some (r1, r2, r3) := H
    have A5 := Aside0.mk A50
    clear A50
    by_cases c6 : 0 < (t157.length : Int)
    · rw [if_pos c6] at H
      have c6b0 : decide (0 < (t157.length : Int)) = true := decide_eq_true c6
      have c6b1 : decide (0 < t157.length) = true := decide_eq_true (by omega)
      clear c6
      have HC7 := Aside0.mk H
      clear H
      go_enter Tryd.func107, Tryd.ntmps107
      go_upto_region 3 with (first | ((with_reducible refine gate_dst (N := 4) rfl ?_); (try (refine gate_guard (by rfl) ?_; dsimp only)); refine box_event ?hg (N := 4) ?hd (cs := #[.string (⟨#[]⟩ : ByteArray), .string (⟨#[]⟩ : ByteArray)]) (t := 38) ?hr ?_; (case hd => rfl); (case hg => rfl); (case hr => first | (go_simp; done) | (go_simp; rfl)); intro gb155 hg w8 hbox hb; have n0_ := Aside0.mk (below_step (by repeat (first | (with_reducible first | exact HB.out | apply below_alloc | apply pw_below_drewN | apply below_drew1) | exact HB.out)) hb); have n1_ := Aside0.mk (hbox); have n2_ := Aside0.mk ((by rw [hg]; exact (below_size (by repeat (first | (with_reducible first | exact HB.out | apply below_alloc | apply pw_below_drewN | apply below_drew1) | exact HB.out))) : w.heap.size ≤ gb155)); have n3_ := Aside0.mk ((by rw [hg]; exact (below_size (by repeat (first | (with_reducible first | exact HB.out | apply below_alloc | apply pw_below_drewN | apply below_drew1) | exact HB.out))) : w.heap.size ≤ gb155)); clear HB; have HB := n0_; have BK155 := n1_; have GW155 := n2_; have GE155 := n3_; clear n0_ n1_ n2_ n3_; clear hb hbox hg) | ((with_reducible refine gate_callee (f := 92) rfl ?_); refine goesL_ (some 12) rfl rfl Tryd.func92 (by kernel_rfl) rfl #[.int .i64 a1] rfl (by (try simp only [List.map_toArray, List.map_cons, List.map_nil]); first | done | rfl | (simp only [List.length_drop, List.length_take]; rfl)) ?_; (with_reducible refine (spec_l1Num.calls k a1 t156 _ A3.out).mono ?_); rintro e w9 ⟨rfl, hb⟩; refine ⟨_, rfl, ?_⟩; have n0_ := Aside0.mk (blk_below (g := gb155) (o := .cells #[.string (⟨#[]⟩ : ByteArray), .string (⟨#[]⟩ : ByteArray)] 38 (0, 0)) (by (with_reducible zq0); exact BK155.out) hb); have n1_ := Aside0.mk (below_step (by zq1) hb); clear BK155; clear HB; have BK155 := n0_; have HB := n1_; clear n0_ n1_; (try clear hb); (try clear hb2); (try clear hk); (try clear hi)) | ((with_reducible refine gate_callee (f := 106) rfl ?_); refine goesL_ (some 15) rfl rfl Tryd.func106 (by kernel_rfl) rfl #[.string a0, .int .u8 35] rfl (by (try simp only [List.map_toArray, List.map_cons, List.map_nil]); first | done | rfl | (simp only [List.length_drop, List.length_take]; rfl)) ?_; (with_reducible refine (spec_l1Split.calls k a0 35 t157 _ A5.out).mono ?_); rintro e w10 ⟨v158, rfl, ho0, hb⟩; refine ⟨_, rfl, ?_⟩; have n0_ := Aside0.mk (Kd.R_lower ho0 (below_size (by zq1))); zq10; have n2_ := Aside0.mk (below_step (by zq1) hb); clear BK155; clear HB; have HO159 := n0_; have BK155 := n1_; have HB := n2_; clear n0_ n1_ n2_; (try clear hb); (try clear hb2); (try clear hk); (try clear hi); (try clear ho0); obtain ⟨Ao11, co11, eo11⟩ := Kd.R_slice HO159.out; subst eo11; have p160 : 0 ≤ (0 : Int) := (by omega); have q160 : 0 < (t157.length : Int) := of_decide_eq_true (by first | (with_reducible assumption) | assumption); obtain ⟨ad160, e160, hx160_0⟩ := Kd.at_string (Kd.R_reads' HO159.out).2.2 0 p160 q160; cases e160; have qi160 : (0 < t157.length) = True := eq_true (by omega); (try rw [show ((0 : Int)).toNat = 0 from rfl] at hx160_0); (try rw [Addr.add_zero'] at hx160_0); replace p160 := eq_true p160; replace q160 := eq_true q160))
      (try simp only [Act.put, List.setIfInBounds_toArray, List.set_cons_zero, List.set_cons_succ])
      go_cut [30] (fun v30 wc => ∃ (kq : Nat) (x30_6 : Bool), v30 = .bool x30_6 ∧ Aside0 (spec_l12Decode.j0 kq a0 a1 (t156 ++ (⟨#[32]⟩ : ByteArray)) (rdOf ByteArray.empty t157 0) x30_6 = some (r1, r2, r3)) ∧ Aside0 (kq ≤ k) ∧ Aside0 (wc.heap[gb155]? = some (.cells #[.string (⟨#[]⟩ : ByteArray), .string (⟨#[]⟩ : ByteArray)] 38 (0, 0))) ∧ Aside0 (Below w.heap.size w wc))
      case first =>
        have H := HC7.out
        clear HC7
        by_cases c12 : ((rdOf ByteArray.empty t157 0).size : Int) < ((t156.size : Int) + 1)
        · rw [if_pos c12] at H
          have c12b0 : decide (((rdOf ByteArray.empty t157 0).size : Int) < ((t156.size : Int) + 1)) = true := decide_eq_true c12
          clear c12
          (first | rw [c12b0] | (simp only [i64_w, i32_w]; rw [c12b0]) | skip)
          have H' := Aside0.mk H
          clear H
          go_wp2
          go_meet
          case rel => exact ⟨_, (true), (by first | rfl | (simp; done) | (simp [*]; done)), H', ⟨by first | omega | exact Nat.le_refl _⟩, ⟨by (with_reducible zq0); exact BK155.out⟩, ⟨by zq1⟩⟩
        · rw [if_neg c12] at H
          have c12b0 : decide (((rdOf ByteArray.empty t157 0).size : Int) < ((t156.size : Int) + 1)) = false := decide_eq_false c12
          clear c12
          (first | rw [c12b0] | (simp only [i64_w, i32_w]; rw [c12b0]) | skip)
          obtain ⟨ji13, hji13⟩ : ∃ j_ : Int, ((t156.size : Int) + 1) = j_ := ⟨_, rfl⟩
          replace H : (if 0 ≤ (ji13) then (if (ji13) ≤ ((rdOf ByteArray.empty t157 0).size : Int) then (spec_l12Decode.j0 k a0 a1 (t156 ++ (⟨#[32]⟩ : ByteArray)) (rdOf ByteArray.empty t157 0) (((rdOf ByteArray.empty t157 0).extract 0 ((ji13) : Int).toNat).toList != (t156 ++ (⟨#[32]⟩ : ByteArray)).toList)) else (none)) else (none)) = some (r1, r2, r3) := by first | (rw [hji13] at H; exact H) | (simp only [hji13] at H ⊢; exact H)
          (try rw [hji13] at c12b0)
          by_cases c14 : 0 ≤ (ji13)
          · rw [if_pos c14] at H
            have c14b0 := eq_true c14
            have c14b1 : decide (0 ≤ (ji13)) = true := decide_eq_true c14
            clear c14
            by_cases c15 : (ji13) ≤ ((rdOf ByteArray.empty t157 0).size : Int)
            · rw [if_pos c15] at H
              have c15b0 := eq_true c15
              have c15b1 : decide ((ji13) ≤ ((rdOf ByteArray.empty t157 0).size : Int)) = true := decide_eq_true c15
              clear c15
              have H' := Aside0.mk H
              clear H
              go_wp2
              go_meet
              case rel => exact ⟨_, ((((rdOf ByteArray.empty t157 0).extract 0 ((ji13) : Int).toNat).toList != (t156 ++ (⟨#[32]⟩ : ByteArray)).toList)), (by first | rfl | (simp; done) | (simp only [← hji13] <;> (first | rfl | simp)) | (simp [*]; done)), H', ⟨by first | omega | exact Nat.le_refl _⟩, ⟨by (with_reducible zq0); exact BK155.out⟩, ⟨by zq1⟩⟩
            · rw [if_neg c15] at H
              exact absurd H (by simp)
          · rw [if_neg c14] at H
            exact absurd H (by simp)
      case rest =>
        clear HC7
        try clear c1
        try clear p1
        try clear q1
        try clear hx1
        try clear qi1
        try clear p2
        try clear c4
        try clear c4b0
        try clear c4b1
        try clear c4b2
        try clear c6
        try clear c6b0
        try clear c6b1
        try clear c9
        try clear c10
        try clear c12
        try clear c12b0
        try clear c14
        try clear c14b0
        try clear c14b1
        try clear c15
        try clear c15b0
        try clear c15b1
        try clear hx160_0
        try clear p160
        try clear q160
        obtain ⟨kq, x30_6, rfl, HA, HJ6, BK155, HB⟩ := hcut
        generalize hyj1 : (t156 ++ (⟨#[32]⟩ : ByteArray)) = yj1 at *
        have Hyj1 := Aside0.mk hyj1
        clear hyj1
        cases kq with
        | zero => exact absurd HA.out (by simp [spec_l12Decode.j0])
        | succ kj6 =>
          have H := HA.out
          clear HA
          simp only [spec_l12Decode.j0] at H
          by_cases c16 : x30_6 = true
          · subst c16
            have H1 : (some ((⟨#[]⟩ : ByteArray), (⟨#[]⟩ : ByteArray), false)) = some (r1, r2, r3) := by rw [if_pos rfl] at H; exact H
            clear H
            have H := H1
            clear H1
            simp only [Option.some.injEq, Prod.mk.injEq] at H
            obtain ⟨rfl, rfl, rfl⟩ := H
            have hcz17_0 : wc.cell? ⟨gb155, 0, none⟩ = some (.string (⟨#[]⟩ : ByteArray)) := (blk_cell BK155.out 0).trans rfl
            have hcz17_1 : wc.cell? ⟨gb155, 1, none⟩ = some (.string (⟨#[]⟩ : ByteArray)) := (blk_cell BK155.out 1).trans rfl
            have hfz17_0 := blk_frozen BK155.out 0
            have hfz17_1 := blk_frozen BK155.out 1
            go_wp2
            zq7
            exact ⟨by first | rfl | (simp [errW_none, errW_some] <;> rfl) | (simp [*, errW_none, errW_some] <;> rfl), by zq1⟩
          · replace c16 := Bool.eq_false_iff.mpr c16
            subst c16
            have H1 : (if 0 ≤ (yj1.size : Int) then (if (yj1.size : Int) ≤ ((rdOf ByteArray.empty t157 0).size : Int) then ((spec_l1Split.f kj6 ((rdOf ByteArray.empty t157 0).extract yj1.size (rdOf ByteArray.empty t157 0).size) 64).bind fun t161 => (if 0 < (t161.length : Int) then (if ((rdOf ByteArray.empty t161 0).size : Int) = (((rdOf ByteArray.empty t157 0).size - yj1.size) : Int) then (some ((⟨#[]⟩ : ByteArray), (⟨#[]⟩ : ByteArray), false)) else (if 0 ≤ (wrap64 (((rdOf ByteArray.empty t161 0).size : Int) + 1)) then (if (wrap64 (((rdOf ByteArray.empty t161 0).size : Int) + 1)) ≤ (((rdOf ByteArray.empty t157 0).size - yj1.size) : Int) then ((spec_l12Record.f kj6 (rdOf ByteArray.empty t161 0) (((rdOf ByteArray.empty t157 0).extract yj1.size (rdOf ByteArray.empty t157 0).size).extract ((wrap64 (((rdOf ByteArray.empty t161 0).size : Int) + 1)) : Int).toNat ((rdOf ByteArray.empty t157 0).size - yj1.size))).bind fun t166 => (if t166 = true then ((spec_l12Line.f kj6 a1 (rdOf ByteArray.empty t161 0) (((rdOf ByteArray.empty t157 0).extract yj1.size (rdOf ByteArray.empty t157 0).size).extract ((wrap64 (((rdOf ByteArray.empty t161 0).size : Int) + 1)) : Int).toNat ((rdOf ByteArray.empty t157 0).size - yj1.size))).bind fun t167 => (if a0.size + 1 ≤ 9223372036854775807 then (some (rdOf ByteArray.empty t161 0, ((rdOf ByteArray.empty t157 0).extract yj1.size (rdOf ByteArray.empty t157 0).size).extract ((wrap64 (((rdOf ByteArray.empty t161 0).size : Int) + 1)) : Int).toNat ((rdOf ByteArray.empty t157 0).size - yj1.size), (t167.toList == (a0 ++ (⟨#[10]⟩ : ByteArray)).toList))) else (none))) else (some (rdOf ByteArray.empty t161 0, ((rdOf ByteArray.empty t157 0).extract yj1.size (rdOf ByteArray.empty t157 0).size).extract ((wrap64 (((rdOf ByteArray.empty t161 0).size : Int) + 1)) : Int).toNat ((rdOf ByteArray.empty t157 0).size - yj1.size), false)))) else (none)) else (none))) else (none))) else (none)) else (none)) = some (r1, r2, r3) := by rw [if_neg (show ¬ (false = true) by decide)] at H; exact H
            clear H
            have H := H1
            clear H1
            by_cases c18 : 0 ≤ (yj1.size : Int)
            · rw [if_pos c18] at H
              have c18b0 := eq_true c18
              have c18b1 : decide (0 ≤ (yj1.size : Int)) = true := decide_eq_true c18
              by_cases c19 : (yj1.size : Int) ≤ ((rdOf ByteArray.empty t157 0).size : Int)
              · rw [if_pos c19] at H
                have c19b0 := eq_true c19
                have c19b1 : decide ((yj1.size : Int) ≤ ((rdOf ByteArray.empty t157 0).size : Int)) = true := decide_eq_true c19
                replace H := Option.bind_eq_some_iff.mp H
                obtain ⟨t161, A200, H⟩ := H
                replace H : (if 0 < (t161.length : Int) then (if ((rdOf ByteArray.empty t161 0).size : Int) = (((rdOf ByteArray.empty t157 0).size - yj1.size) : Int) then (some ((⟨#[]⟩ : ByteArray), (⟨#[]⟩ : ByteArray), false)) else (if 0 ≤ (wrap64 (((rdOf ByteArray.empty t161 0).size : Int) + 1)) then (if (wrap64 (((rdOf ByteArray.empty t161 0).size : Int) + 1)) ≤ (((rdOf ByteArray.empty t157 0).size - yj1.size) : Int) then ((spec_l12Record.f kj6 (rdOf ByteArray.empty t161 0) (((rdOf ByteArray.empty t157 0).extract yj1.size (rdOf ByteArray.empty t157 0).size).extract ((wrap64 (((rdOf ByteArray.empty t161 0).size : Int) + 1)) : Int).toNat ((rdOf ByteArray.empty t157 0).size - yj1.size))).bind fun t166 => (if t166 = true then ((spec_l12Line.f kj6 a1 (rdOf ByteArray.empty t161 0) (((rdOf ByteArray.empty t157 0).extract yj1.size (rdOf ByteArray.empty t157 0).size).extract ((wrap64 (((rdOf ByteArray.empty t161 0).size : Int) + 1)) : Int).toNat ((rdOf ByteArray.empty t157 0).size - yj1.size))).bind fun t167 => (if a0.size + 1 ≤ 9223372036854775807 then (some (rdOf ByteArray.empty t161 0, ((rdOf ByteArray.empty t157 0).extract yj1.size (rdOf ByteArray.empty t157 0).size).extract ((wrap64 (((rdOf ByteArray.empty t161 0).size : Int) + 1)) : Int).toNat ((rdOf ByteArray.empty t157 0).size - yj1.size), (t167.toList == (a0 ++ (⟨#[10]⟩ : ByteArray)).toList))) else (none))) else (some (rdOf ByteArray.empty t161 0, ((rdOf ByteArray.empty t157 0).extract yj1.size (rdOf ByteArray.empty t157 0).size).extract ((wrap64 (((rdOf ByteArray.empty t161 0).size : Int) + 1)) : Int).toNat ((rdOf ByteArray.empty t157 0).size - yj1.size), false)))) else (none)) else (none))) else (none)) = some (r1, r2, r3) := H
                have A20 := Aside0.mk A200
                clear A200
                by_cases c21 : 0 < (t161.length : Int)
                · rw [if_pos c21] at H
                  have c21b0 : decide (0 < (t161.length : Int)) = true := decide_eq_true c21
                  have c21b1 : decide (0 < t161.length) = true := decide_eq_true (by omega)
                  clear c21
                  by_cases c22 : ((rdOf ByteArray.empty t161 0).size : Int) = (((rdOf ByteArray.empty t157 0).size - yj1.size) : Int)
                  · rw [if_pos c22] at H
                    have c22b0 : (((rdOf ByteArray.empty t161 0).size : Int) == (((rdOf ByteArray.empty t157 0).size - yj1.size) : Int)) = true := beq_iff_eq.mpr c22
                    try (have c22b0z := c22b0; simp only [ByteArray.size_extract, Nat.min_self, Int.toNat_natCast, Nat.sub_zero] at c22b0z)
                    have c22b1 : (((rdOf ByteArray.empty t161 0).size : Int) != (((rdOf ByteArray.empty t157 0).size - yj1.size) : Int)) = false := bne_eq_false_iff_eq.mpr c22
                    try (have c22b1z := c22b1; simp only [ByteArray.size_extract, Nat.min_self, Int.toNat_natCast, Nat.sub_zero] at c22b1z)
                    have c22b2 : ((rdOf ByteArray.empty t161 0).size == ((rdOf ByteArray.empty t157 0).size - yj1.size)) = true := by first | simpa using c22 | (simp at c22 ⊢; omega)
                    try (have c22b2z := c22b2; simp only [ByteArray.size_extract, Nat.min_self, Int.toNat_natCast, Nat.sub_zero] at c22b2z)
                    clear c22
                    simp only [Option.some.injEq, Prod.mk.injEq] at H
                    obtain ⟨rfl, rfl, rfl⟩ := H
                    go_wp2_with (first | ((with_reducible refine gate_callee (f := 106) rfl ?_); refine goesL_ (some 37) rfl rfl Tryd.func106 (by kernel_rfl) rfl #[.string ((rdOf ByteArray.empty t157 0).extract yj1.size (rdOf ByteArray.empty t157 0).size), .int .u8 64] rfl (by (try simp only [List.map_toArray, List.map_cons, List.map_nil]); first | done | rfl | (simp only [List.length_drop, List.length_take]; rfl)) ?_; (with_reducible refine (spec_l1Split.calls kj6 ((rdOf ByteArray.empty t157 0).extract yj1.size (rdOf ByteArray.empty t157 0).size) 64 t161 _ A20.out).mono ?_); rintro e w23 ⟨v162, rfl, ho0, hb⟩; refine ⟨_, rfl, ?_⟩; have n0_ := Aside0.mk (Kd.R_lower ho0 (below_size (by zq1))); zq10; have n2_ := Aside0.mk (below_step (by zq1) hb); clear BK155; clear HB; have HO163 := n0_; have BK155 := n1_; have HB := n2_; clear n0_ n1_ n2_; (try clear hb); (try clear hb2); (try clear hk); (try clear hi); (try clear ho0); obtain ⟨Ao24, co24, eo24⟩ := Kd.R_slice HO163.out; subst eo24; have p164 : 0 ≤ (0 : Int) := (by omega); have q164 : 0 < (t161.length : Int) := of_decide_eq_true (by first | (with_reducible assumption) | assumption); obtain ⟨ad164, e164, hx164_0⟩ := Kd.at_string (Kd.R_reads' HO163.out).2.2 0 p164 q164; cases e164; have qi164 : (0 < t161.length) = True := eq_true (by omega); (try rw [show ((0 : Int)).toNat = 0 from rfl] at hx164_0); (try rw [Addr.add_zero'] at hx164_0); replace p164 := eq_true p164; replace q164 := eq_true q164; have hcz25_0 : w23.cell? ⟨gb155, 0, none⟩ = some (.string (⟨#[]⟩ : ByteArray)) := (blk_cell BK155.out 0).trans rfl; have hcz25_1 : w23.cell? ⟨gb155, 1, none⟩ = some (.string (⟨#[]⟩ : ByteArray)) := (blk_cell BK155.out 1).trans rfl; have hfz25_0 := blk_frozen BK155.out 0; have hfz25_1 := blk_frozen BK155.out 1))
                    zq7
                    exact ⟨by first | rfl | (simp [errW_none, errW_some] <;> rfl) | (simp [*, errW_none, errW_some] <;> rfl), by zq1⟩
                  · rw [if_neg c22] at H
                    have c22b0 : (((rdOf ByteArray.empty t161 0).size : Int) == (((rdOf ByteArray.empty t157 0).size - yj1.size) : Int)) = false := beq_eq_false_iff_ne.mpr c22
                    try (have c22b0z := c22b0; simp only [ByteArray.size_extract, Nat.min_self, Int.toNat_natCast, Nat.sub_zero] at c22b0z)
                    have c22b1 : (((rdOf ByteArray.empty t161 0).size : Int) != (((rdOf ByteArray.empty t157 0).size - yj1.size) : Int)) = true := bne_iff_ne.mpr c22
                    try (have c22b1z := c22b1; simp only [ByteArray.size_extract, Nat.min_self, Int.toNat_natCast, Nat.sub_zero] at c22b1z)
                    have c22b2 : ((rdOf ByteArray.empty t161 0).size == ((rdOf ByteArray.empty t157 0).size - yj1.size)) = false := by first | simpa using c22 | (simp at c22 ⊢; omega)
                    try (have c22b2z := c22b2; simp only [ByteArray.size_extract, Nat.min_self, Int.toNat_natCast, Nat.sub_zero] at c22b2z)
                    obtain ⟨ji26, hji26⟩ : ∃ j_ : Int, (wrap64 (((rdOf ByteArray.empty t161 0).size : Int) + 1)) = j_ := ⟨_, rfl⟩
                    replace H : (if 0 ≤ (ji26) then (if (ji26) ≤ (((rdOf ByteArray.empty t157 0).size - yj1.size) : Int) then ((spec_l12Record.f kj6 (rdOf ByteArray.empty t161 0) (((rdOf ByteArray.empty t157 0).extract yj1.size (rdOf ByteArray.empty t157 0).size).extract ((ji26) : Int).toNat ((rdOf ByteArray.empty t157 0).size - yj1.size))).bind fun t166 => (if t166 = true then ((spec_l12Line.f kj6 a1 (rdOf ByteArray.empty t161 0) (((rdOf ByteArray.empty t157 0).extract yj1.size (rdOf ByteArray.empty t157 0).size).extract ((ji26) : Int).toNat ((rdOf ByteArray.empty t157 0).size - yj1.size))).bind fun t167 => (if a0.size + 1 ≤ 9223372036854775807 then (some (rdOf ByteArray.empty t161 0, ((rdOf ByteArray.empty t157 0).extract yj1.size (rdOf ByteArray.empty t157 0).size).extract ((ji26) : Int).toNat ((rdOf ByteArray.empty t157 0).size - yj1.size), (t167.toList == (a0 ++ (⟨#[10]⟩ : ByteArray)).toList))) else (none))) else (some (rdOf ByteArray.empty t161 0, ((rdOf ByteArray.empty t157 0).extract yj1.size (rdOf ByteArray.empty t157 0).size).extract ((ji26) : Int).toNat ((rdOf ByteArray.empty t157 0).size - yj1.size), false)))) else (none)) else (none)) = some (r1, r2, r3) := by first | (rw [hji26] at H; exact H) | (simp only [hji26] at H ⊢; exact H)
                    (try rw [hji26] at A20)
                    have hji26w : (IntKind.i64.wrap (((rdOf ByteArray.empty t161 0).size : Int) + 1)) = ji26 := (i64_w _).trans hji26
                    by_cases c27 : 0 ≤ (ji26)
                    · rw [if_pos c27] at H
                      have c27b0 := eq_true c27
                      have c27b1 : decide (0 ≤ (ji26)) = true := decide_eq_true c27
                      clear c27
                      by_cases c28 : (ji26) ≤ (((rdOf ByteArray.empty t157 0).size - yj1.size) : Int)
                      · rw [if_pos c28] at H
                        have c28b0 := eq_true c28
                        try (have c28b0z := c28b0; simp only [ByteArray.size_extract, Nat.min_self, Int.toNat_natCast, Nat.sub_zero] at c28b0z)
                        have c28b1 : decide ((ji26) ≤ (((rdOf ByteArray.empty t157 0).size - yj1.size) : Int)) = true := decide_eq_true c28
                        try (have c28b1z := c28b1; simp only [ByteArray.size_extract, Nat.min_self, Int.toNat_natCast, Nat.sub_zero] at c28b1z)
                        replace H := Option.bind_eq_some_iff.mp H
                        obtain ⟨t166, A290, H⟩ := H
                        replace H : (if t166 = true then ((spec_l12Line.f kj6 a1 (rdOf ByteArray.empty t161 0) (((rdOf ByteArray.empty t157 0).extract yj1.size (rdOf ByteArray.empty t157 0).size).extract ((ji26) : Int).toNat ((rdOf ByteArray.empty t157 0).size - yj1.size))).bind fun t167 => (if a0.size + 1 ≤ 9223372036854775807 then (some (rdOf ByteArray.empty t161 0, ((rdOf ByteArray.empty t157 0).extract yj1.size (rdOf ByteArray.empty t157 0).size).extract ((ji26) : Int).toNat ((rdOf ByteArray.empty t157 0).size - yj1.size), (t167.toList == (a0 ++ (⟨#[10]⟩ : ByteArray)).toList))) else (none))) else (some (rdOf ByteArray.empty t161 0, ((rdOf ByteArray.empty t157 0).extract yj1.size (rdOf ByteArray.empty t157 0).size).extract ((ji26) : Int).toNat ((rdOf ByteArray.empty t157 0).size - yj1.size), false))) = some (r1, r2, r3) := H
                        have A29 := Aside0.mk A290
                        clear A290
                        by_cases c30 : t166 = true
                        · subst c30
                          have H1 : ((spec_l12Line.f kj6 a1 (rdOf ByteArray.empty t161 0) (((rdOf ByteArray.empty t157 0).extract yj1.size (rdOf ByteArray.empty t157 0).size).extract ((ji26) : Int).toNat ((rdOf ByteArray.empty t157 0).size - yj1.size))).bind fun t167 => (if a0.size + 1 ≤ 9223372036854775807 then (some (rdOf ByteArray.empty t161 0, ((rdOf ByteArray.empty t157 0).extract yj1.size (rdOf ByteArray.empty t157 0).size).extract ((ji26) : Int).toNat ((rdOf ByteArray.empty t157 0).size - yj1.size), (t167.toList == (a0 ++ (⟨#[10]⟩ : ByteArray)).toList))) else (none))) = some (r1, r2, r3) := by rw [if_pos rfl] at H; exact H
                          clear H
                          have H := H1
                          clear H1
                          replace H := Option.bind_eq_some_iff.mp H
                          obtain ⟨t167, A310, H⟩ := H
                          replace H : (if a0.size + 1 ≤ 9223372036854775807 then (some (rdOf ByteArray.empty t161 0, ((rdOf ByteArray.empty t157 0).extract yj1.size (rdOf ByteArray.empty t157 0).size).extract ((ji26) : Int).toNat ((rdOf ByteArray.empty t157 0).size - yj1.size), (t167.toList == (a0 ++ (⟨#[10]⟩ : ByteArray)).toList))) else (none)) = some (r1, r2, r3) := H
                          have A31 := Aside0.mk A310
                          clear A310
                          by_cases c32 : a0.size + 1 ≤ 9223372036854775807
                          · rw [if_pos c32] at H
                            have c32b0 := eq_true c32
                            have c32b1 : decide (a0.size + 1 ≤ 9223372036854775807) = true := decide_eq_true c32
                            try have c32b2 : (9223372036854775807 < a0.size + 1) = False := eq_false (Nat.not_lt.2 c32)
                            simp only [Option.some.injEq, Prod.mk.injEq] at H
                            obtain ⟨rfl, rfl, rfl⟩ := H
                            try go_wp2_with (first | ((with_reducible refine gate_callee (f := 106) rfl ?_); refine goesL_ (some 37) rfl rfl Tryd.func106 (by kernel_rfl) rfl #[.string ((rdOf ByteArray.empty t157 0).extract yj1.size (rdOf ByteArray.empty t157 0).size), .int .u8 64] rfl (by (try simp only [List.map_toArray, List.map_cons, List.map_nil]); first | done | rfl | (simp only [List.length_drop, List.length_take]; rfl)) ?_; (with_reducible refine (spec_l1Split.calls kj6 ((rdOf ByteArray.empty t157 0).extract yj1.size (rdOf ByteArray.empty t157 0).size) 64 t161 _ A20.out).mono ?_); rintro e w33 ⟨v162, rfl, ho0, hb⟩; refine ⟨_, rfl, ?_⟩; have n0_ := Aside0.mk (Kd.R_lower ho0 (below_size (by zq1))); zq10; have n2_ := Aside0.mk (below_step (by zq1) hb); clear BK155; clear HB; have HO163 := n0_; have BK155 := n1_; have HB := n2_; clear n0_ n1_ n2_; (try clear hb); (try clear hb2); (try clear hk); (try clear hi); (try clear ho0); obtain ⟨Ao34, co34, eo34⟩ := Kd.R_slice HO163.out; subst eo34; have p164 : 0 ≤ (0 : Int) := (by omega); have q164 : 0 < (t161.length : Int) := of_decide_eq_true (by first | (with_reducible assumption) | assumption); obtain ⟨ad164, e164, hx164_0⟩ := Kd.at_string (Kd.R_reads' HO163.out).2.2 0 p164 q164; cases e164; have qi164 : (0 < t161.length) = True := eq_true (by omega); (try rw [show ((0 : Int)).toNat = 0 from rfl] at hx164_0); (try rw [Addr.add_zero'] at hx164_0); replace p164 := eq_true p164; replace q164 := eq_true q164) | ((with_reducible refine gate_dst (N := 10) rfl ?_); (try (refine gate_guard (by rfl) ?_; dsimp only)); refine box_event ?hg (N := 10) ?hd (cs := #[.string (⟨#[]⟩ : ByteArray), .string (⟨#[]⟩ : ByteArray)]) (t := 38) ?hr ?_; (case hd => rfl); (case hg => rfl); (case hr => first | (go_simp; done) | (go_simp; rfl)); intro gb165 hg w35 hbox hb; have n0_ := Aside0.mk (Kd.R_below (by (with_reducible zq9); exact HO163.out) hb); zq10; have n2_ := Aside0.mk (below_step (by zq1) hb); have n3_ := Aside0.mk (hbox); have n4_ := Aside0.mk ((by rw [hg]; exact (below_size (by zq1)) : w.heap.size ≤ gb165)); have n5_ := Aside0.mk ((by rw [hg]; exact (below_size (by zq1)) : w.heap.size ≤ gb165)); have n6_ := Aside0.mk ((by rw [hg]; exact Nat.ne_of_lt (blk_lt (g := gb155) (o := .cells #[.string (⟨#[]⟩ : ByteArray), .string (⟨#[]⟩ : ByteArray)] 38 (0, 0)) (by (with_reducible zq0); exact BK155.out)) : gb155 ≠ gb165)); have n7_ := Aside0.mk ((by rw [hg]; exact Nat.ne_of_gt (blk_lt (g := gb155) (o := .cells #[.string (⟨#[]⟩ : ByteArray), .string (⟨#[]⟩ : ByteArray)] 38 (0, 0)) (by (with_reducible zq0); exact BK155.out)) : gb165 ≠ gb155)); clear HO163; clear BK155; clear HB; have HO163 := n0_; have BK155 := n1_; have HB := n2_; have BK165 := n3_; have GW165 := n4_; have GE165 := n5_; have NB155_165 := n6_; have NB165_155 := n7_; clear n0_ n1_ n2_ n3_ n4_ n5_ n6_ n7_; clear hb hbox hg; have hnb36 := NB165_155.out; have hnc36 := NB155_165.out; have hcz37_0 : w35.cell? ⟨gb165, 0, none⟩ = some (.string (⟨#[]⟩ : ByteArray)) := (blk_cell BK165.out 0).trans rfl; have hcz37_1 : w35.cell? ⟨gb165, 1, none⟩ = some (.string (⟨#[]⟩ : ByteArray)) := (blk_cell BK165.out 1).trans rfl; have hfz37_0 := blk_frozen BK165.out 0; have hfz37_1 := blk_frozen BK165.out 1))
                            have n0_ : Aside0 (Kd.R Kd.string 9 ((w35.setCell ⟨gb165, 0, none⟩ (.string (rdOf ByteArray.empty t161 0))).setCell ⟨gb165, 1, none⟩ (.string (((rdOf ByteArray.empty t157 0).extract yj1.size (rdOf ByteArray.empty t157 0).size).extract ((ji26) : Int).toNat ((rdOf ByteArray.empty t157 0).size - yj1.size)))) w.heap.size (fun _ => True) (.slice (some ad164) t161.length co34) t161) := ⟨by (with_reducible zq9); exact Kd.R_mono (Kd.R_far (p := ⟨gb165, 1, none⟩) (Kd.R_far (p := ⟨gb165, 0, none⟩) (Kd.R_types HO163.out BK165.out (by decide)) (fun _ hk => hk.2) (.string (rdOf ByteArray.empty t161 0))) (fun _ hk => hk.2) (.string (((rdOf ByteArray.empty t157 0).extract yj1.size (rdOf ByteArray.empty t157 0).size).extract ((ji26) : Int).toNat ((rdOf ByteArray.empty t157 0).size - yj1.size)))) (fun _ hk => trivial)⟩
                            have n1_ : Aside0 (((w35.setCell ⟨gb165, 0, none⟩ (.string (rdOf ByteArray.empty t161 0))).setCell ⟨gb165, 1, none⟩ (.string (((rdOf ByteArray.empty t157 0).extract yj1.size (rdOf ByteArray.empty t157 0).size).extract ((ji26) : Int).toNat ((rdOf ByteArray.empty t157 0).size - yj1.size)))).heap[gb155]? = some (.cells #[.string (⟨#[]⟩ : ByteArray), .string (⟨#[]⟩ : ByteArray)] 38 (0, 0))) := ⟨by (with_reducible zq0); refine blk_far ?_ NB155_165.out _; (with_reducible zq0); refine blk_far ?_ NB155_165.out _; (with_reducible zq0); exact BK155.out⟩
                            have n2_ : Aside0 (((w35.setCell ⟨gb165, 0, none⟩ (.string (rdOf ByteArray.empty t161 0))).setCell ⟨gb165, 1, none⟩ (.string (((rdOf ByteArray.empty t157 0).extract yj1.size (rdOf ByteArray.empty t157 0).size).extract ((ji26) : Int).toNat ((rdOf ByteArray.empty t157 0).size - yj1.size)))).heap[gb165]? = some (.cells #[.string (rdOf ByteArray.empty t161 0), .string (((rdOf ByteArray.empty t157 0).extract yj1.size (rdOf ByteArray.empty t157 0).size).extract ((ji26) : Int).toNat ((rdOf ByteArray.empty t157 0).size - yj1.size))] 38 (0, 0))) := ⟨by (with_reducible zq0); refine blk_put (cs := #[.string (rdOf ByteArray.empty t161 0), .string (⟨#[]⟩ : ByteArray)]) ?_ 1 _ rfl; (with_reducible zq0); refine blk_put (cs := #[.string (⟨#[]⟩ : ByteArray), .string (⟨#[]⟩ : ByteArray)]) ?_ 0 _ rfl; (with_reducible zq0); exact BK165.out⟩
                            have n3_ : Aside0 (Below w.heap.size w ((w35.setCell ⟨gb165, 0, none⟩ (.string (rdOf ByteArray.empty t161 0))).setCell ⟨gb165, 1, none⟩ (.string (((rdOf ByteArray.empty t157 0).extract yj1.size (rdOf ByteArray.empty t157 0).size).extract ((ji26) : Int).toNat ((rdOf ByteArray.empty t157 0).size - yj1.size))))) := ⟨by zq3⟩
                            (try clear HO163)
                            (try clear BK155)
                            (try clear BK165)
                            (try clear HB)
                            generalize ((w35.setCell ⟨gb165, 0, none⟩ (.string (rdOf ByteArray.empty t161 0))).setCell ⟨gb165, 1, none⟩ (.string (((rdOf ByteArray.empty t157 0).extract yj1.size (rdOf ByteArray.empty t157 0).size).extract ((ji26) : Int).toNat ((rdOf ByteArray.empty t157 0).size - yj1.size)))) = w38 at n0_ n1_ n2_ n3_ ⊢
                            have HO163 := n0_
                            have BK155 := n1_
                            have BK165 := n2_
                            have HB := n3_
                            clear n0_ n1_ n2_ n3_
                            have n0_ := Aside0.mk (Kd.R_drew HO163.out)
                            have n1_ := Aside0.mk (blk_drew BK155.out)
                            have n2_ := Aside0.mk (blk_drew BK165.out)
                            have n3_ := Aside0.mk (below_drew1 HB.out)
                            clear HO163
                            clear BK155
                            clear BK165
                            clear HB
                            have HO163 := n0_
                            have BK155 := n1_
                            have BK165 := n2_
                            have HB := n3_
                            clear n0_ n1_ n2_ n3_
                            zq5
                            generalize w38.drew = w39 at HO163 BK155 BK165 HB hHeld ⊢
                            refine take_ (i := 0) (N := some 53) (v := ?_) (a' := ?_) #[true, false, false, false, false, false, false, false, false, false, false, false, false] rfl rfl (take_ofW HT_.out HW_.out (by kernel_rfl)) (fun _ _ _ h => h) (Or.inl ⟨by rfl, ?_⟩) hHeld ?_ ?_
                            rotate_left
                            · rintro w' ⟨s0, s1⟩
                              go_simp
                              with_reducible rfl
                            rotate_left
                            · zq2
                              rfl
                            refine take_ (i := 1) (N := some 54) (v := ?_) (a' := ?_) #[true, true, false, false, false, false, false, false, false, false, false, false, false] rfl rfl (take_ofW HT_.out HW_.out (by kernel_rfl)) (fun _ _ _ h => h) (Or.inl ⟨by rfl, ?_⟩) hHeld ?_ ?_
                            rotate_left
                            · rintro w' ⟨s0, s1⟩
                              go_simp
                              with_reducible rfl
                            rotate_left
                            · zq2
                              rfl
                            refine one_ (i := 2) (N := some 55) #[true, true, true, false, false, false, false, false, false, false, false, false, false] rfl rfl (one_of HT_.out (by kernel_rfl)) (by decide) (fun K hK => ?_)
                            zq8
                            with_reducible refine (spec_l12Record.calls kj6 (rdOf ByteArray.empty t161 0) (((rdOf ByteArray.empty t157 0).extract yj1.size (rdOf ByteArray.empty t157 0).size).extract ((ji26) : Int).toNat ((rdOf ByteArray.empty t157 0).size - yj1.size)) true _ A29.out).mono ?_
                            rintro e w40 ⟨rfl, hb⟩
                            refine ⟨_, rfl, ?_⟩
                            have n0_ := Aside0.mk (Kd.R_below (by (with_reducible zq9); exact HO163.out) hb)
                            zq10
                            zq4
                            have n3_ := Aside0.mk (below_step (by zq3) hb)
                            clear HO163
                            clear BK155
                            clear BK165
                            clear HB
                            have HO163 := n0_
                            have BK155 := n1_
                            have BK165 := n2_
                            have HB := n3_
                            clear n0_ n1_ n2_ n3_
                            (try clear hb)
                            (try clear hb2)
                            (try clear hk)
                            (try clear hi)
                            refine hK.out _ _ ⟨(blk_cell BK165.out 0).trans rfl, (blk_cell BK165.out 1).trans rfl⟩ (fun hHeld => ?_)
                            clear hK K
                            refine norm_ (a' := ?_) ?_ ?_
                            rotate_left
                            · show Act.put _ (some 55) _ = _
                              zq2
                              rfl
                            refine pure_ (i := 3) (N := some 56) (v := ?_) (a' := ?_) #[true, true, true, true, false, false, false, false, false, false, false, false, false] rfl rfl (any_of HT_.out (by kernel_rfl)) (fun _ _ _ h => h) (Or.inl ⟨by rfl, ?_⟩) ?_ ?_
                            rotate_left
                            · intro w'
                              go_simp
                              with_reducible rfl
                            rotate_left
                            · zq2
                              rfl
                            refine pure_ (i := 4) (N := some 57) (v := ?_) (a' := ?_) #[true, true, true, true, true, false, false, false, false, false, false, false, false] rfl rfl (any_of HT_.out (by kernel_rfl)) (fun _ _ _ h => h) (Or.inl ⟨by rfl, ?_⟩) ?_ ?_
                            rotate_left
                            · intro w'
                              go_simp
                              with_reducible rfl
                            rotate_left
                            · zq2
                              rfl
                            refine pure_ (i := 7) (N := some 60) (v := ?_) (a' := ?_) #[true, true, true, true, true, false, false, true, false, false, false, false, false] rfl rfl (any_of HT_.out (by kernel_rfl)) (fun _ _ _ h => h) (Or.inl ⟨by rfl, ?_⟩) ?_ ?_
                            rotate_left
                            · intro w'
                              go_simp
                              with_reducible rfl
                            rotate_left
                            · zq2
                              rfl
                            refine pure_ (i := 8) (N := some 61) (v := ?_) (a' := ?_) #[true, true, true, true, true, false, false, true, true, false, false, false, false] rfl rfl (any_of HT_.out (by kernel_rfl)) (fun _ _ _ h => h) (Or.inl ⟨by rfl, ?_⟩) ?_ ?_
                            rotate_left
                            · intro w'
                              go_simp
                              with_reducible rfl
                            rotate_left
                            · zq2
                              rfl
                            refine take_ (i := 5) (N := some 58) (v := ?_) (a' := ?_) #[true, true, true, true, true, true, false, true, true, false, false, false, false] rfl rfl (take_ofW HT_.out HW_.out (by kernel_rfl)) (fun _ _ _ h => h) (Or.inl ⟨by rfl, ?_⟩) hHeld ?_ ?_
                            rotate_left
                            · rintro w' ⟨s0, s1⟩
                              go_simp
                              with_reducible rfl
                            rotate_left
                            · zq2
                              rfl
                            refine one_ (i := 6) (N := some 59) #[true, true, true, true, true, true, true, true, true, false, false, false, false] rfl rfl (one_of HT_.out (by kernel_rfl)) (by decide) (fun K hK => ?_)
                            refine goes_ Tryd.func76 (by kernel_rfl) rfl #[.int .i64 a1, .agg #[.string (rdOf ByteArray.empty t161 0), .string (((rdOf ByteArray.empty t157 0).extract yj1.size (rdOf ByteArray.empty t157 0).size).extract ((ji26) : Int).toNat ((rdOf ByteArray.empty t157 0).size - yj1.size))]] (by rfl) rfl rfl (by (try simp only [List.map_toArray, List.map_cons, List.map_nil]); first | done | (simp only [hji26]; rfl) | rfl | (simp only [List.length_drop, List.length_take]; rfl)) ?_
                            with_reducible refine (spec_l12Line.calls kj6 a1 (rdOf ByteArray.empty t161 0) (((rdOf ByteArray.empty t157 0).extract yj1.size (rdOf ByteArray.empty t157 0).size).extract ((ji26) : Int).toNat ((rdOf ByteArray.empty t157 0).size - yj1.size)) t167 _ A31.out).mono ?_
                            rintro e w41 ⟨rfl, hb⟩
                            refine ⟨_, rfl, ?_⟩
                            have n0_ := Aside0.mk (Kd.R_below (by (with_reducible zq9); exact HO163.out) hb)
                            zq10
                            zq4
                            have n3_ := Aside0.mk (below_step (by zq3) hb)
                            clear HO163
                            clear BK155
                            clear BK165
                            clear HB
                            have HO163 := n0_
                            have BK155 := n1_
                            have BK165 := n2_
                            have HB := n3_
                            clear n0_ n1_ n2_ n3_
                            (try clear hb)
                            (try clear hb2)
                            (try clear hk)
                            (try clear hi)
                            refine hK.out _ _ ⟨(blk_cell BK165.out 0).trans rfl, (blk_cell BK165.out 1).trans rfl⟩ (fun hHeld => ?_)
                            clear hK K
                            refine norm_ (a' := ?_) ?_ ?_
                            rotate_left
                            · show Act.put _ (some 59) _ = _
                              zq2
                              rfl
                            refine pure_ (i := 9) (N := some 62) (v := ?_) (a' := ?_) #[true, true, true, true, true, true, true, true, true, true, false, false, false] rfl rfl (any_of HT_.out (by kernel_rfl)) (fun _ _ _ h => h) (Or.inl ⟨by rfl, ?_⟩) ?_ ?_
                            rotate_left
                            · intro w'
                              go_simp
                              with_reducible rfl
                            rotate_left
                            · zq2
                              rfl
                            refine pure_ (i := 10) (N := some 63) (v := ?_) (a' := ?_) #[true, true, true, true, true, true, true, true, true, true, true, false, false] rfl rfl (any_of HT_.out (by kernel_rfl)) (fun _ _ _ h => h) (Or.inl ⟨by rfl, ?_⟩) ?_ ?_
                            rotate_left
                            · intro w'
                              go_simp
                              with_reducible rfl
                            rotate_left
                            · zq2
                              rfl
                            refine one_ (i := 11) (N := none) #[true, true, true, true, true, true, true, true, true, true, true, true, false] rfl rfl (one_of HT_.out (by kernel_rfl)) (by decide) (fun K hK => ?_)
                            have hs42 : w41.cell? ⟨gb155, 0, none⟩ = some (.string (⟨#[]⟩ : ByteArray)) := (blk_cell BK155.out 0).trans rfl
                            have hfs42 := blk_frozen BK155.out 0
                            have hns42_1 := NB165_155.out
                            have hms42_1 := NB155_165.out
                            have hs43 : w41.cell? ⟨gb155, 1, none⟩ = some (.string (⟨#[]⟩ : ByteArray)) := (blk_cell BK155.out 1).trans rfl
                            have hfs43 := blk_frozen BK155.out 1
                            have hns43_1 := NB165_155.out
                            have hms43_1 := NB155_165.out
                            refine skip_ (w1 := ?_) (by rfl) rfl ?_ ?_
                            rotate_left
                            · go_simp
                              rfl
                            zq11
                            clear hK K
                            refine pure_ (i := 12) (N := some 5) (v := ?_) (a' := ?_) #[true, true, true, true, true, true, true, true, true, true, true, true, true] rfl rfl (any_of HT_.out (by kernel_rfl)) (fun _ _ _ h => h) (Or.inl ⟨by rfl, ?_⟩) ?_ ?_
                            rotate_left
                            · intro w'
                              go_simp
                              with_reducible rfl
                            rotate_left
                            · zq2
                              rfl
                            refine done_ (done_of HT_.out (by kernel_rfl)) ?_
                            try go_wp2
                            zq6
                            exact ⟨by first | rfl | (simp [errW_none, errW_some] <;> rfl) | (simp only [← hji26]; first | rfl | (simp [errW_none, errW_some] <;> rfl)) | (simp [*, errW_none, errW_some] <;> rfl), by zq3⟩
                          · rw [if_neg c32] at H
                            exact absurd H (by simp)
                        · replace c30 := Bool.eq_false_iff.mpr c30
                          subst c30
                          have H1 : (some (rdOf ByteArray.empty t161 0, ((rdOf ByteArray.empty t157 0).extract yj1.size (rdOf ByteArray.empty t157 0).size).extract ((ji26) : Int).toNat ((rdOf ByteArray.empty t157 0).size - yj1.size), false)) = some (r1, r2, r3) := by rw [if_neg (show ¬ (false = true) by decide)] at H; exact H
                          clear H
                          have H := H1
                          clear H1
                          simp only [Option.some.injEq, Prod.mk.injEq] at H
                          obtain ⟨rfl, rfl, rfl⟩ := H
                          try go_wp2_with (first | ((with_reducible refine gate_callee (f := 106) rfl ?_); refine goesL_ (some 37) rfl rfl Tryd.func106 (by kernel_rfl) rfl #[.string ((rdOf ByteArray.empty t157 0).extract yj1.size (rdOf ByteArray.empty t157 0).size), .int .u8 64] rfl (by (try simp only [List.map_toArray, List.map_cons, List.map_nil]); first | done | rfl | (simp only [List.length_drop, List.length_take]; rfl)) ?_; (with_reducible refine (spec_l1Split.calls kj6 ((rdOf ByteArray.empty t157 0).extract yj1.size (rdOf ByteArray.empty t157 0).size) 64 t161 _ A20.out).mono ?_); rintro e w44 ⟨v162, rfl, ho0, hb⟩; refine ⟨_, rfl, ?_⟩; have n0_ := Aside0.mk (Kd.R_lower ho0 (below_size (by zq1))); zq10; have n2_ := Aside0.mk (below_step (by zq1) hb); clear BK155; clear HB; have HO163 := n0_; have BK155 := n1_; have HB := n2_; clear n0_ n1_ n2_; (try clear hb); (try clear hb2); (try clear hk); (try clear hi); (try clear ho0); obtain ⟨Ao45, co45, eo45⟩ := Kd.R_slice HO163.out; subst eo45; have p164 : 0 ≤ (0 : Int) := (by omega); have q164 : 0 < (t161.length : Int) := of_decide_eq_true (by first | (with_reducible assumption) | assumption); obtain ⟨ad164, e164, hx164_0⟩ := Kd.at_string (Kd.R_reads' HO163.out).2.2 0 p164 q164; cases e164; have qi164 : (0 < t161.length) = True := eq_true (by omega); (try rw [show ((0 : Int)).toNat = 0 from rfl] at hx164_0); (try rw [Addr.add_zero'] at hx164_0); replace p164 := eq_true p164; replace q164 := eq_true q164) | ((with_reducible refine gate_dst (N := 10) rfl ?_); (try (refine gate_guard (by rfl) ?_; dsimp only)); refine box_event ?hg (N := 10) ?hd (cs := #[.string (⟨#[]⟩ : ByteArray), .string (⟨#[]⟩ : ByteArray)]) (t := 38) ?hr ?_; (case hd => rfl); (case hg => rfl); (case hr => first | (go_simp; done) | (go_simp; rfl)); intro gb165 hg w46 hbox hb; have n0_ := Aside0.mk (Kd.R_below (by (with_reducible zq9); exact HO163.out) hb); zq10; have n2_ := Aside0.mk (below_step (by zq1) hb); have n3_ := Aside0.mk (hbox); have n4_ := Aside0.mk ((by rw [hg]; exact (below_size (by zq1)) : w.heap.size ≤ gb165)); have n5_ := Aside0.mk ((by rw [hg]; exact (below_size (by zq1)) : w.heap.size ≤ gb165)); have n6_ := Aside0.mk ((by rw [hg]; exact Nat.ne_of_lt (blk_lt (g := gb155) (o := .cells #[.string (⟨#[]⟩ : ByteArray), .string (⟨#[]⟩ : ByteArray)] 38 (0, 0)) (by (with_reducible zq0); exact BK155.out)) : gb155 ≠ gb165)); have n7_ := Aside0.mk ((by rw [hg]; exact Nat.ne_of_gt (blk_lt (g := gb155) (o := .cells #[.string (⟨#[]⟩ : ByteArray), .string (⟨#[]⟩ : ByteArray)] 38 (0, 0)) (by (with_reducible zq0); exact BK155.out)) : gb165 ≠ gb155)); clear HO163; clear BK155; clear HB; have HO163 := n0_; have BK155 := n1_; have HB := n2_; have BK165 := n3_; have GW165 := n4_; have GE165 := n5_; have NB155_165 := n6_; have NB165_155 := n7_; clear n0_ n1_ n2_ n3_ n4_ n5_ n6_ n7_; clear hb hbox hg; have hnb47 := NB165_155.out; have hnc47 := NB155_165.out; have hcz48_0 : w46.cell? ⟨gb165, 0, none⟩ = some (.string (⟨#[]⟩ : ByteArray)) := (blk_cell BK165.out 0).trans rfl; have hcz48_1 : w46.cell? ⟨gb165, 1, none⟩ = some (.string (⟨#[]⟩ : ByteArray)) := (blk_cell BK165.out 1).trans rfl; have hfz48_0 := blk_frozen BK165.out 0; have hfz48_1 := blk_frozen BK165.out 1))
                          have n0_ : Aside0 (Kd.R Kd.string 9 ((w46.setCell ⟨gb165, 0, none⟩ (.string (rdOf ByteArray.empty t161 0))).setCell ⟨gb165, 1, none⟩ (.string (((rdOf ByteArray.empty t157 0).extract yj1.size (rdOf ByteArray.empty t157 0).size).extract ((ji26) : Int).toNat ((rdOf ByteArray.empty t157 0).size - yj1.size)))) w.heap.size (fun _ => True) (.slice (some ad164) t161.length co45) t161) := ⟨by (with_reducible zq9); exact Kd.R_mono (Kd.R_far (p := ⟨gb165, 1, none⟩) (Kd.R_far (p := ⟨gb165, 0, none⟩) (Kd.R_types HO163.out BK165.out (by decide)) (fun _ hk => hk.2) (.string (rdOf ByteArray.empty t161 0))) (fun _ hk => hk.2) (.string (((rdOf ByteArray.empty t157 0).extract yj1.size (rdOf ByteArray.empty t157 0).size).extract ((ji26) : Int).toNat ((rdOf ByteArray.empty t157 0).size - yj1.size)))) (fun _ hk => trivial)⟩
                          have n1_ : Aside0 (((w46.setCell ⟨gb165, 0, none⟩ (.string (rdOf ByteArray.empty t161 0))).setCell ⟨gb165, 1, none⟩ (.string (((rdOf ByteArray.empty t157 0).extract yj1.size (rdOf ByteArray.empty t157 0).size).extract ((ji26) : Int).toNat ((rdOf ByteArray.empty t157 0).size - yj1.size)))).heap[gb155]? = some (.cells #[.string (⟨#[]⟩ : ByteArray), .string (⟨#[]⟩ : ByteArray)] 38 (0, 0))) := ⟨by (with_reducible zq0); refine blk_far ?_ NB155_165.out _; (with_reducible zq0); refine blk_far ?_ NB155_165.out _; (with_reducible zq0); exact BK155.out⟩
                          have n2_ : Aside0 (((w46.setCell ⟨gb165, 0, none⟩ (.string (rdOf ByteArray.empty t161 0))).setCell ⟨gb165, 1, none⟩ (.string (((rdOf ByteArray.empty t157 0).extract yj1.size (rdOf ByteArray.empty t157 0).size).extract ((ji26) : Int).toNat ((rdOf ByteArray.empty t157 0).size - yj1.size)))).heap[gb165]? = some (.cells #[.string (rdOf ByteArray.empty t161 0), .string (((rdOf ByteArray.empty t157 0).extract yj1.size (rdOf ByteArray.empty t157 0).size).extract ((ji26) : Int).toNat ((rdOf ByteArray.empty t157 0).size - yj1.size))] 38 (0, 0))) := ⟨by (with_reducible zq0); refine blk_put (cs := #[.string (rdOf ByteArray.empty t161 0), .string (⟨#[]⟩ : ByteArray)]) ?_ 1 _ rfl; (with_reducible zq0); refine blk_put (cs := #[.string (⟨#[]⟩ : ByteArray), .string (⟨#[]⟩ : ByteArray)]) ?_ 0 _ rfl; (with_reducible zq0); exact BK165.out⟩
                          have n3_ : Aside0 (Below w.heap.size w ((w46.setCell ⟨gb165, 0, none⟩ (.string (rdOf ByteArray.empty t161 0))).setCell ⟨gb165, 1, none⟩ (.string (((rdOf ByteArray.empty t157 0).extract yj1.size (rdOf ByteArray.empty t157 0).size).extract ((ji26) : Int).toNat ((rdOf ByteArray.empty t157 0).size - yj1.size))))) := ⟨by zq3⟩
                          (try clear HO163)
                          (try clear BK155)
                          (try clear BK165)
                          (try clear HB)
                          generalize ((w46.setCell ⟨gb165, 0, none⟩ (.string (rdOf ByteArray.empty t161 0))).setCell ⟨gb165, 1, none⟩ (.string (((rdOf ByteArray.empty t157 0).extract yj1.size (rdOf ByteArray.empty t157 0).size).extract ((ji26) : Int).toNat ((rdOf ByteArray.empty t157 0).size - yj1.size)))) = w49 at n0_ n1_ n2_ n3_ ⊢
                          have HO163 := n0_
                          have BK155 := n1_
                          have BK165 := n2_
                          have HB := n3_
                          clear n0_ n1_ n2_ n3_
                          have n0_ := Aside0.mk (Kd.R_drew HO163.out)
                          have n1_ := Aside0.mk (blk_drew BK155.out)
                          have n2_ := Aside0.mk (blk_drew BK165.out)
                          have n3_ := Aside0.mk (below_drew1 HB.out)
                          clear HO163
                          clear BK155
                          clear BK165
                          clear HB
                          have HO163 := n0_
                          have BK155 := n1_
                          have BK165 := n2_
                          have HB := n3_
                          clear n0_ n1_ n2_ n3_
                          zq5
                          generalize w49.drew = w50 at HO163 BK155 BK165 HB hHeld ⊢
                          refine take_ (i := 0) (N := some 53) (v := ?_) (a' := ?_) #[true, false, false, false, false, false, false, false, false, false, false, false, false] rfl rfl (take_ofW HT_.out HW_.out (by kernel_rfl)) (fun _ _ _ h => h) (Or.inl ⟨by rfl, ?_⟩) hHeld ?_ ?_
                          rotate_left
                          · rintro w' ⟨s0, s1⟩
                            go_simp
                            with_reducible rfl
                          rotate_left
                          · zq2
                            rfl
                          refine take_ (i := 1) (N := some 54) (v := ?_) (a' := ?_) #[true, true, false, false, false, false, false, false, false, false, false, false, false] rfl rfl (take_ofW HT_.out HW_.out (by kernel_rfl)) (fun _ _ _ h => h) (Or.inl ⟨by rfl, ?_⟩) hHeld ?_ ?_
                          rotate_left
                          · rintro w' ⟨s0, s1⟩
                            go_simp
                            with_reducible rfl
                          rotate_left
                          · zq2
                            rfl
                          refine one_ (i := 2) (N := some 55) #[true, true, true, false, false, false, false, false, false, false, false, false, false] rfl rfl (one_of HT_.out (by kernel_rfl)) (by decide) (fun K hK => ?_)
                          zq8
                          with_reducible refine (spec_l12Record.calls kj6 (rdOf ByteArray.empty t161 0) (((rdOf ByteArray.empty t157 0).extract yj1.size (rdOf ByteArray.empty t157 0).size).extract ((ji26) : Int).toNat ((rdOf ByteArray.empty t157 0).size - yj1.size)) false _ A29.out).mono ?_
                          rintro e w51 ⟨rfl, hb⟩
                          refine ⟨_, rfl, ?_⟩
                          have n0_ := Aside0.mk (Kd.R_below (by (with_reducible zq9); exact HO163.out) hb)
                          zq10
                          zq4
                          have n3_ := Aside0.mk (below_step (by zq3) hb)
                          clear HO163
                          clear BK155
                          clear BK165
                          clear HB
                          have HO163 := n0_
                          have BK155 := n1_
                          have BK165 := n2_
                          have HB := n3_
                          clear n0_ n1_ n2_ n3_
                          (try clear hb)
                          (try clear hb2)
                          (try clear hk)
                          (try clear hi)
                          refine hK.out _ _ ⟨(blk_cell BK165.out 0).trans rfl, (blk_cell BK165.out 1).trans rfl⟩ (fun hHeld => ?_)
                          clear hK K
                          refine norm_ (a' := ?_) ?_ ?_
                          rotate_left
                          · show Act.put _ (some 55) _ = _
                            zq2
                            rfl
                          refine pure_ (i := 3) (N := some 56) (v := ?_) (a' := ?_) #[true, true, true, true, false, false, false, false, false, false, false, false, false] rfl rfl (any_of HT_.out (by kernel_rfl)) (fun _ _ _ h => h) (Or.inl ⟨by rfl, ?_⟩) ?_ ?_
                          rotate_left
                          · intro w'
                            go_simp
                            with_reducible rfl
                          rotate_left
                          · zq2
                            rfl
                          refine pure_ (i := 4) (N := some 57) (v := undef) (a' := ?_) #[true, true, true, true, true, false, false, false, false, false, false, false, false] rfl rfl (any_of HT_.out (by kernel_rfl)) (fun _ _ _ h => h) (Or.inr ⟨by rfl, rfl⟩) ?_ ?_
                          rotate_left
                          · zq2
                            rfl
                          refine pure_ (i := 5) (N := some 58) (v := undef) (a' := ?_) #[true, true, true, true, true, true, false, false, false, false, false, false, false] rfl rfl (any_of HT_.out (by kernel_rfl)) (fun _ _ _ h => h) (Or.inr ⟨by rfl, rfl⟩) ?_ ?_
                          rotate_left
                          · zq2
                            rfl
                          refine pure_ (i := 6) (N := some 59) (v := undef) (a' := ?_) #[true, true, true, true, true, true, true, false, false, false, false, false, false] rfl rfl (any_of HT_.out (by kernel_rfl)) (fun _ _ _ h => h) (Or.inr ⟨by rfl, rfl⟩) ?_ ?_
                          rotate_left
                          · zq2
                            rfl
                          refine pure_ (i := 7) (N := some 60) (v := undef) (a' := ?_) #[true, true, true, true, true, true, true, true, false, false, false, false, false] rfl rfl (any_of HT_.out (by kernel_rfl)) (fun _ _ _ h => h) (Or.inr ⟨by rfl, rfl⟩) ?_ ?_
                          rotate_left
                          · zq2
                            rfl
                          refine pure_ (i := 8) (N := some 61) (v := undef) (a' := ?_) #[true, true, true, true, true, true, true, true, true, false, false, false, false] rfl rfl (any_of HT_.out (by kernel_rfl)) (fun _ _ _ h => h) (Or.inr ⟨by rfl, rfl⟩) ?_ ?_
                          rotate_left
                          · zq2
                            rfl
                          refine pure_ (i := 9) (N := some 62) (v := undef) (a' := ?_) #[true, true, true, true, true, true, true, true, true, true, false, false, false] rfl rfl (any_of HT_.out (by kernel_rfl)) (fun _ _ _ h => h) (Or.inr ⟨by rfl, rfl⟩) ?_ ?_
                          rotate_left
                          · zq2
                            rfl
                          refine pure_ (i := 10) (N := some 63) (v := ?_) (a' := ?_) #[true, true, true, true, true, true, true, true, true, true, true, false, false] rfl rfl (any_of HT_.out (by kernel_rfl)) (fun _ _ _ h => h) (Or.inl ⟨by rfl, ?_⟩) ?_ ?_
                          rotate_left
                          · intro w'
                            go_simp
                            with_reducible rfl
                          rotate_left
                          · zq2
                            rfl
                          refine one_ (i := 11) (N := none) #[true, true, true, true, true, true, true, true, true, true, true, true, false] rfl rfl (one_of HT_.out (by kernel_rfl)) (by decide) (fun K hK => ?_)
                          have hs52 : w51.cell? ⟨gb155, 0, none⟩ = some (.string (⟨#[]⟩ : ByteArray)) := (blk_cell BK155.out 0).trans rfl
                          have hfs52 := blk_frozen BK155.out 0
                          have hns52_1 := NB165_155.out
                          have hms52_1 := NB155_165.out
                          have hs53 : w51.cell? ⟨gb155, 1, none⟩ = some (.string (⟨#[]⟩ : ByteArray)) := (blk_cell BK155.out 1).trans rfl
                          have hfs53 := blk_frozen BK155.out 1
                          have hns53_1 := NB165_155.out
                          have hms53_1 := NB155_165.out
                          refine skip_ (w1 := ?_) (by rfl) rfl ?_ ?_
                          rotate_left
                          · go_simp
                            rfl
                          zq11
                          clear hK K
                          refine pure_ (i := 12) (N := some 5) (v := ?_) (a' := ?_) #[true, true, true, true, true, true, true, true, true, true, true, true, true] rfl rfl (any_of HT_.out (by kernel_rfl)) (fun _ _ _ h => h) (Or.inl ⟨by rfl, ?_⟩) ?_ ?_
                          rotate_left
                          · intro w'
                            go_simp
                            with_reducible rfl
                          rotate_left
                          · zq2
                            rfl
                          refine done_ (done_of HT_.out (by kernel_rfl)) ?_
                          try go_wp2
                          zq6
                          exact ⟨by first | rfl | (simp [errW_none, errW_some] <;> rfl) | (simp only [← hji26]; first | rfl | (simp [errW_none, errW_some] <;> rfl)) | (simp [*, errW_none, errW_some] <;> rfl), by zq3⟩
                      · rw [if_neg c28] at H
                        exact absurd H (by simp)
                    · rw [if_neg c27] at H
                      exact absurd H (by simp)
                · rw [if_neg c21] at H
                  exact absurd H (by simp)
              · rw [if_neg c19] at H
                exact absurd H (by simp)
            · rw [if_neg c18] at H
              exact absurd H (by simp)
    · rw [if_neg c6] at H
      exact absurd H (by simp)
  · rw [if_neg c4] at H
    exact absurd H (by simp)

end Go.Proofs.YtgclcjohnnpejaaDoor.Pr
