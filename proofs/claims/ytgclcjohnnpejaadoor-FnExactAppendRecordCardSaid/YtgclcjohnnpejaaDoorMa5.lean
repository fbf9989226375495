-- texts of this session, and of the kit's print, cut to what the claim leans on
import Derived.Test.YtgclcjohnnpejaaDoorMa4
import Derived.Test.YtgclcjohnnpejaaDoorMa2
section
namespace Go.Proofs.YtgclcjohnnpejaaDoor.Pr
open Go.RowKit Go.Proofs.YtgclcjohnnpejaaDoorW.PrintWords Go.Proofs.YtgclcjohnnpejaaDoorW.PrintLast Go.Proofs.YtgclcjohnnpejaaDoorW.PrintMore
attribute [local go_sem] max2_int min2_int max_two min_two max_three min_three max_four min_four
set_option linter.unusedVariables false
set_option linter.unusedSimpArgs false
theorem z12_0 {P : Prop} (h : P := by repeat (first | (with_reducible first | exact HB.out | apply below_alloc | apply pw_below_drewN | apply below_drew1 | refine below_set ?_ GE155.out) | exact HB.out)) : P := h
theorem z12_1 {P : Prop} (h : P := by (with_reducible repeat (first | refine blk_drewN ?_ _ | refine blk_drew ?_ | refine blk_alloc ?_ _)); exact BK155.out) : P := h
theorem z12_2 {P : Prop} (h : P := by repeat (first | (with_reducible first | exact HB.out | apply below_alloc | apply pw_below_drewN | apply below_drew1 | refine below_set ?_ GE155.out | refine below_set ?_ GE165.out) | exact HB.out)) : P := h
theorem z12_3 {P : Prop} (h : P := by (try simp only [List.map_toArray, List.map_cons, List.map_nil]); first | done | rfl | (simp only [List.length_drop, List.length_take]; rfl)) : P := h
theorem z12_4 {P : Prop} (h : P := by (with_reducible repeat (first | refine blk_drewN ?_ _ | refine blk_drew ?_ | refine blk_alloc ?_ _)); refine blk_put (cs := #[.string (rdOf ByteArray.empty t161 0), .string (⟨#[]⟩ : ByteArray)]) ?_ 1 _ rfl; (with_reducible repeat (first | refine blk_drewN ?_ _ | refine blk_drew ?_ | refine blk_alloc ?_ _)); refine blk_put (cs := #[.string (⟨#[]⟩ : ByteArray), .string (⟨#[]⟩ : ByteArray)]) ?_ 0 _ rfl; (with_reducible repeat (first | refine blk_drewN ?_ _ | refine blk_drew ?_ | refine blk_alloc ?_ _)); exact BK165.out) : P := h
theorem z12_5 {P : Prop} (h : P := by (with_reducible repeat (first | refine blk_drewN ?_ _ | refine blk_drew ?_ | refine blk_alloc ?_ _)); refine blk_put (cs := #[.string (rdOf ByteArray.empty t161 0), .string (⟨#[]⟩ : ByteArray)]) ?_ 1 _ rfl; (with_reducible repeat (first | refine blk_drewN ?_ _ | refine blk_drew ?_ | refine blk_alloc ?_ _)); refine blk_put (cs := #[.string (⟨#[]⟩ : ByteArray), .string (⟨#[]⟩ : ByteArray)]) ?_ 0 _ rfl; (with_reducible repeat (first | refine blk_drewN ?_ _ | refine blk_drew ?_ | refine blk_alloc ?_ _)); exact BK155.out) : P := h
theorem z12_6 {P : Prop} (h : P := by (with_reducible repeat (first | refine blk_drewN ?_ _ | refine blk_drew ?_ | refine blk_alloc ?_ _)); refine blk_put (cs := #[.string (⟨#[]⟩ : ByteArray), .string (⟨#[]⟩ : ByteArray)]) ?_ 1 _ rfl; (with_reducible repeat (first | refine blk_drewN ?_ _ | refine blk_drew ?_ | refine blk_alloc ?_ _)); refine blk_put (cs := #[.string (⟨#[]⟩ : ByteArray), .string (⟨#[]⟩ : ByteArray)]) ?_ 0 _ rfl; (with_reducible repeat (first | refine blk_drewN ?_ _ | refine blk_drew ?_ | refine blk_alloc ?_ _)); exact BK155.out) : P := h
theorem z12_7 {P : Prop} (h : P := by (with_reducible repeat (first | apply Kd.R_alloc | apply Kd.R_drewN | apply Kd.R_drew)); exact Kd.R_mono (Kd.R_far (p := ⟨gb165, 1, none⟩) (Kd.R_far (p := ⟨gb165, 0, none⟩) (Kd.R_types HO163.out BK165.out (by decide)) (fun _ hk => hk.2) (.string (rdOf ByteArray.empty t161 0))) (fun _ hk => hk.2) (.string (((rdOf ByteArray.empty t157 0).extract yj1.size (rdOf ByteArray.empty t157 0).size).extract ((ji26) : Int).toNat ((rdOf ByteArray.empty t157 0).size - yj1.size)))) (fun _ hk => trivial)) : P := h
theorem z12_8 {P : Prop} (h : P := by (with_reducible repeat (first | apply Kd.R_alloc | apply Kd.R_drewN | apply Kd.R_drew)); exact HO163.out) : P := h
theorem z12_9 {P : Prop} (h : P := by (with_reducible repeat (first | refine blk_drewN ?_ _ | refine blk_drew ?_ | refine blk_alloc ?_ _)); refine blk_far ?_ NB155_165.out _; (with_reducible repeat (first | refine blk_drewN ?_ _ | refine blk_drew ?_ | refine blk_alloc ?_ _)); refine blk_far ?_ NB155_165.out _; (with_reducible repeat (first | refine blk_drewN ?_ _ | refine blk_drew ?_ | refine blk_alloc ?_ _)); exact BK155.out) : P := h
theorem z12_10 {P : Prop} (h : P := by kernel_rfl) : P := h
theorem z12_11 {P : Prop} (h : P := by (try simp only [List.map_toArray, List.map_cons, List.map_nil]); first | done | (simp only [hji26]; rfl) | rfl | (simp only [List.length_drop, List.length_take]; rfl)) : P := h
theorem z12_12 {P : Prop} (h : P := by repeat (first | (with_reducible first | exact HB.out | apply below_alloc | apply pw_below_drewN | apply below_drew1) | exact HB.out)) : P := h
theorem z12_13 {P : Prop} (h : P := by (with_reducible repeat (first | refine blk_drewN ?_ _ | refine blk_drew ?_ | refine blk_alloc ?_ _)); exact BK165.out) : P := h
def spec_l12Decode.j0 : Nat → ByteArray → Int → ByteArray → ByteArray → Bool → Option (ByteArray × ByteArray × Bool)
  | 0, _, _, _, _, _ => none
  | k + 1, x0, x1, x6, x7, x30 => if x30 = true then (some ((⟨#[]⟩ : ByteArray), (⟨#[]⟩ : ByteArray), false)) else (if 0 ≤ (x6.size : Int) then (if (x6.size : Int) ≤ (x7.size : Int) then ((spec_l1Split.f k (x7.extract x6.size x7.size) 64).bind fun t161 => (if 0 < (t161.length : Int) then (if ((rdOf ByteArray.empty t161 0).size : Int) = ((x7.size - x6.size) : Int) then (some ((⟨#[]⟩ : ByteArray), (⟨#[]⟩ : ByteArray), false)) else (if 0 ≤ (wrap64 (((rdOf ByteArray.empty t161 0).size : Int) + 1)) then (if (wrap64 (((rdOf ByteArray.empty t161 0).size : Int) + 1)) ≤ ((x7.size - x6.size) : Int) then ((spec_l12Record.f k (rdOf ByteArray.empty t161 0) ((x7.extract x6.size x7.size).extract ((wrap64 (((rdOf ByteArray.empty t161 0).size : Int) + 1)) : Int).toNat (x7.size - x6.size))).bind fun t166 => (if t166 = true then ((spec_l12Line.f k x1 (rdOf ByteArray.empty t161 0) ((x7.extract x6.size x7.size).extract ((wrap64 (((rdOf ByteArray.empty t161 0).size : Int) + 1)) : Int).toNat (x7.size - x6.size))).bind fun t167 => (if x0.size + 1 ≤ 9223372036854775807 then (some (rdOf ByteArray.empty t161 0, (x7.extract x6.size x7.size).extract ((wrap64 (((rdOf ByteArray.empty t161 0).size : Int) + 1)) : Int).toNat (x7.size - x6.size), (t167.toList == (x0 ++ (⟨#[10]⟩ : ByteArray)).toList))) else (none))) else (some (rdOf ByteArray.empty t161 0, (x7.extract x6.size x7.size).extract ((wrap64 (((rdOf ByteArray.empty t161 0).size : Int) + 1)) : Int).toNat (x7.size - x6.size), false)))) else (none)) else (none))) else (none))) else (none)) else (none))
def spec_l12Decode.f (k : Nat) (a0 : ByteArray) (a1 : Int) : Option (ByteArray × ByteArray × Bool) := (spec_l1Num.f k a1).bind fun t156 => (if t156.size + 1 ≤ 9223372036854775807 then ((spec_l1Split.f k a0 35).bind fun t157 => (if 0 < (t157.length : Int) then (if ((rdOf ByteArray.empty t157 0).size : Int) < ((t156.size : Int) + 1) then (spec_l12Decode.j0 k a0 a1 (t156 ++ (⟨#[32]⟩ : ByteArray)) (rdOf ByteArray.empty t157 0) true) else (if 0 ≤ ((t156.size : Int) + 1) then (if ((t156.size : Int) + 1) ≤ ((rdOf ByteArray.empty t157 0).size : Int) then (spec_l12Decode.j0 k a0 a1 (t156 ++ (⟨#[32]⟩ : ByteArray)) (rdOf ByteArray.empty t157 0) (((rdOf ByteArray.empty t157 0).extract 0 (((t156.size : Int) + 1) : Int).toNat).toList != (t156 ++ (⟨#[32]⟩ : ByteArray)).toList)) else (none)) else (none))) else (none))) else (none))
theorem spec_l12Decode.mono_l : ∀ k, (∀ y0 y1 y2 y3 y4, LeO (spec_l12Decode.j0 k y0 y1 y2 y3 y4) (spec_l12Decode.j0 (k + 1) y0 y1 y2 y3 y4))
  | 0 => fun _ _ _ _ _ r h => by simp [spec_l12Decode.j0] at h
  | k + 1 => by
    have ih0 := spec_l12Decode.mono_l k
    · intro y0 y1 y2 y3 y4
      unfold spec_l12Decode.j0
      repeat' first
      | (with_reducible exact ih0 _ _ _ _ _)
      | (with_reducible exact spec_l12Line.mono _ _ _ _)
      | (with_reducible exact spec_l12Record.mono _ _ _)
      | (with_reducible exact spec_l1Num.mono _ _)
      | (with_reducible exact spec_l1Split.mono _ _ _)
      | (with_reducible exact LeO.refl _)
      | (with_reducible exact LeO.none _)
      | (with_reducible refine LeO.ite ?_ ?_)
      | (with_reducible refine LeO.bind ?_ (fun _ => ?_))
      | exact ih0 _ _ _ _ _
      | exact spec_l12Line.mono _ _ _ _
      | exact spec_l12Record.mono _ _ _
      | exact spec_l1Num.mono _ _
      | exact spec_l1Split.mono _ _ _
      | exact LeO.none _
      | refine LeO.ite ?_ ?_
      | refine LeO.bind ?_ (fun _ => ?_)
theorem spec_l12Decode.mono : ∀ a0 a1 k, LeO (spec_l12Decode.f k a0 a1) (spec_l12Decode.f (k + 1) a0 a1) := by
  intro a0 a1 k
  have ih0 := spec_l12Decode.mono_l k
  unfold spec_l12Decode.f
  repeat' first
      | (with_reducible exact ih0 _ _ _ _ _)
      | (with_reducible exact spec_l12Line.mono _ _ _ _)
      | (with_reducible exact spec_l12Record.mono _ _ _)
      | (with_reducible exact spec_l1Num.mono _ _)
      | (with_reducible exact spec_l1Split.mono _ _ _)
      | (with_reducible exact LeO.refl _)
      | (with_reducible exact LeO.none _)
      | (with_reducible refine LeO.ite ?_ ?_)
      | (with_reducible refine LeO.bind ?_ (fun _ => ?_))
      | exact ih0 _ _ _ _ _
      | exact spec_l12Line.mono _ _ _ _
      | exact spec_l12Record.mono _ _ _
      | exact spec_l1Num.mono _ _
      | exact spec_l1Split.mono _ _ _
      | exact LeO.none _
      | refine LeO.ite ?_ ?_
      | refine LeO.bind ?_ (fun _ => ?_)
def spec_l12Decode.T10 : Bool × List (List Nat × List Nat) := (true, [([], []), ([], []), ([1], [1]), ([2, 2], [2]), ([3], [3]), ([3], [3]), ([4, 5, 3, 3], [3, 4, 5]), ([3], [3]), ([7, 3], [3, 7]), ([6, 8, 3], [3, 6, 8]), ([3, 9], [3, 9]), ([0, 6, 0], [0]), ([10, 11, 0, 1, 2, 3, 4, 5, 6, 7, 8, 9, 10, 11], [10])])
def spec_l12Decode.B10 : List Nat := [0, 0, 2, 6, 14, 14, 62, 14, 142, 510, 1022, 127, 4095]
theorem spec_l12Decode.tab10 : rtab .any (opsOf Tryd.f107 10) = spec_l12Decode.T10 := by kernel_rfl
theorem spec_l12Decode.bits10 : waitsOk spec_l12Decode.T10.2 spec_l12Decode.B10 = true := by kernel_rfl
set_option maxHeartbeats 8000000 in
set_option maxRecDepth 100000 in
theorem spec_l12Decode.calls (k : Nat) (a0 : ByteArray) (a1 : Int) (r1 : ByteArray) (r2 : ByteArray) (r3 : Bool) (w : World) (h : spec_l12Decode.f k a0 a1 = some (r1, r2, r3)) :
    Calls Tryd.prog 107 #[.string a0, .int .i64 a1] w fun e w' => e = .returned (.tuple #[.agg #[.string r1, .string r2], .bool r3]) ∧ Below w.heap.size w w' := by
  have hu38 := Tryd.underlying38
  have HB := Aside0.mk (Below.refl w.heap.size w)
  have H : ((spec_l1Num.f k a1).bind fun t156 => (if t156.size + 1 ≤ 9223372036854775807 then ((spec_l1Split.f k a0 35).bind fun t157 => (if 0 < (t157.length : Int) then (if ((rdOf ByteArray.empty t157 0).size : Int) < ((t156.size : Int) + 1) then (spec_l12Decode.j0 k a0 a1 (t156 ++ (⟨#[32]⟩ : ByteArray)) (rdOf ByteArray.empty t157 0) true) else (if 0 ≤ ((t156.size : Int) + 1) then (if ((t156.size : Int) + 1) ≤ ((rdOf ByteArray.empty t157 0).size : Int) then (spec_l12Decode.j0 k a0 a1 (t156 ++ (⟨#[32]⟩ : ByteArray)) (rdOf ByteArray.empty t157 0) (((rdOf ByteArray.empty t157 0).extract 0 (((t156.size : Int) + 1) : Int).toNat).toList != (t156 ++ (⟨#[32]⟩ : ByteArray)).toList)) else (none)) else (none))) else (none))) else (none))) = some (r1, r2, r3) := h
  clear h
  replace H := Option.bind_eq_some_iff.mp H
  obtain ⟨t156, A30, H⟩ := H
  replace H : (if t156.size + 1 ≤ 9223372036854775807 then ((spec_l1Split.f k a0 35).bind fun t157 => (if 0 < (t157.length : Int) then (if ((rdOf ByteArray.empty t157 0).size : Int) < ((t156.size : Int) + 1) then (spec_l12Decode.j0 k a0 a1 (t156 ++ (⟨#[32]⟩ : ByteArray)) (rdOf ByteArray.empty t157 0) true) else (if 0 ≤ ((t156.size : Int) + 1) then (if ((t156.size : Int) + 1) ≤ ((rdOf ByteArray.empty t157 0).size : Int) then (spec_l12Decode.j0 k a0 a1 (t156 ++ (⟨#[32]⟩ : ByteArray)) (rdOf ByteArray.empty t157 0) (((rdOf ByteArray.empty t157 0).extract 0 (((t156.size : Int) + 1) : Int).toNat).toList != (t156 ++ (⟨#[32]⟩ : ByteArray)).toList)) else (none)) else (none))) else (none))) else (none)) = some (r1, r2, r3) := H
  have A3 := Aside0.mk A30
  clear A30
  by_cases c4 : t156.size + 1 ≤ 9223372036854775807
  · rw [if_pos c4] at H
    have c4b0 := eq_true c4
    have c4b1 : decide (t156.size + 1 ≤ 9223372036854775807) = true := decide_eq_true c4
    try have c4b2 : (9223372036854775807 < t156.size + 1) = False := eq_false (Nat.not_lt.2 c4)
    replace H := Option.bind_eq_some_iff.mp H
    obtain ⟨t157, A50, H⟩ := H
    replace H : (if 0 < (t157.length : Int) then (if ((rdOf ByteArray.empty t157 0).size : Int) < ((t156.size : Int) + 1) then (spec_l12Decode.j0 k a0 a1 (t156 ++ (⟨#[32]⟩ : ByteArray)) (rdOf ByteArray.empty t157 0) true) else (if 0 ≤ ((t156.size : Int) + 1) then (if ((t156.size : Int) + 1) ≤ ((rdOf ByteArray.empty t157 0).size : Int) then (spec_l12Decode.j0 k a0 a1 (t156 ++ (⟨#[32]⟩ : ByteArray)) (rdOf ByteArray.empty t157 0) (((rdOf ByteArray.empty t157 0).extract 0 (((t156.size : Int) + 1) : Int).toNat).toList != (t156 ++ (⟨#[32]⟩ : ByteArray)).toList)) else (none)) else (none))) else (none)) = some (r1, r2, r3) := H
    have A5 := Aside0.mk A50
    clear A50
    by_cases c6 : 0 < (t157.length : Int)
    · rw [if_pos c6] at H
      have c6b0 : decide (0 < (t157.length : Int)) = true := decide_eq_true c6
      have c6b1 : decide (0 < t157.length) = true := decide_eq_true (by omega)
      clear c6
      have HC7 := Aside0.mk H
      clear H
      go_enter Tryd.func107, Tryd.ntmps107
      go_upto_region 3 with (first | ((with_reducible refine gate_dst (N := 4) rfl ?_); (try (refine gate_guard (by rfl) ?_; dsimp only)); refine box_event ?hg (N := 4) ?hd (cs := #[.string (⟨#[]⟩ : ByteArray), .string (⟨#[]⟩ : ByteArray)]) (t := 38) ?hr ?_; (case hd => rfl); (case hg => rfl); (case hr => first | (go_simp; done) | (go_simp; rfl)); intro gb155 hg w8 hbox hb; have n0_ := Aside0.mk (below_step z12_12 hb); have n1_ := Aside0.mk (hbox); have n2_ := Aside0.mk ((by rw [hg]; exact (below_size z12_12) : w.heap.size ≤ gb155)); have n3_ := Aside0.mk ((by rw [hg]; exact (below_size z12_12) : w.heap.size ≤ gb155)); clear HB; have HB := n0_; have BK155 := n1_; have GW155 := n2_; have GE155 := n3_; clear n0_ n1_ n2_ n3_; clear hb hbox hg) | ((with_reducible refine gate_callee (f := 92) rfl ?_); refine goesL_ (some 12) rfl rfl Tryd.func92 z12_10 rfl #[.int .i64 a1] rfl z12_3 ?_; (with_reducible refine (spec_l1Num.calls k a1 t156 _ A3.out).mono ?_); rintro e w9 ⟨rfl, hb⟩; refine ⟨_, rfl, ?_⟩; have n0_ := Aside0.mk (blk_below (g := gb155) (o := .cells #[.string (⟨#[]⟩ : ByteArray), .string (⟨#[]⟩ : ByteArray)] 38 (0, 0)) z12_1 hb); have n1_ := Aside0.mk (below_step z12_0 hb); clear BK155; clear HB; have BK155 := n0_; have HB := n1_; clear n0_ n1_; (try clear hb); (try clear hb2); (try clear hk); (try clear hi)) | ((with_reducible refine gate_callee (f := 106) rfl ?_); refine goesL_ (some 15) rfl rfl Tryd.func106 z12_10 rfl #[.string a0, .int .u8 35] rfl z12_3 ?_; (with_reducible refine (spec_l1Split.calls k a0 35 t157 _ A5.out).mono ?_); rintro e w10 ⟨v158, rfl, ho0, hb⟩; refine ⟨_, rfl, ?_⟩; have n0_ := Aside0.mk (Kd.R_lower ho0 (below_size z12_0)); have n1_ := Aside0.mk (blk_below (g := gb155) (o := .cells #[.string (⟨#[]⟩ : ByteArray), .string (⟨#[]⟩ : ByteArray)] 38 (0, 0)) z12_1 hb); have n2_ := Aside0.mk (below_step z12_0 hb); clear BK155; clear HB; have HO159 := n0_; have BK155 := n1_; have HB := n2_; clear n0_ n1_ n2_; (try clear hb); (try clear hb2); (try clear hk); (try clear hi); (try clear ho0); obtain ⟨Ao11, co11, eo11⟩ := Kd.R_slice HO159.out; subst eo11; have p160 : 0 ≤ (0 : Int) := (by omega); have q160 : 0 < (t157.length : Int) := of_decide_eq_true (by first | (with_reducible assumption) | assumption); obtain ⟨ad160, e160, hx160_0⟩ := Kd.at_string (Kd.R_reads' HO159.out).2.2 0 p160 q160; cases e160; have qi160 : (0 < t157.length) = True := eq_true (by omega); (try rw [show ((0 : Int)).toNat = 0 from rfl] at hx160_0); (try rw [Addr.add_zero'] at hx160_0); replace p160 := eq_true p160; replace q160 := eq_true q160))
      (try simp only [Act.put, List.setIfInBounds_toArray, List.set_cons_zero, List.set_cons_succ])
      go_cut [30] (fun v30 wc => ∃ (kq : Nat) (x30_6 : Bool), v30 = .bool x30_6 ∧ Aside0 (spec_l12Decode.j0 kq a0 a1 (t156 ++ (⟨#[32]⟩ : ByteArray)) (rdOf ByteArray.empty t157 0) x30_6 = some (r1, r2, r3)) ∧ Aside0 (kq ≤ k) ∧ Aside0 (wc.heap[gb155]? = some (.cells #[.string (⟨#[]⟩ : ByteArray), .string (⟨#[]⟩ : ByteArray)] 38 (0, 0))) ∧ Aside0 (Below w.heap.size w wc))
      case first =>
        have H := HC7.out
        clear HC7
        by_cases c12 : ((rdOf ByteArray.empty t157 0).size : Int) < ((t156.size : Int) + 1)
        · rw [if_pos c12] at H
          have c12b0 : decide (((rdOf ByteArray.empty t157 0).size : Int) < ((t156.size : Int) + 1)) = true := decide_eq_true c12
          clear c12
          (first | rw [c12b0] | (simp only [i64_w, i32_w]; rw [c12b0]) | skip)
          have H' := Aside0.mk H
          clear H
          go_wp2
          go_meet
          case rel => exact ⟨_, (true), (by first | rfl | (simp; done) | (simp [*]; done)), H', ⟨by first | omega | exact Nat.le_refl _⟩, ⟨z12_1⟩, ⟨z12_0⟩⟩
        · rw [if_neg c12] at H
          have c12b0 : decide (((rdOf ByteArray.empty t157 0).size : Int) < ((t156.size : Int) + 1)) = false := decide_eq_false c12
          clear c12
          (first | rw [c12b0] | (simp only [i64_w, i32_w]; rw [c12b0]) | skip)
          obtain ⟨ji13, hji13⟩ : ∃ j_ : Int, ((t156.size : Int) + 1) = j_ := ⟨_, rfl⟩
          replace H : (if 0 ≤ (ji13) then (if (ji13) ≤ ((rdOf ByteArray.empty t157 0).size : Int) then (spec_l12Decode.j0 k a0 a1 (t156 ++ (⟨#[32]⟩ : ByteArray)) (rdOf ByteArray.empty t157 0) (((rdOf ByteArray.empty t157 0).extract 0 ((ji13) : Int).toNat).toList != (t156 ++ (⟨#[32]⟩ : ByteArray)).toList)) else (none)) else (none)) = some (r1, r2, r3) := by first | (rw [hji13] at H; exact H) | (simp only [hji13] at H ⊢; exact H)
          (try rw [hji13] at c12b0)
          by_cases c14 : 0 ≤ (ji13)
          · rw [if_pos c14] at H
            have c14b0 := eq_true c14
            have c14b1 : decide (0 ≤ (ji13)) = true := decide_eq_true c14
            clear c14
            by_cases c15 : (ji13) ≤ ((rdOf ByteArray.empty t157 0).size : Int)
            · rw [if_pos c15] at H
              have c15b0 := eq_true c15
              have c15b1 : decide ((ji13) ≤ ((rdOf ByteArray.empty t157 0).size : Int)) = true := decide_eq_true c15
              clear c15
              have H' := Aside0.mk H
              clear H
              go_wp2
              go_meet
              case rel => exact ⟨_, ((((rdOf ByteArray.empty t157 0).extract 0 ((ji13) : Int).toNat).toList != (t156 ++ (⟨#[32]⟩ : ByteArray)).toList)), (by first | rfl | (simp; done) | (simp only [← hji13] <;> (first | rfl | simp)) | (simp [*]; done)), H', ⟨by first | omega | exact Nat.le_refl _⟩, ⟨z12_1⟩, ⟨z12_0⟩⟩
            · rw [if_neg c15] at H
              exact absurd H (by simp)
          · rw [if_neg c14] at H
            exact absurd H (by simp)
      case rest =>
        clear HC7
        try clear c1
        try clear p1
        try clear q1
        try clear hx1
        try clear qi1
        try clear p2
        try clear c4
        try clear c4b0
        try clear c4b1
        try clear c4b2
        try clear c6
        try clear c6b0
        try clear c6b1
        try clear c9
        try clear c10
        try clear c12
        try clear c12b0
        try clear c14
        try clear c14b0
        try clear c14b1
        try clear c15
        try clear c15b0
        try clear c15b1
        try clear hx160_0
        try clear p160
        try clear q160
        obtain ⟨kq, x30_6, rfl, HA, HJ6, BK155, HB⟩ := hcut
        generalize hyj1 : (t156 ++ (⟨#[32]⟩ : ByteArray)) = yj1 at *
        have Hyj1 := Aside0.mk hyj1
        clear hyj1
        cases kq with
        | zero => exact absurd HA.out (by simp [spec_l12Decode.j0])
        | succ kj6 =>
          have H := HA.out
          clear HA
          simp only [spec_l12Decode.j0] at H
          by_cases c16 : x30_6 = true
          · subst c16
            have H1 : (some ((⟨#[]⟩ : ByteArray), (⟨#[]⟩ : ByteArray), false)) = some (r1, r2, r3) := by rw [if_pos rfl] at H; exact H
            clear H
            have H := H1
            clear H1
            simp only [Option.some.injEq, Prod.mk.injEq] at H
            obtain ⟨rfl, rfl, rfl⟩ := H
            have hcz17_0 : wc.cell? ⟨gb155, 0, none⟩ = some (.string (⟨#[]⟩ : ByteArray)) := (blk_cell BK155.out 0).trans rfl
            have hcz17_1 : wc.cell? ⟨gb155, 1, none⟩ = some (.string (⟨#[]⟩ : ByteArray)) := (blk_cell BK155.out 1).trans rfl
            have hfz17_0 := blk_frozen BK155.out 0
            have hfz17_1 := blk_frozen BK155.out 1
            go_wp2
            refine bodyPost_ret (results_ct rfl _ _ gb155 38 #[.string (⟨#[]⟩ : ByteArray), .string (⟨#[]⟩ : ByteArray)] (0, 0) _ rfl z12_6 Tryd.underlying38 rfl z12_10) rfl ?_
            exact ⟨by first | rfl | (simp [errW_none, errW_some] <;> rfl) | (simp [*, errW_none, errW_some] <;> rfl), z12_0⟩
          · replace c16 := Bool.eq_false_iff.mpr c16
            subst c16
            have H1 : (if 0 ≤ (yj1.size : Int) then (if (yj1.size : Int) ≤ ((rdOf ByteArray.empty t157 0).size : Int) then ((spec_l1Split.f kj6 ((rdOf ByteArray.empty t157 0).extract yj1.size (rdOf ByteArray.empty t157 0).size) 64).bind fun t161 => (if 0 < (t161.length : Int) then (if ((rdOf ByteArray.empty t161 0).size : Int) = (((rdOf ByteArray.empty t157 0).size - yj1.size) : Int) then (some ((⟨#[]⟩ : ByteArray), (⟨#[]⟩ : ByteArray), false)) else (if 0 ≤ (wrap64 (((rdOf ByteArray.empty t161 0).size : Int) + 1)) then (if (wrap64 (((rdOf ByteArray.empty t161 0).size : Int) + 1)) ≤ (((rdOf ByteArray.empty t157 0).size - yj1.size) : Int) then ((spec_l12Record.f kj6 (rdOf ByteArray.empty t161 0) (((rdOf ByteArray.empty t157 0).extract yj1.size (rdOf ByteArray.empty t157 0).size).extract ((wrap64 (((rdOf ByteArray.empty t161 0).size : Int) + 1)) : Int).toNat ((rdOf ByteArray.empty t157 0).size - yj1.size))).bind fun t166 => (if t166 = true then ((spec_l12Line.f kj6 a1 (rdOf ByteArray.empty t161 0) (((rdOf ByteArray.empty t157 0).extract yj1.size (rdOf ByteArray.empty t157 0).size).extract ((wrap64 (((rdOf ByteArray.empty t161 0).size : Int) + 1)) : Int).toNat ((rdOf ByteArray.empty t157 0).size - yj1.size))).bind fun t167 => (if a0.size + 1 ≤ 9223372036854775807 then (some (rdOf ByteArray.empty t161 0, ((rdOf ByteArray.empty t157 0).extract yj1.size (rdOf ByteArray.empty t157 0).size).extract ((wrap64 (((rdOf ByteArray.empty t161 0).size : Int) + 1)) : Int).toNat ((rdOf ByteArray.empty t157 0).size - yj1.size), (t167.toList == (a0 ++ (⟨#[10]⟩ : ByteArray)).toList))) else (none))) else (some (rdOf ByteArray.empty t161 0, ((rdOf ByteArray.empty t157 0).extract yj1.size (rdOf ByteArray.empty t157 0).size).extract ((wrap64 (((rdOf ByteArray.empty t161 0).size : Int) + 1)) : Int).toNat ((rdOf ByteArray.empty t157 0).size - yj1.size), false)))) else (none)) else (none))) else (none))) else (none)) else (none)) = some (r1, r2, r3) := by rw [if_neg (show ¬ (false = true) by decide)] at H; exact H
            clear H
            have H := H1
            clear H1
            by_cases c18 : 0 ≤ (yj1.size : Int)
            · rw [if_pos c18] at H
              have c18b0 := eq_true c18
              have c18b1 : decide (0 ≤ (yj1.size : Int)) = true := decide_eq_true c18
              by_cases c19 : (yj1.size : Int) ≤ ((rdOf ByteArray.empty t157 0).size : Int)
              · rw [if_pos c19] at H
                have c19b0 := eq_true c19
                have c19b1 : decide ((yj1.size : Int) ≤ ((rdOf ByteArray.empty t157 0).size : Int)) = true := decide_eq_true c19
                replace H := Option.bind_eq_some_iff.mp H
                obtain ⟨t161, A200, H⟩ := H
                replace H : (if 0 < (t161.length : Int) then (if ((rdOf ByteArray.empty t161 0).size : Int) = (((rdOf ByteArray.empty t157 0).size - yj1.size) : Int) then (some ((⟨#[]⟩ : ByteArray), (⟨#[]⟩ : ByteArray), false)) else (if 0 ≤ (wrap64 (((rdOf ByteArray.empty t161 0).size : Int) + 1)) then (if (wrap64 (((rdOf ByteArray.empty t161 0).size : Int) + 1)) ≤ (((rdOf ByteArray.empty t157 0).size - yj1.size) : Int) then ((spec_l12Record.f kj6 (rdOf ByteArray.empty t161 0) (((rdOf ByteArray.empty t157 0).extract yj1.size (rdOf ByteArray.empty t157 0).size).extract ((wrap64 (((rdOf ByteArray.empty t161 0).size : Int) + 1)) : Int).toNat ((rdOf ByteArray.empty t157 0).size - yj1.size))).bind fun t166 => (if t166 = true then ((spec_l12Line.f kj6 a1 (rdOf ByteArray.empty t161 0) (((rdOf ByteArray.empty t157 0).extract yj1.size (rdOf ByteArray.empty t157 0).size).extract ((wrap64 (((rdOf ByteArray.empty t161 0).size : Int) + 1)) : Int).toNat ((rdOf ByteArray.empty t157 0).size - yj1.size))).bind fun t167 => (if a0.size + 1 ≤ 9223372036854775807 then (some (rdOf ByteArray.empty t161 0, ((rdOf ByteArray.empty t157 0).extract yj1.size (rdOf ByteArray.empty t157 0).size).extract ((wrap64 (((rdOf ByteArray.empty t161 0).size : Int) + 1)) : Int).toNat ((rdOf ByteArray.empty t157 0).size - yj1.size), (t167.toList == (a0 ++ (⟨#[10]⟩ : ByteArray)).toList))) else (none))) else (some (rdOf ByteArray.empty t161 0, ((rdOf ByteArray.empty t157 0).extract yj1.size (rdOf ByteArray.empty t157 0).size).extract ((wrap64 (((rdOf ByteArray.empty t161 0).size : Int) + 1)) : Int).toNat ((rdOf ByteArray.empty t157 0).size - yj1.size), false)))) else (none)) else (none))) else (none)) = some (r1, r2, r3) := H
                have A20 := Aside0.mk A200
                clear A200
                by_cases c21 : 0 < (t161.length : Int)
                · rw [if_pos c21] at H
                  have c21b0 : decide (0 < (t161.length : Int)) = true := decide_eq_true c21
                  have c21b1 : decide (0 < t161.length) = true := decide_eq_true (by omega)
                  clear c21
                  by_cases c22 : ((rdOf ByteArray.empty t161 0).size : Int) = (((rdOf ByteArray.empty t157 0).size - yj1.size) : Int)
                  · rw [if_pos c22] at H
                    have c22b0 : (((rdOf ByteArray.empty t161 0).size : Int) == (((rdOf ByteArray.empty t157 0).size - yj1.size) : Int)) = true := beq_iff_eq.mpr c22
                    try (have c22b0z := c22b0; simp only [ByteArray.size_extract, Nat.min_self, Int.toNat_natCast, Nat.sub_zero] at c22b0z)
                    have c22b1 : (((rdOf ByteArray.empty t161 0).size : Int) != (((rdOf ByteArray.empty t157 0).size - yj1.size) : Int)) = false := bne_eq_false_iff_eq.mpr c22
                    try (have c22b1z := c22b1; simp only [ByteArray.size_extract, Nat.min_self, Int.toNat_natCast, Nat.sub_zero] at c22b1z)
                    have c22b2 : ((rdOf ByteArray.empty t161 0).size == ((rdOf ByteArray.empty t157 0).size - yj1.size)) = true := by first | simpa using c22 | (simp at c22 ⊢; omega)
                    try (have c22b2z := c22b2; simp only [ByteArray.size_extract, Nat.min_self, Int.toNat_natCast, Nat.sub_zero] at c22b2z)
                    clear c22
                    simp only [Option.some.injEq, Prod.mk.injEq] at H
                    obtain ⟨rfl, rfl, rfl⟩ := H
                    go_wp2_with (first | ((with_reducible refine gate_callee (f := 106) rfl ?_); refine goesL_ (some 37) rfl rfl Tryd.func106 z12_10 rfl #[.string ((rdOf ByteArray.empty t157 0).extract yj1.size (rdOf ByteArray.empty t157 0).size), .int .u8 64] rfl z12_3 ?_; (with_reducible refine (spec_l1Split.calls kj6 ((rdOf ByteArray.empty t157 0).extract yj1.size (rdOf ByteArray.empty t157 0).size) 64 t161 _ A20.out).mono ?_); rintro e w23 ⟨v162, rfl, ho0, hb⟩; refine ⟨_, rfl, ?_⟩; have n0_ := Aside0.mk (Kd.R_lower ho0 (below_size z12_0)); have n1_ := Aside0.mk (blk_below (g := gb155) (o := .cells #[.string (⟨#[]⟩ : ByteArray), .string (⟨#[]⟩ : ByteArray)] 38 (0, 0)) z12_1 hb); have n2_ := Aside0.mk (below_step z12_0 hb); clear BK155; clear HB; have HO163 := n0_; have BK155 := n1_; have HB := n2_; clear n0_ n1_ n2_; (try clear hb); (try clear hb2); (try clear hk); (try clear hi); (try clear ho0); obtain ⟨Ao24, co24, eo24⟩ := Kd.R_slice HO163.out; subst eo24; have p164 : 0 ≤ (0 : Int) := (by omega); have q164 : 0 < (t161.length : Int) := of_decide_eq_true (by first | (with_reducible assumption) | assumption); obtain ⟨ad164, e164, hx164_0⟩ := Kd.at_string (Kd.R_reads' HO163.out).2.2 0 p164 q164; cases e164; have qi164 : (0 < t161.length) = True := eq_true (by omega); (try rw [show ((0 : Int)).toNat = 0 from rfl] at hx164_0); (try rw [Addr.add_zero'] at hx164_0); replace p164 := eq_true p164; replace q164 := eq_true q164; have hcz25_0 : w23.cell? ⟨gb155, 0, none⟩ = some (.string (⟨#[]⟩ : ByteArray)) := (blk_cell BK155.out 0).trans rfl; have hcz25_1 : w23.cell? ⟨gb155, 1, none⟩ = some (.string (⟨#[]⟩ : ByteArray)) := (blk_cell BK155.out 1).trans rfl; have hfz25_0 := blk_frozen BK155.out 0; have hfz25_1 := blk_frozen BK155.out 1))
                    refine bodyPost_ret (results_ct rfl _ _ gb155 38 #[.string (⟨#[]⟩ : ByteArray), .string (⟨#[]⟩ : ByteArray)] (0, 0) _ rfl z12_6 Tryd.underlying38 rfl z12_10) rfl ?_
                    exact ⟨by first | rfl | (simp [errW_none, errW_some] <;> rfl) | (simp [*, errW_none, errW_some] <;> rfl), z12_0⟩
                  · rw [if_neg c22] at H
                    have c22b0 : (((rdOf ByteArray.empty t161 0).size : Int) == (((rdOf ByteArray.empty t157 0).size - yj1.size) : Int)) = false := beq_eq_false_iff_ne.mpr c22
                    try (have c22b0z := c22b0; simp only [ByteArray.size_extract, Nat.min_self, Int.toNat_natCast, Nat.sub_zero] at c22b0z)
                    have c22b1 : (((rdOf ByteArray.empty t161 0).size : Int) != (((rdOf ByteArray.empty t157 0).size - yj1.size) : Int)) = true := bne_iff_ne.mpr c22
                    try (have c22b1z := c22b1; simp only [ByteArray.size_extract, Nat.min_self, Int.toNat_natCast, Nat.sub_zero] at c22b1z)
                    have c22b2 : ((rdOf ByteArray.empty t161 0).size == ((rdOf ByteArray.empty t157 0).size - yj1.size)) = false := by first | simpa using c22 | (simp at c22 ⊢; omega)
                    try (have c22b2z := c22b2; simp only [ByteArray.size_extract, Nat.min_self, Int.toNat_natCast, Nat.sub_zero] at c22b2z)
                    obtain ⟨ji26, hji26⟩ : ∃ j_ : Int, (wrap64 (((rdOf ByteArray.empty t161 0).size : Int) + 1)) = j_ := ⟨_, rfl⟩
                    replace H : (if 0 ≤ (ji26) then (if (ji26) ≤ (((rdOf ByteArray.empty t157 0).size - yj1.size) : Int) then ((spec_l12Record.f kj6 (rdOf ByteArray.empty t161 0) (((rdOf ByteArray.empty t157 0).extract yj1.size (rdOf ByteArray.empty t157 0).size).extract ((ji26) : Int).toNat ((rdOf ByteArray.empty t157 0).size - yj1.size))).bind fun t166 => (if t166 = true then ((spec_l12Line.f kj6 a1 (rdOf ByteArray.empty t161 0) (((rdOf ByteArray.empty t157 0).extract yj1.size (rdOf ByteArray.empty t157 0).size).extract ((ji26) : Int).toNat ((rdOf ByteArray.empty t157 0).size - yj1.size))).bind fun t167 => (if a0.size + 1 ≤ 9223372036854775807 then (some (rdOf ByteArray.empty t161 0, ((rdOf ByteArray.empty t157 0).extract yj1.size (rdOf ByteArray.empty t157 0).size).extract ((ji26) : Int).toNat ((rdOf ByteArray.empty t157 0).size - yj1.size), (t167.toList == (a0 ++ (⟨#[10]⟩ : ByteArray)).toList))) else (none))) else (some (rdOf ByteArray.empty t161 0, ((rdOf ByteArray.empty t157 0).extract yj1.size (rdOf ByteArray.empty t157 0).size).extract ((ji26) : Int).toNat ((rdOf ByteArray.empty t157 0).size - yj1.size), false)))) else (none)) else (none)) = some (r1, r2, r3) := by first | (rw [hji26] at H; exact H) | (simp only [hji26] at H ⊢; exact H)
                    (try rw [hji26] at A20)
                    have hji26w : (IntKind.i64.wrap (((rdOf ByteArray.empty t161 0).size : Int) + 1)) = ji26 := (i64_w _).trans hji26
                    by_cases c27 : 0 ≤ (ji26)
                    · rw [if_pos c27] at H
                      have c27b0 := eq_true c27
                      have c27b1 : decide (0 ≤ (ji26)) = true := decide_eq_true c27
                      clear c27
                      by_cases c28 : (ji26) ≤ (((rdOf ByteArray.empty t157 0).size - yj1.size) : Int)
                      · rw [if_pos c28] at H
                        have c28b0 := eq_true c28
                        try (have c28b0z := c28b0; simp only [ByteArray.size_extract, Nat.min_self, Int.toNat_natCast, Nat.sub_zero] at c28b0z)
                        have c28b1 : decide ((ji26) ≤ (((rdOf ByteArray.empty t157 0).size - yj1.size) : Int)) = true := decide_eq_true c28
                        try (have c28b1z := c28b1; simp only [ByteArray.size_extract, Nat.min_self, Int.toNat_natCast, Nat.sub_zero] at c28b1z)
                        replace H := Option.bind_eq_some_iff.mp H
                        obtain ⟨t166, A290, H⟩ := H
                        replace H : (if t166 = true then ((spec_l12Line.f kj6 a1 (rdOf ByteArray.empty t161 0) (((rdOf ByteArray.empty t157 0).extract yj1.size (rdOf ByteArray.empty t157 0).size).extract ((ji26) : Int).toNat ((rdOf ByteArray.empty t157 0).size - yj1.size))).bind fun t167 => (if a0.size + 1 ≤ 9223372036854775807 then (some (rdOf ByteArray.empty t161 0, ((rdOf ByteArray.empty t157 0).extract yj1.size (rdOf ByteArray.empty t157 0).size).extract ((ji26) : Int).toNat ((rdOf ByteArray.empty t157 0).size - yj1.size), (t167.toList == (a0 ++ (⟨#[10]⟩ : ByteArray)).toList))) else (none))) else (some (rdOf ByteArray.empty t161 0, ((rdOf ByteArray.empty t157 0).extract yj1.size (rdOf ByteArray.empty t157 0).size).extract ((ji26) : Int).toNat ((rdOf ByteArray.empty t157 0).size - yj1.size), false))) = some (r1, r2, r3) := H
                        have A29 := Aside0.mk A290
                        clear A290
                        by_cases c30 : t166 = true
                        · subst c30
                          have H1 : ((spec_l12Line.f kj6 a1 (rdOf ByteArray.empty t161 0) (((rdOf ByteArray.empty t157 0).extract yj1.size (rdOf ByteArray.empty t157 0).size).extract ((ji26) : Int).toNat ((rdOf ByteArray.empty t157 0).size - yj1.size))).bind fun t167 => (if a0.size + 1 ≤ 9223372036854775807 then (some (rdOf ByteArray.empty t161 0, ((rdOf ByteArray.empty t157 0).extract yj1.size (rdOf ByteArray.empty t157 0).size).extract ((ji26) : Int).toNat ((rdOf ByteArray.empty t157 0).size - yj1.size), (t167.toList == (a0 ++ (⟨#[10]⟩ : ByteArray)).toList))) else (none))) = some (r1, r2, r3) := by rw [if_pos rfl] at H; exact H
                          clear H
                          have H := H1
                          clear H1
                          replace H := Option.bind_eq_some_iff.mp H
                          obtain ⟨t167, A310, H⟩ := H
                          replace H : (if a0.size + 1 ≤ 9223372036854775807 then (some (rdOf ByteArray.empty t161 0, ((rdOf ByteArray.empty t157 0).extract yj1.size (rdOf ByteArray.empty t157 0).size).extract ((ji26) : Int).toNat ((rdOf ByteArray.empty t157 0).size - yj1.size), (t167.toList == (a0 ++ (⟨#[10]⟩ : ByteArray)).toList))) else (none)) = some (r1, r2, r3) := H
                          have A31 := Aside0.mk A310
                          clear A310
                          by_cases c32 : a0.size + 1 ≤ 9223372036854775807
                          · rw [if_pos c32] at H
                            have c32b0 := eq_true c32
                            have c32b1 : decide (a0.size + 1 ≤ 9223372036854775807) = true := decide_eq_true c32
                            try have c32b2 : (9223372036854775807 < a0.size + 1) = False := eq_false (Nat.not_lt.2 c32)
                            simp only [Option.some.injEq, Prod.mk.injEq] at H
                            obtain ⟨rfl, rfl, rfl⟩ := H
                            try go_wp2_with (first | ((with_reducible refine gate_callee (f := 106) rfl ?_); refine goesL_ (some 37) rfl rfl Tryd.func106 z12_10 rfl #[.string ((rdOf ByteArray.empty t157 0).extract yj1.size (rdOf ByteArray.empty t157 0).size), .int .u8 64] rfl z12_3 ?_; (with_reducible refine (spec_l1Split.calls kj6 ((rdOf ByteArray.empty t157 0).extract yj1.size (rdOf ByteArray.empty t157 0).size) 64 t161 _ A20.out).mono ?_); rintro e w33 ⟨v162, rfl, ho0, hb⟩; refine ⟨_, rfl, ?_⟩; have n0_ := Aside0.mk (Kd.R_lower ho0 (below_size z12_0)); have n1_ := Aside0.mk (blk_below (g := gb155) (o := .cells #[.string (⟨#[]⟩ : ByteArray), .string (⟨#[]⟩ : ByteArray)] 38 (0, 0)) z12_1 hb); have n2_ := Aside0.mk (below_step z12_0 hb); clear BK155; clear HB; have HO163 := n0_; have BK155 := n1_; have HB := n2_; clear n0_ n1_ n2_; (try clear hb); (try clear hb2); (try clear hk); (try clear hi); (try clear ho0); obtain ⟨Ao34, co34, eo34⟩ := Kd.R_slice HO163.out; subst eo34; have p164 : 0 ≤ (0 : Int) := (by omega); have q164 : 0 < (t161.length : Int) := of_decide_eq_true (by first | (with_reducible assumption) | assumption); obtain ⟨ad164, e164, hx164_0⟩ := Kd.at_string (Kd.R_reads' HO163.out).2.2 0 p164 q164; cases e164; have qi164 : (0 < t161.length) = True := eq_true (by omega); (try rw [show ((0 : Int)).toNat = 0 from rfl] at hx164_0); (try rw [Addr.add_zero'] at hx164_0); replace p164 := eq_true p164; replace q164 := eq_true q164) | ((with_reducible refine gate_dst (N := 10) rfl ?_); (try (refine gate_guard (by rfl) ?_; dsimp only)); refine box_event ?hg (N := 10) ?hd (cs := #[.string (⟨#[]⟩ : ByteArray), .string (⟨#[]⟩ : ByteArray)]) (t := 38) ?hr ?_; (case hd => rfl); (case hg => rfl); (case hr => first | (go_simp; done) | (go_simp; rfl)); intro gb165 hg w35 hbox hb; have n0_ := Aside0.mk (Kd.R_below z12_8 hb); have n1_ := Aside0.mk (blk_below (g := gb155) (o := .cells #[.string (⟨#[]⟩ : ByteArray), .string (⟨#[]⟩ : ByteArray)] 38 (0, 0)) z12_1 hb); have n2_ := Aside0.mk (below_step z12_0 hb); have n3_ := Aside0.mk (hbox); have n4_ := Aside0.mk ((by rw [hg]; exact (below_size z12_0) : w.heap.size ≤ gb165)); have n5_ := Aside0.mk ((by rw [hg]; exact (below_size z12_0) : w.heap.size ≤ gb165)); have n6_ := Aside0.mk ((by rw [hg]; exact Nat.ne_of_lt (blk_lt (g := gb155) (o := .cells #[.string (⟨#[]⟩ : ByteArray), .string (⟨#[]⟩ : ByteArray)] 38 (0, 0)) z12_1) : gb155 ≠ gb165)); have n7_ := Aside0.mk ((by rw [hg]; exact Nat.ne_of_gt (blk_lt (g := gb155) (o := .cells #[.string (⟨#[]⟩ : ByteArray), .string (⟨#[]⟩ : ByteArray)] 38 (0, 0)) z12_1) : gb165 ≠ gb155)); clear HO163; clear BK155; clear HB; have HO163 := n0_; have BK155 := n1_; have HB := n2_; have BK165 := n3_; have GW165 := n4_; have GE165 := n5_; have NB155_165 := n6_; have NB165_155 := n7_; clear n0_ n1_ n2_ n3_ n4_ n5_ n6_ n7_; clear hb hbox hg; have hnb36 := NB165_155.out; have hnc36 := NB155_165.out; have hcz37_0 : w35.cell? ⟨gb165, 0, none⟩ = some (.string (⟨#[]⟩ : ByteArray)) := (blk_cell BK165.out 0).trans rfl; have hcz37_1 : w35.cell? ⟨gb165, 1, none⟩ = some (.string (⟨#[]⟩ : ByteArray)) := (blk_cell BK165.out 1).trans rfl; have hfz37_0 := blk_frozen BK165.out 0; have hfz37_1 := blk_frozen BK165.out 1))
                            have n0_ : Aside0 (Kd.R Kd.string 9 ((w35.setCell ⟨gb165, 0, none⟩ (.string (rdOf ByteArray.empty t161 0))).setCell ⟨gb165, 1, none⟩ (.string (((rdOf ByteArray.empty t157 0).extract yj1.size (rdOf ByteArray.empty t157 0).size).extract ((ji26) : Int).toNat ((rdOf ByteArray.empty t157 0).size - yj1.size)))) w.heap.size (fun _ => True) (.slice (some ad164) t161.length co34) t161) := ⟨z12_7⟩
                            have n1_ : Aside0 (((w35.setCell ⟨gb165, 0, none⟩ (.string (rdOf ByteArray.empty t161 0))).setCell ⟨gb165, 1, none⟩ (.string (((rdOf ByteArray.empty t157 0).extract yj1.size (rdOf ByteArray.empty t157 0).size).extract ((ji26) : Int).toNat ((rdOf ByteArray.empty t157 0).size - yj1.size)))).heap[gb155]? = some (.cells #[.string (⟨#[]⟩ : ByteArray), .string (⟨#[]⟩ : ByteArray)] 38 (0, 0))) := ⟨z12_9⟩
                            have n2_ : Aside0 (((w35.setCell ⟨gb165, 0, none⟩ (.string (rdOf ByteArray.empty t161 0))).setCell ⟨gb165, 1, none⟩ (.string (((rdOf ByteArray.empty t157 0).extract yj1.size (rdOf ByteArray.empty t157 0).size).extract ((ji26) : Int).toNat ((rdOf ByteArray.empty t157 0).size - yj1.size)))).heap[gb165]? = some (.cells #[.string (rdOf ByteArray.empty t161 0), .string (((rdOf ByteArray.empty t157 0).extract yj1.size (rdOf ByteArray.empty t157 0).size).extract ((ji26) : Int).toNat ((rdOf ByteArray.empty t157 0).size - yj1.size))] 38 (0, 0))) := ⟨z12_4⟩
                            have n3_ : Aside0 (Below w.heap.size w ((w35.setCell ⟨gb165, 0, none⟩ (.string (rdOf ByteArray.empty t161 0))).setCell ⟨gb165, 1, none⟩ (.string (((rdOf ByteArray.empty t157 0).extract yj1.size (rdOf ByteArray.empty t157 0).size).extract ((ji26) : Int).toNat ((rdOf ByteArray.empty t157 0).size - yj1.size))))) := ⟨z12_2⟩
                            (try clear HO163)
                            (try clear BK155)
                            (try clear BK165)
                            (try clear HB)
                            generalize ((w35.setCell ⟨gb165, 0, none⟩ (.string (rdOf ByteArray.empty t161 0))).setCell ⟨gb165, 1, none⟩ (.string (((rdOf ByteArray.empty t157 0).extract yj1.size (rdOf ByteArray.empty t157 0).size).extract ((ji26) : Int).toNat ((rdOf ByteArray.empty t157 0).size - yj1.size)))) = w38 at n0_ n1_ n2_ n3_ ⊢
                            have HO163 := n0_
                            have BK155 := n1_
                            have BK165 := n2_
                            have HB := n3_
                            clear n0_ n1_ n2_ n3_
                            have n0_ := Aside0.mk (Kd.R_drew HO163.out)
                            have n1_ := Aside0.mk (blk_drew BK155.out)
                            have n2_ := Aside0.mk (blk_drew BK165.out)
                            have n3_ := Aside0.mk (below_drew1 HB.out)
                            clear HO163
                            clear BK155
                            clear BK165
                            clear HB
                            have HO163 := n0_
                            have BK155 := n1_
                            have BK165 := n2_
                            have HB := n3_
                            clear n0_ n1_ n2_ n3_
                            refine start_ (n := 13) (S := fun w' => w'.cell? ⟨gb165, 0, none⟩ = some (.string (rdOf ByteArray.empty t161 0)) ∧ w'.cell? ⟨gb165, 1, none⟩ = some (.string (((rdOf ByteArray.empty t157 0).extract yj1.size (rdOf ByteArray.empty t157 0).size).extract ((ji26) : Int).toNat ((rdOf ByteArray.empty t157 0).size - yj1.size)))) (ds := []) #[false, false, false, false, false, false, false, false, false, false, false, false, false] z12_10 rfl rfl ⟨(blk_cell BK165.out 0).trans rfl, (blk_cell BK165.out 1).trans rfl⟩ (fun hHeld => ?_); refine with_tabW spec_l12Decode.tab10 spec_l12Decode.bits10 (fun HT_ HW_ => ?_)
                            generalize w38.drew = w39 at HO163 BK155 BK165 HB hHeld ⊢
                            refine take_ (i := 0) (N := some 53) (v := ?_) (a' := ?_) #[true, false, false, false, false, false, false, false, false, false, false, false, false] rfl rfl (take_ofW HT_.out HW_.out z12_10) (fun _ _ _ h => h) (Or.inl ⟨by rfl, ?_⟩) hHeld ?_ ?_
                            rotate_left
                            · rintro w' ⟨s0, s1⟩
                              go_simp
                              with_reducible rfl
                            rotate_left
                            · simp only [Act.put, List.setIfInBounds_toArray, List.set_cons_zero, List.set_cons_succ, i64_w, i32_w]
                              rfl
                            refine take_ (i := 1) (N := some 54) (v := ?_) (a' := ?_) #[true, true, false, false, false, false, false, false, false, false, false, false, false] rfl rfl (take_ofW HT_.out HW_.out z12_10) (fun _ _ _ h => h) (Or.inl ⟨by rfl, ?_⟩) hHeld ?_ ?_
                            rotate_left
                            · rintro w' ⟨s0, s1⟩
                              go_simp
                              with_reducible rfl
                            rotate_left
                            · simp only [Act.put, List.setIfInBounds_toArray, List.set_cons_zero, List.set_cons_succ, i64_w, i32_w]
                              rfl
                            refine one_ (i := 2) (N := some 55) #[true, true, true, false, false, false, false, false, false, false, false, false, false] rfl rfl (one_of HT_.out z12_10) (by decide) (fun K hK => ?_)
                            refine goes_ Tryd.func75 z12_10 rfl #[.agg #[.string (rdOf ByteArray.empty t161 0), .string (((rdOf ByteArray.empty t157 0).extract yj1.size (rdOf ByteArray.empty t157 0).size).extract ((ji26) : Int).toNat ((rdOf ByteArray.empty t157 0).size - yj1.size))]] (by rfl) rfl rfl z12_11 ?_
                            with_reducible refine (spec_l12Record.calls kj6 (rdOf ByteArray.empty t161 0) (((rdOf ByteArray.empty t157 0).extract yj1.size (rdOf ByteArray.empty t157 0).size).extract ((ji26) : Int).toNat ((rdOf ByteArray.empty t157 0).size - yj1.size)) true _ A29.out).mono ?_
                            rintro e w40 ⟨rfl, hb⟩
                            refine ⟨_, rfl, ?_⟩
                            have n0_ := Aside0.mk (Kd.R_below z12_8 hb)
                            have n1_ := Aside0.mk (blk_below (g := gb155) (o := .cells #[.string (⟨#[]⟩ : ByteArray), .string (⟨#[]⟩ : ByteArray)] 38 (0, 0)) z12_1 hb)
                            have n2_ := Aside0.mk (blk_below (g := gb165) (o := .cells #[.string (rdOf ByteArray.empty t161 0), .string (((rdOf ByteArray.empty t157 0).extract yj1.size (rdOf ByteArray.empty t157 0).size).extract ((ji26) : Int).toNat ((rdOf ByteArray.empty t157 0).size - yj1.size))] 38 (0, 0)) z12_13 hb)
                            have n3_ := Aside0.mk (below_step z12_2 hb)
                            clear HO163
                            clear BK155
                            clear BK165
                            clear HB
                            have HO163 := n0_
                            have BK155 := n1_
                            have BK165 := n2_
                            have HB := n3_
                            clear n0_ n1_ n2_ n3_
                            (try clear hb)
                            (try clear hb2)
                            (try clear hk)
                            (try clear hi)
                            refine hK.out _ _ ⟨(blk_cell BK165.out 0).trans rfl, (blk_cell BK165.out 1).trans rfl⟩ (fun hHeld => ?_)
                            clear hK K
                            refine norm_ (a' := ?_) ?_ ?_
                            rotate_left
                            · show Act.put _ (some 55) _ = _
                              simp only [Act.put, List.setIfInBounds_toArray, List.set_cons_zero, List.set_cons_succ, i64_w, i32_w]
                              rfl
                            refine pure_ (i := 3) (N := some 56) (v := ?_) (a' := ?_) #[true, true, true, true, false, false, false, false, false, false, false, false, false] rfl rfl (any_of HT_.out z12_10) (fun _ _ _ h => h) (Or.inl ⟨by rfl, ?_⟩) ?_ ?_
                            rotate_left
                            · intro w'
                              go_simp
                              with_reducible rfl
                            rotate_left
                            · simp only [Act.put, List.setIfInBounds_toArray, List.set_cons_zero, List.set_cons_succ, i64_w, i32_w]
                              rfl
                            refine pure_ (i := 4) (N := some 57) (v := ?_) (a' := ?_) #[true, true, true, true, true, false, false, false, false, false, false, false, false] rfl rfl (any_of HT_.out z12_10) (fun _ _ _ h => h) (Or.inl ⟨by rfl, ?_⟩) ?_ ?_
                            rotate_left
                            · intro w'
                              go_simp
                              with_reducible rfl
                            rotate_left
                            · simp only [Act.put, List.setIfInBounds_toArray, List.set_cons_zero, List.set_cons_succ, i64_w, i32_w]
                              rfl
                            refine pure_ (i := 7) (N := some 60) (v := ?_) (a' := ?_) #[true, true, true, true, true, false, false, true, false, false, false, false, false] rfl rfl (any_of HT_.out z12_10) (fun _ _ _ h => h) (Or.inl ⟨by rfl, ?_⟩) ?_ ?_
                            rotate_left
                            · intro w'
                              go_simp
                              with_reducible rfl
                            rotate_left
                            · simp only [Act.put, List.setIfInBounds_toArray, List.set_cons_zero, List.set_cons_succ, i64_w, i32_w]
                              rfl
                            refine pure_ (i := 8) (N := some 61) (v := ?_) (a' := ?_) #[true, true, true, true, true, false, false, true, true, false, false, false, false] rfl rfl (any_of HT_.out z12_10) (fun _ _ _ h => h) (Or.inl ⟨by rfl, ?_⟩) ?_ ?_
                            rotate_left
                            · intro w'
                              go_simp
                              with_reducible rfl
                            rotate_left
                            · simp only [Act.put, List.setIfInBounds_toArray, List.set_cons_zero, List.set_cons_succ, i64_w, i32_w]
                              rfl
                            refine take_ (i := 5) (N := some 58) (v := ?_) (a' := ?_) #[true, true, true, true, true, true, false, true, true, false, false, false, false] rfl rfl (take_ofW HT_.out HW_.out z12_10) (fun _ _ _ h => h) (Or.inl ⟨by rfl, ?_⟩) hHeld ?_ ?_
                            rotate_left
                            · rintro w' ⟨s0, s1⟩
                              go_simp
                              with_reducible rfl
                            rotate_left
                            · simp only [Act.put, List.setIfInBounds_toArray, List.set_cons_zero, List.set_cons_succ, i64_w, i32_w]
                              rfl
                            refine one_ (i := 6) (N := some 59) #[true, true, true, true, true, true, true, true, true, false, false, false, false] rfl rfl (one_of HT_.out z12_10) (by decide) (fun K hK => ?_)
                            refine goes_ Tryd.func76 z12_10 rfl #[.int .i64 a1, .agg #[.string (rdOf ByteArray.empty t161 0), .string (((rdOf ByteArray.empty t157 0).extract yj1.size (rdOf ByteArray.empty t157 0).size).extract ((ji26) : Int).toNat ((rdOf ByteArray.empty t157 0).size - yj1.size))]] (by rfl) rfl rfl z12_11 ?_
                            with_reducible refine (spec_l12Line.calls kj6 a1 (rdOf ByteArray.empty t161 0) (((rdOf ByteArray.empty t157 0).extract yj1.size (rdOf ByteArray.empty t157 0).size).extract ((ji26) : Int).toNat ((rdOf ByteArray.empty t157 0).size - yj1.size)) t167 _ A31.out).mono ?_
                            rintro e w41 ⟨rfl, hb⟩
                            refine ⟨_, rfl, ?_⟩
                            have n0_ := Aside0.mk (Kd.R_below z12_8 hb)
                            have n1_ := Aside0.mk (blk_below (g := gb155) (o := .cells #[.string (⟨#[]⟩ : ByteArray), .string (⟨#[]⟩ : ByteArray)] 38 (0, 0)) z12_1 hb)
                            have n2_ := Aside0.mk (blk_below (g := gb165) (o := .cells #[.string (rdOf ByteArray.empty t161 0), .string (((rdOf ByteArray.empty t157 0).extract yj1.size (rdOf ByteArray.empty t157 0).size).extract ((ji26) : Int).toNat ((rdOf ByteArray.empty t157 0).size - yj1.size))] 38 (0, 0)) z12_13 hb)
                            have n3_ := Aside0.mk (below_step z12_2 hb)
                            clear HO163
                            clear BK155
                            clear BK165
                            clear HB
                            have HO163 := n0_
                            have BK155 := n1_
                            have BK165 := n2_
                            have HB := n3_
                            clear n0_ n1_ n2_ n3_
                            (try clear hb)
                            (try clear hb2)
                            (try clear hk)
                            (try clear hi)
                            refine hK.out _ _ ⟨(blk_cell BK165.out 0).trans rfl, (blk_cell BK165.out 1).trans rfl⟩ (fun hHeld => ?_)
                            clear hK K
                            refine norm_ (a' := ?_) ?_ ?_
                            rotate_left
                            · show Act.put _ (some 59) _ = _
                              simp only [Act.put, List.setIfInBounds_toArray, List.set_cons_zero, List.set_cons_succ, i64_w, i32_w]
                              rfl
                            refine pure_ (i := 9) (N := some 62) (v := ?_) (a' := ?_) #[true, true, true, true, true, true, true, true, true, true, false, false, false] rfl rfl (any_of HT_.out z12_10) (fun _ _ _ h => h) (Or.inl ⟨by rfl, ?_⟩) ?_ ?_
                            rotate_left
                            · intro w'
                              go_simp
                              with_reducible rfl
                            rotate_left
                            · simp only [Act.put, List.setIfInBounds_toArray, List.set_cons_zero, List.set_cons_succ, i64_w, i32_w]
                              rfl
                            refine pure_ (i := 10) (N := some 63) (v := ?_) (a' := ?_) #[true, true, true, true, true, true, true, true, true, true, true, false, false] rfl rfl (any_of HT_.out z12_10) (fun _ _ _ h => h) (Or.inl ⟨by rfl, ?_⟩) ?_ ?_
                            rotate_left
                            · intro w'
                              go_simp
                              with_reducible rfl
                            rotate_left
                            · simp only [Act.put, List.setIfInBounds_toArray, List.set_cons_zero, List.set_cons_succ, i64_w, i32_w]
                              rfl
                            refine one_ (i := 11) (N := none) #[true, true, true, true, true, true, true, true, true, true, true, true, false] rfl rfl (one_of HT_.out z12_10) (by decide) (fun K hK => ?_)
                            have hs42 : w41.cell? ⟨gb155, 0, none⟩ = some (.string (⟨#[]⟩ : ByteArray)) := (blk_cell BK155.out 0).trans rfl
                            have hfs42 := blk_frozen BK155.out 0
                            have hns42_1 := NB165_155.out
                            have hms42_1 := NB155_165.out
                            have hs43 : w41.cell? ⟨gb155, 1, none⟩ = some (.string (⟨#[]⟩ : ByteArray)) := (blk_cell BK155.out 1).trans rfl
                            have hfs43 := blk_frozen BK155.out 1
                            have hns43_1 := NB165_155.out
                            have hms43_1 := NB155_165.out
                            refine skip_ (w1 := ?_) (by rfl) rfl ?_ ?_
                            rotate_left
                            · go_simp
                              rfl
                            refine hK.out _ _ ⟨((cell_far (p := ⟨gb155, _, none⟩) NB165_155.out _).trans (((cell_far (p := ⟨gb155, _, none⟩) NB165_155.out _).trans (hHeld.1)))), ((cell_far (p := ⟨gb155, _, none⟩) NB165_155.out _).trans (((cell_far (p := ⟨gb155, _, none⟩) NB165_155.out _).trans (hHeld.2))))⟩ (fun hHeld => ?_)
                            clear hK K
                            refine pure_ (i := 12) (N := some 5) (v := ?_) (a' := ?_) #[true, true, true, true, true, true, true, true, true, true, true, true, true] rfl rfl (any_of HT_.out z12_10) (fun _ _ _ h => h) (Or.inl ⟨by rfl, ?_⟩) ?_ ?_
                            rotate_left
                            · intro w'
                              go_simp
                              with_reducible rfl
                            rotate_left
                            · simp only [Act.put, List.setIfInBounds_toArray, List.set_cons_zero, List.set_cons_succ, i64_w, i32_w]
                              rfl
                            refine done_ (done_of HT_.out z12_10) ?_
                            try go_wp2
                            refine bodyPost_ret (results_ct rfl _ _ gb155 38 #[.string (rdOf ByteArray.empty t161 0), .string (((rdOf ByteArray.empty t157 0).extract yj1.size (rdOf ByteArray.empty t157 0).size).extract ((ji26) : Int).toNat ((rdOf ByteArray.empty t157 0).size - yj1.size))] (0, 0) _ rfl z12_5 Tryd.underlying38 rfl z12_10) rfl ?_
                            exact ⟨by first | rfl | (simp [errW_none, errW_some] <;> rfl) | (simp only [← hji26]; first | rfl | (simp [errW_none, errW_some] <;> rfl)) | (simp [*, errW_none, errW_some] <;> rfl), z12_2⟩
                          · rw [if_neg c32] at H
                            exact absurd H (by simp)
                        · replace c30 := Bool.eq_false_iff.mpr c30
                          subst c30
                          have H1 : (some (rdOf ByteArray.empty t161 0, ((rdOf ByteArray.empty t157 0).extract yj1.size (rdOf ByteArray.empty t157 0).size).extract ((ji26) : Int).toNat ((rdOf ByteArray.empty t157 0).size - yj1.size), false)) = some (r1, r2, r3) := by rw [if_neg (show ¬ (false = true) by decide)] at H; exact H
                          clear H
                          have H := H1
                          clear H1
                          simp only [Option.some.injEq, Prod.mk.injEq] at H
                          obtain ⟨rfl, rfl, rfl⟩ := H
                          try go_wp2_with (first | ((with_reducible refine gate_callee (f := 106) rfl ?_); refine goesL_ (some 37) rfl rfl Tryd.func106 z12_10 rfl #[.string ((rdOf ByteArray.empty t157 0).extract yj1.size (rdOf ByteArray.empty t157 0).size), .int .u8 64] rfl z12_3 ?_; (with_reducible refine (spec_l1Split.calls kj6 ((rdOf ByteArray.empty t157 0).extract yj1.size (rdOf ByteArray.empty t157 0).size) 64 t161 _ A20.out).mono ?_); rintro e w44 ⟨v162, rfl, ho0, hb⟩; refine ⟨_, rfl, ?_⟩; have n0_ := Aside0.mk (Kd.R_lower ho0 (below_size z12_0)); have n1_ := Aside0.mk (blk_below (g := gb155) (o := .cells #[.string (⟨#[]⟩ : ByteArray), .string (⟨#[]⟩ : ByteArray)] 38 (0, 0)) z12_1 hb); have n2_ := Aside0.mk (below_step z12_0 hb); clear BK155; clear HB; have HO163 := n0_; have BK155 := n1_; have HB := n2_; clear n0_ n1_ n2_; (try clear hb); (try clear hb2); (try clear hk); (try clear hi); (try clear ho0); obtain ⟨Ao45, co45, eo45⟩ := Kd.R_slice HO163.out; subst eo45; have p164 : 0 ≤ (0 : Int) := (by omega); have q164 : 0 < (t161.length : Int) := of_decide_eq_true (by first | (with_reducible assumption) | assumption); obtain ⟨ad164, e164, hx164_0⟩ := Kd.at_string (Kd.R_reads' HO163.out).2.2 0 p164 q164; cases e164; have qi164 : (0 < t161.length) = True := eq_true (by omega); (try rw [show ((0 : Int)).toNat = 0 from rfl] at hx164_0); (try rw [Addr.add_zero'] at hx164_0); replace p164 := eq_true p164; replace q164 := eq_true q164) | ((with_reducible refine gate_dst (N := 10) rfl ?_); (try (refine gate_guard (by rfl) ?_; dsimp only)); refine box_event ?hg (N := 10) ?hd (cs := #[.string (⟨#[]⟩ : ByteArray), .string (⟨#[]⟩ : ByteArray)]) (t := 38) ?hr ?_; (case hd => rfl); (case hg => rfl); (case hr => first | (go_simp; done) | (go_simp; rfl)); intro gb165 hg w46 hbox hb; have n0_ := Aside0.mk (Kd.R_below z12_8 hb); have n1_ := Aside0.mk (blk_below (g := gb155) (o := .cells #[.string (⟨#[]⟩ : ByteArray), .string (⟨#[]⟩ : ByteArray)] 38 (0, 0)) z12_1 hb); have n2_ := Aside0.mk (below_step z12_0 hb); have n3_ := Aside0.mk (hbox); have n4_ := Aside0.mk ((by rw [hg]; exact (below_size z12_0) : w.heap.size ≤ gb165)); have n5_ := Aside0.mk ((by rw [hg]; exact (below_size z12_0) : w.heap.size ≤ gb165)); have n6_ := Aside0.mk ((by rw [hg]; exact Nat.ne_of_lt (blk_lt (g := gb155) (o := .cells #[.string (⟨#[]⟩ : ByteArray), .string (⟨#[]⟩ : ByteArray)] 38 (0, 0)) z12_1) : gb155 ≠ gb165)); have n7_ := Aside0.mk ((by rw [hg]; exact Nat.ne_of_gt (blk_lt (g := gb155) (o := .cells #[.string (⟨#[]⟩ : ByteArray), .string (⟨#[]⟩ : ByteArray)] 38 (0, 0)) z12_1) : gb165 ≠ gb155)); clear HO163; clear BK155; clear HB; have HO163 := n0_; have BK155 := n1_; have HB := n2_; have BK165 := n3_; have GW165 := n4_; have GE165 := n5_; have NB155_165 := n6_; have NB165_155 := n7_; clear n0_ n1_ n2_ n3_ n4_ n5_ n6_ n7_; clear hb hbox hg; have hnb47 := NB165_155.out; have hnc47 := NB155_165.out; have hcz48_0 : w46.cell? ⟨gb165, 0, none⟩ = some (.string (⟨#[]⟩ : ByteArray)) := (blk_cell BK165.out 0).trans rfl; have hcz48_1 : w46.cell? ⟨gb165, 1, none⟩ = some (.string (⟨#[]⟩ : ByteArray)) := (blk_cell BK165.out 1).trans rfl; have hfz48_0 := blk_frozen BK165.out 0; have hfz48_1 := blk_frozen BK165.out 1))
                          have n0_ : Aside0 (Kd.R Kd.string 9 ((w46.setCell ⟨gb165, 0, none⟩ (.string (rdOf ByteArray.empty t161 0))).setCell ⟨gb165, 1, none⟩ (.string (((rdOf ByteArray.empty t157 0).extract yj1.size (rdOf ByteArray.empty t157 0).size).extract ((ji26) : Int).toNat ((rdOf ByteArray.empty t157 0).size - yj1.size)))) w.heap.size (fun _ => True) (.slice (some ad164) t161.length co45) t161) := ⟨z12_7⟩
                          have n1_ : Aside0 (((w46.setCell ⟨gb165, 0, none⟩ (.string (rdOf ByteArray.empty t161 0))).setCell ⟨gb165, 1, none⟩ (.string (((rdOf ByteArray.empty t157 0).extract yj1.size (rdOf ByteArray.empty t157 0).size).extract ((ji26) : Int).toNat ((rdOf ByteArray.empty t157 0).size - yj1.size)))).heap[gb155]? = some (.cells #[.string (⟨#[]⟩ : ByteArray), .string (⟨#[]⟩ : ByteArray)] 38 (0, 0))) := ⟨z12_9⟩
                          have n2_ : Aside0 (((w46.setCell ⟨gb165, 0, none⟩ (.string (rdOf ByteArray.empty t161 0))).setCell ⟨gb165, 1, none⟩ (.string (((rdOf ByteArray.empty t157 0).extract yj1.size (rdOf ByteArray.empty t157 0).size).extract ((ji26) : Int).toNat ((rdOf ByteArray.empty t157 0).size - yj1.size)))).heap[gb165]? = some (.cells #[.string (rdOf ByteArray.empty t161 0), .string (((rdOf ByteArray.empty t157 0).extract yj1.size (rdOf ByteArray.empty t157 0).size).extract ((ji26) : Int).toNat ((rdOf ByteArray.empty t157 0).size - yj1.size))] 38 (0, 0))) := ⟨z12_4⟩
                          have n3_ : Aside0 (Below w.heap.size w ((w46.setCell ⟨gb165, 0, none⟩ (.string (rdOf ByteArray.empty t161 0))).setCell ⟨gb165, 1, none⟩ (.string (((rdOf ByteArray.empty t157 0).extract yj1.size (rdOf ByteArray.empty t157 0).size).extract ((ji26) : Int).toNat ((rdOf ByteArray.empty t157 0).size - yj1.size))))) := ⟨z12_2⟩
                          (try clear HO163)
                          (try clear BK155)
                          (try clear BK165)
                          (try clear HB)
                          generalize ((w46.setCell ⟨gb165, 0, none⟩ (.string (rdOf ByteArray.empty t161 0))).setCell ⟨gb165, 1, none⟩ (.string (((rdOf ByteArray.empty t157 0).extract yj1.size (rdOf ByteArray.empty t157 0).size).extract ((ji26) : Int).toNat ((rdOf ByteArray.empty t157 0).size - yj1.size)))) = w49 at n0_ n1_ n2_ n3_ ⊢
                          have HO163 := n0_
                          have BK155 := n1_
                          have BK165 := n2_
                          have HB := n3_
                          clear n0_ n1_ n2_ n3_
                          have n0_ := Aside0.mk (Kd.R_drew HO163.out)
                          have n1_ := Aside0.mk (blk_drew BK155.out)
                          have n2_ := Aside0.mk (blk_drew BK165.out)
                          have n3_ := Aside0.mk (below_drew1 HB.out)
                          clear HO163
                          clear BK155
                          clear BK165
                          clear HB
                          have HO163 := n0_
                          have BK155 := n1_
                          have BK165 := n2_
                          have HB := n3_
                          clear n0_ n1_ n2_ n3_
                          refine start_ (n := 13) (S := fun w' => w'.cell? ⟨gb165, 0, none⟩ = some (.string (rdOf ByteArray.empty t161 0)) ∧ w'.cell? ⟨gb165, 1, none⟩ = some (.string (((rdOf ByteArray.empty t157 0).extract yj1.size (rdOf ByteArray.empty t157 0).size).extract ((ji26) : Int).toNat ((rdOf ByteArray.empty t157 0).size - yj1.size)))) (ds := []) #[false, false, false, false, false, false, false, false, false, false, false, false, false] z12_10 rfl rfl ⟨(blk_cell BK165.out 0).trans rfl, (blk_cell BK165.out 1).trans rfl⟩ (fun hHeld => ?_); refine with_tabW spec_l12Decode.tab10 spec_l12Decode.bits10 (fun HT_ HW_ => ?_)
                          generalize w49.drew = w50 at HO163 BK155 BK165 HB hHeld ⊢
                          refine take_ (i := 0) (N := some 53) (v := ?_) (a' := ?_) #[true, false, false, false, false, false, false, false, false, false, false, false, false] rfl rfl (take_ofW HT_.out HW_.out z12_10) (fun _ _ _ h => h) (Or.inl ⟨by rfl, ?_⟩) hHeld ?_ ?_
                          rotate_left
                          · rintro w' ⟨s0, s1⟩
                            go_simp
                            with_reducible rfl
                          rotate_left
                          · simp only [Act.put, List.setIfInBounds_toArray, List.set_cons_zero, List.set_cons_succ, i64_w, i32_w]
                            rfl
                          refine take_ (i := 1) (N := some 54) (v := ?_) (a' := ?_) #[true, true, false, false, false, false, false, false, false, false, false, false, false] rfl rfl (take_ofW HT_.out HW_.out z12_10) (fun _ _ _ h => h) (Or.inl ⟨by rfl, ?_⟩) hHeld ?_ ?_
                          rotate_left
                          · rintro w' ⟨s0, s1⟩
                            go_simp
                            with_reducible rfl
                          rotate_left
                          · simp only [Act.put, List.setIfInBounds_toArray, List.set_cons_zero, List.set_cons_succ, i64_w, i32_w]
                            rfl
                          refine one_ (i := 2) (N := some 55) #[true, true, true, false, false, false, false, false, false, false, false, false, false] rfl rfl (one_of HT_.out z12_10) (by decide) (fun K hK => ?_)
                          refine goes_ Tryd.func75 z12_10 rfl #[.agg #[.string (rdOf ByteArray.empty t161 0), .string (((rdOf ByteArray.empty t157 0).extract yj1.size (rdOf ByteArray.empty t157 0).size).extract ((ji26) : Int).toNat ((rdOf ByteArray.empty t157 0).size - yj1.size))]] (by rfl) rfl rfl z12_11 ?_
                          with_reducible refine (spec_l12Record.calls kj6 (rdOf ByteArray.empty t161 0) (((rdOf ByteArray.empty t157 0).extract yj1.size (rdOf ByteArray.empty t157 0).size).extract ((ji26) : Int).toNat ((rdOf ByteArray.empty t157 0).size - yj1.size)) false _ A29.out).mono ?_
                          rintro e w51 ⟨rfl, hb⟩
                          refine ⟨_, rfl, ?_⟩
                          have n0_ := Aside0.mk (Kd.R_below z12_8 hb)
                          have n1_ := Aside0.mk (blk_below (g := gb155) (o := .cells #[.string (⟨#[]⟩ : ByteArray), .string (⟨#[]⟩ : ByteArray)] 38 (0, 0)) z12_1 hb)
                          have n2_ := Aside0.mk (blk_below (g := gb165) (o := .cells #[.string (rdOf ByteArray.empty t161 0), .string (((rdOf ByteArray.empty t157 0).extract yj1.size (rdOf ByteArray.empty t157 0).size).extract ((ji26) : Int).toNat ((rdOf ByteArray.empty t157 0).size - yj1.size))] 38 (0, 0)) z12_13 hb)
                          have n3_ := Aside0.mk (below_step z12_2 hb)
                          clear HO163
                          clear BK155
                          clear BK165
                          clear HB
                          have HO163 := n0_
                          have BK155 := n1_
                          have BK165 := n2_
                          have HB := n3_
                          clear n0_ n1_ n2_ n3_
                          (try clear hb)
                          (try clear hb2)
                          (try clear hk)
                          (try clear hi)
                          refine hK.out _ _ ⟨(blk_cell BK165.out 0).trans rfl, (blk_cell BK165.out 1).trans rfl⟩ (fun hHeld => ?_)
                          clear hK K
                          refine norm_ (a' := ?_) ?_ ?_
                          rotate_left
                          · show Act.put _ (some 55) _ = _
                            simp only [Act.put, List.setIfInBounds_toArray, List.set_cons_zero, List.set_cons_succ, i64_w, i32_w]
                            rfl
                          refine pure_ (i := 3) (N := some 56) (v := ?_) (a' := ?_) #[true, true, true, true, false, false, false, false, false, false, false, false, false] rfl rfl (any_of HT_.out z12_10) (fun _ _ _ h => h) (Or.inl ⟨by rfl, ?_⟩) ?_ ?_
                          rotate_left
                          · intro w'
                            go_simp
                            with_reducible rfl
                          rotate_left
                          · simp only [Act.put, List.setIfInBounds_toArray, List.set_cons_zero, List.set_cons_succ, i64_w, i32_w]
                            rfl
                          refine pure_ (i := 4) (N := some 57) (v := undef) (a' := ?_) #[true, true, true, true, true, false, false, false, false, false, false, false, false] rfl rfl (any_of HT_.out z12_10) (fun _ _ _ h => h) (Or.inr ⟨by rfl, rfl⟩) ?_ ?_
                          rotate_left
                          · simp only [Act.put, List.setIfInBounds_toArray, List.set_cons_zero, List.set_cons_succ, i64_w, i32_w]
                            rfl
                          refine pure_ (i := 5) (N := some 58) (v := undef) (a' := ?_) #[true, true, true, true, true, true, false, false, false, false, false, false, false] rfl rfl (any_of HT_.out z12_10) (fun _ _ _ h => h) (Or.inr ⟨by rfl, rfl⟩) ?_ ?_
                          rotate_left
                          · simp only [Act.put, List.setIfInBounds_toArray, List.set_cons_zero, List.set_cons_succ, i64_w, i32_w]
                            rfl
                          refine pure_ (i := 6) (N := some 59) (v := undef) (a' := ?_) #[true, true, true, true, true, true, true, false, false, false, false, false, false] rfl rfl (any_of HT_.out z12_10) (fun _ _ _ h => h) (Or.inr ⟨by rfl, rfl⟩) ?_ ?_
                          rotate_left
                          · simp only [Act.put, List.setIfInBounds_toArray, List.set_cons_zero, List.set_cons_succ, i64_w, i32_w]
                            rfl
                          refine pure_ (i := 7) (N := some 60) (v := undef) (a' := ?_) #[true, true, true, true, true, true, true, true, false, false, false, false, false] rfl rfl (any_of HT_.out z12_10) (fun _ _ _ h => h) (Or.inr ⟨by rfl, rfl⟩) ?_ ?_
                          rotate_left
                          · simp only [Act.put, List.setIfInBounds_toArray, List.set_cons_zero, List.set_cons_succ, i64_w, i32_w]
                            rfl
                          refine pure_ (i := 8) (N := some 61) (v := undef) (a' := ?_) #[true, true, true, true, true, true, true, true, true, false, false, false, false] rfl rfl (any_of HT_.out z12_10) (fun _ _ _ h => h) (Or.inr ⟨by rfl, rfl⟩) ?_ ?_
                          rotate_left
                          · simp only [Act.put, List.setIfInBounds_toArray, List.set_cons_zero, List.set_cons_succ, i64_w, i32_w]
                            rfl
                          refine pure_ (i := 9) (N := some 62) (v := undef) (a' := ?_) #[true, true, true, true, true, true, true, true, true, true, false, false, false] rfl rfl (any_of HT_.out z12_10) (fun _ _ _ h => h) (Or.inr ⟨by rfl, rfl⟩) ?_ ?_
                          rotate_left
                          · simp only [Act.put, List.setIfInBounds_toArray, List.set_cons_zero, List.set_cons_succ, i64_w, i32_w]
                            rfl
                          refine pure_ (i := 10) (N := some 63) (v := ?_) (a' := ?_) #[true, true, true, true, true, true, true, true, true, true, true, false, false] rfl rfl (any_of HT_.out z12_10) (fun _ _ _ h => h) (Or.inl ⟨by rfl, ?_⟩) ?_ ?_
                          rotate_left
                          · intro w'
                            go_simp
                            with_reducible rfl
                          rotate_left
                          · simp only [Act.put, List.setIfInBounds_toArray, List.set_cons_zero, List.set_cons_succ, i64_w, i32_w]
                            rfl
                          refine one_ (i := 11) (N := none) #[true, true, true, true, true, true, true, true, true, true, true, true, false] rfl rfl (one_of HT_.out z12_10) (by decide) (fun K hK => ?_)
                          have hs52 : w51.cell? ⟨gb155, 0, none⟩ = some (.string (⟨#[]⟩ : ByteArray)) := (blk_cell BK155.out 0).trans rfl
                          have hfs52 := blk_frozen BK155.out 0
                          have hns52_1 := NB165_155.out
                          have hms52_1 := NB155_165.out
                          have hs53 : w51.cell? ⟨gb155, 1, none⟩ = some (.string (⟨#[]⟩ : ByteArray)) := (blk_cell BK155.out 1).trans rfl
                          have hfs53 := blk_frozen BK155.out 1
                          have hns53_1 := NB165_155.out
                          have hms53_1 := NB155_165.out
                          refine skip_ (w1 := ?_) (by rfl) rfl ?_ ?_
                          rotate_left
                          · go_simp
                            rfl
                          refine hK.out _ _ ⟨((cell_far (p := ⟨gb155, _, none⟩) NB165_155.out _).trans (((cell_far (p := ⟨gb155, _, none⟩) NB165_155.out _).trans (hHeld.1)))), ((cell_far (p := ⟨gb155, _, none⟩) NB165_155.out _).trans (((cell_far (p := ⟨gb155, _, none⟩) NB165_155.out _).trans (hHeld.2))))⟩ (fun hHeld => ?_)
                          clear hK K
                          refine pure_ (i := 12) (N := some 5) (v := ?_) (a' := ?_) #[true, true, true, true, true, true, true, true, true, true, true, true, true] rfl rfl (any_of HT_.out z12_10) (fun _ _ _ h => h) (Or.inl ⟨by rfl, ?_⟩) ?_ ?_
                          rotate_left
                          · intro w'
                            go_simp
                            with_reducible rfl
                          rotate_left
                          · simp only [Act.put, List.setIfInBounds_toArray, List.set_cons_zero, List.set_cons_succ, i64_w, i32_w]
                            rfl
                          refine done_ (done_of HT_.out z12_10) ?_
                          try go_wp2
                          refine bodyPost_ret (results_ct rfl _ _ gb155 38 #[.string (rdOf ByteArray.empty t161 0), .string (((rdOf ByteArray.empty t157 0).extract yj1.size (rdOf ByteArray.empty t157 0).size).extract ((ji26) : Int).toNat ((rdOf ByteArray.empty t157 0).size - yj1.size))] (0, 0) _ rfl z12_5 Tryd.underlying38 rfl z12_10) rfl ?_
                          exact ⟨by first | rfl | (simp [errW_none, errW_some] <;> rfl) | (simp only [← hji26]; first | rfl | (simp [errW_none, errW_some] <;> rfl)) | (simp [*, errW_none, errW_some] <;> rfl), z12_2⟩
                      · rw [if_neg c28] at H
                        exact absurd H (by simp)
                    · rw [if_neg c27] at H
                      exact absurd H (by simp)
                · rw [if_neg c21] at H
                  exact absurd H (by simp)
              · rw [if_neg c19] at H
                exact absurd H (by simp)
            · rw [if_neg c18] at H
              exact absurd H (by simp)
    · rw [if_neg c6] at H
      exact absurd H (by simp)
  · rw [if_neg c4] at H
    exact absurd H (by simp)
end Go.Proofs.YtgclcjohnnpejaaDoor.Pr
end

section
namespace Go.Proofs.YtgclcjohnnpejaaDoor.Pr
open Go.RowKit Go.Proofs.YtgclcjohnnpejaaDoorW.PrintWords Go.Proofs.YtgclcjohnnpejaaDoorW.PrintLast Go.Proofs.YtgclcjohnnpejaaDoorW.PrintMore
attribute [local go_sem] max2_int min2_int max_two min_two max_three min_three max_four min_four
set_option linter.unusedVariables false
set_option linter.unusedSimpArgs false
theorem z13_0 {P : Prop} (h : P := by repeat (first | (with_reducible first | exact HB.out | apply below_alloc | apply pw_below_drewN | apply below_drew1) | exact HB.out)) : P := h
theorem z13_1 {P : Prop} (h : P := by (with_reducible repeat (first | apply Kd.R_alloc | apply Kd.R_drewN | apply Kd.R_drew)); exact HO_4.out) : P := h
theorem z13_2 {P : Prop} (h : P := by (try simp only [List.map_toArray, List.map_cons, List.map_nil]); first | done | rfl | (simp only [List.length_drop, List.length_take]; rfl)) : P := h
theorem z13_3 {P : Prop} (h : P := by repeat (first | (with_reducible first | exact HB.out | apply below_alloc | apply pw_below_drewN | apply below_drew1 | refine below_set ?_ GE178.out) | exact HB.out)) : P := h
theorem z13_4 {P : Prop} (h : P := by (with_reducible repeat (first | apply Kd.R_alloc | apply Kd.R_drewN | apply Kd.R_drew)); exact HO173.out) : P := h
theorem z13_5 {P : Prop} (h : P := by (with_reducible repeat (first | refine blk_drewN ?_ _ | refine blk_drew ?_ | refine blk_alloc ?_ _)); refine blk_put (cs := #[.string t175, .string (⟨#[]⟩ : ByteArray)]) ?_ 1 _ rfl; (with_reducible repeat (first | refine blk_drewN ?_ _ | refine blk_drew ?_ | refine blk_alloc ?_ _)); refine blk_put (cs := #[.string (⟨#[]⟩ : ByteArray), .string (⟨#[]⟩ : ByteArray)]) ?_ 0 _ rfl; (with_reducible repeat (first | refine blk_drewN ?_ _ | refine blk_drew ?_ | refine blk_alloc ?_ _)); exact BK178.out) : P := h
theorem z13_6 {P : Prop} (h : P := by repeat (first | (with_reducible first | exact HB.out | apply below_alloc | apply pw_below_drewN | apply below_drew1 | refine below_set ?_ GE183.out) | exact HB.out)) : P := h
theorem z13_7 {P : Prop} (h : P := by first | rfl | (simp [errW_none, errW_some] <;> rfl) | (simp [*, errW_none, errW_some] <;> rfl)) : P := h
theorem z13_8 {P : Prop} (h : P := by (with_reducible repeat (first | apply Kd.R_alloc | apply Kd.R_drewN | apply Kd.R_drew)); exact Kd.R_mono (Kd.R_far (p := ⟨gb178, 1, none⟩) (Kd.R_far (p := ⟨gb178, 0, none⟩) (Kd.R_mono HO_4.out (fun k_ hk => (⟨hk, hk.2⟩ : _ ∧ k_ ≠ gb178))) (fun _ hk => hk.2) (.string t175)) (fun _ hk => hk.2) (.string t176)) (fun _ hk => trivial)) : P := h
theorem z13_9 {P : Prop} (h : P := by rw [hg]; exact (below_size z13_0)) : P := h
mutual
def spec_l12Open.l0 : Nat → ByteArray → List (S38) → Int → Option ((List (S38)) × Int)
  | 0, _, _, _ => none
  | k + 1, x0, x4, x5 => if x5 < (x0.size : Int) then (spec_l12Open.j1 k x0 x4 x5 (decide ((x4.length : Int) < 60))) else (spec_l12Open.j1 k x0 x4 x5 false)
def spec_l12Open.j1 : Nat → ByteArray → List (S38) → Int → Bool → Option ((List (S38)) × Int)
  | 0, _, _, _, _ => none
  | k + 1, x0, x4, x5, x18 => if x18 = true then (if 0 ≤ x5 then (if x5 ≤ (x0.size : Int) then ((spec_l1Split.f k (x0.extract (x5 : Int).toNat x0.size) 10).bind fun t171 => (if 0 < (t171.length : Int) then ((spec_l12Decode.f k (rdOf ByteArray.empty t171 0) (x4.length : Int)).bind fun bt175 => (if (t171.length : Int) < 2 then (some (x4, x5)) else (if bt175.2.2 = true then (if x4.length < 4398046511104 then (spec_l12Open.l0 k x0 (x4 ++ [(⟨bt175.1, bt175.2.1⟩ : S38)]) (wrap64 ((wrap64 (x5 + ((rdOf ByteArray.empty t171 0).size : Int))) + 1))) else (none)) else (some (x4, x5))))) else (none))) else (none)) else (none)) else (some (x4, x5))
end
def spec_l12Open.f (k : Nat) (a0 : ByteArray) : Option ((List (S38)) × Int) := spec_l12Open.l0 k a0 (([] : List (S38))) 0
theorem spec_l12Open.mono_l : ∀ k, (∀ y0 y1 y2, LeO (spec_l12Open.l0 k y0 y1 y2) (spec_l12Open.l0 (k + 1) y0 y1 y2)) ∧ (∀ y0 y1 y2 y3, LeO (spec_l12Open.j1 k y0 y1 y2 y3) (spec_l12Open.j1 (k + 1) y0 y1 y2 y3))
  | 0 => ⟨fun _ _ _ r h => by simp [spec_l12Open.l0] at h, fun _ _ _ _ r h => by simp [spec_l12Open.j1] at h⟩
  | k + 1 => by
    obtain ⟨ih0, ih1⟩ := spec_l12Open.mono_l k
    refine ⟨?_, ?_⟩
    · intro y0 y1 y2
      unfold spec_l12Open.l0
      repeat' first
      | (with_reducible exact ih0 _ _ _)
      | (with_reducible exact ih1 _ _ _ _)
      | (with_reducible exact spec_l12Decode.mono _ _ _)
      | (with_reducible exact spec_l1Split.mono _ _ _)
      | (with_reducible exact LeO.refl _)
      | (with_reducible exact LeO.none _)
      | (with_reducible refine LeO.ite ?_ ?_)
      | (with_reducible refine LeO.bind ?_ (fun _ => ?_))
      | exact ih0 _ _ _
      | exact ih1 _ _ _ _
      | exact spec_l12Decode.mono _ _ _
      | exact spec_l1Split.mono _ _ _
      | exact LeO.none _
      | refine LeO.ite ?_ ?_
      | refine LeO.bind ?_ (fun _ => ?_)
    · intro y0 y1 y2 y3
      unfold spec_l12Open.j1
      repeat' first
      | (with_reducible exact ih0 _ _ _)
      | (with_reducible exact ih1 _ _ _ _)
      | (with_reducible exact spec_l12Decode.mono _ _ _)
      | (with_reducible exact spec_l1Split.mono _ _ _)
      | (with_reducible exact LeO.refl _)
      | (with_reducible exact LeO.none _)
      | (with_reducible refine LeO.ite ?_ ?_)
      | (with_reducible refine LeO.bind ?_ (fun _ => ?_))
      | exact ih0 _ _ _
      | exact ih1 _ _ _ _
      | exact spec_l12Decode.mono _ _ _
      | exact spec_l1Split.mono _ _ _
      | exact LeO.none _
      | refine LeO.ite ?_ ?_
      | refine LeO.bind ?_ (fun _ => ?_)
theorem spec_l12Open.mono : ∀ a0 k, LeO (spec_l12Open.f k a0) (spec_l12Open.f (k + 1) a0) := by
  intro a0 k
  obtain ⟨ih0, ih1⟩ := spec_l12Open.mono_l k
  unfold spec_l12Open.f
  repeat' first
      | (with_reducible exact ih0 _ _ _)
      | (with_reducible exact ih1 _ _ _ _)
      | (with_reducible exact spec_l12Decode.mono _ _ _)
      | (with_reducible exact spec_l1Split.mono _ _ _)
      | (with_reducible exact LeO.refl _)
      | (with_reducible exact LeO.none _)
      | (with_reducible refine LeO.ite ?_ ?_)
      | (with_reducible refine LeO.bind ?_ (fun _ => ?_))
      | exact ih0 _ _ _
      | exact ih1 _ _ _ _
      | exact spec_l12Decode.mono _ _ _
      | exact spec_l1Split.mono _ _ _
      | exact LeO.none _
      | refine LeO.ite ?_ ?_
      | refine LeO.bind ?_ (fun _ => ?_)
set_option maxHeartbeats 8000000 in
set_option maxRecDepth 100000 in
theorem spec_l12Open.calls (k : Nat) (a0 : ByteArray) (r1 : List (S38)) (r2 : Int) (w : World) (h : spec_l12Open.f k a0 = some (r1, r2)) :
    Calls Tryd.prog 79 #[.string a0] w fun e w' => ∃ v0_ : Value, e = .returned (.tuple #[v0_, .int .i64 r2]) ∧ Kd.R k38 38 w' w.heap.size (fun _ => True) v0_ r1 ∧ Below w.heap.size w w' := by
  have hu38 := Tryd.underlying38
  have HB := Aside0.mk (Below.refl w.heap.size w)
  have H : (spec_l12Open.l0 k a0 (([] : List (S38))) 0) = some (r1, r2) := h
  clear h
  obtain ⟨y168, hy168⟩ : ∃ y_ : List (S38), y_ = (([] : List (S38))) := ⟨_, rfl⟩
  replace H : (spec_l12Open.l0 k a0 y168 0) = some (r1, r2) := by first | (rw [hy168]; with_reducible exact H) | (have H2_ := (Option.bind_some _ _).symm.trans H; rw [hy168]; with_reducible exact H2_) | (have H2_ := (Option.bind_some _ _).symm.trans H; with_reducible exact H2_) | with_reducible exact H | (rw [hy168]; exact H) | exact H
  have Ny168 := Aside0.mk hy168
  clear hy168
  have H' := Aside0.mk H
  clear H
  go_enter Tryd.func79, Tryd.ntmps79
  go_wp2_with (first | ((with_reducible refine gate_dst (N := 9) rfl ?_); (try (refine gate_guard (by rfl) ?_; dsimp only)); refine Kd.R_lit k38 _ 38 ?hg (N := 9) ?hd (xs := ([] : List (S38))) (inner := []) (ok := fun _ => True) (okp := fun _ => True) ?hr ?hp (fun _ hk => hk) trivial (Below.refl _ _) (Nat.le_refl _) (by simp) ?_; (case hd => rfl); (case hg => rfl); (case hr => first | (go_simp; done) | (go_simp; rfl)); (case hp => exact (Reps.none _ _)); intro v169 w2 ho3 hb hg_ hnew_; clear hg_ hnew_; (first | rw [← Ny168.out] at ho3 | (simp only [Int.reduceToNat] at ho3; rw [← Ny168.out] at ho3)); have n0_ := Aside0.mk (Kd.R_lower ho3 (below_size z13_0)); have n1_ := Aside0.mk (below_step z13_0 hb); clear HB; have HO170 := n0_; have HB := n1_; clear n0_ n1_; clear hb ho3))
  go_loopg [4, 5] k (fun kq v4 v5 w' => ∃ (x4_1 : List (S38)) (x5_1 : Int), v5 = .int .i64 x5_1 ∧ Aside0 (spec_l12Open.l0 kq a0 x4_1 x5_1 = some (r1, r2)) ∧ Aside0 (kq ≤ k) ∧ Aside0 (Kd.R k38 38 w' w.heap.size (fun _ => True) v4 x4_1) ∧ Aside0 (Below w.heap.size w w'))
  case atStart => exact ⟨(y168), (0), (by first | rfl | (simp; done) | (simp [*]; done)), H', ⟨Nat.le_refl _⟩, ⟨by (with_reducible repeat (first | apply Kd.R_alloc | apply Kd.R_drewN | apply Kd.R_drew)); exact HO170.out⟩, ⟨z13_0⟩⟩
  case round =>
    clear H'
    try clear p2
    obtain ⟨x4_1, x5_1, rfl, HA, HK1, HO_4, HB⟩ := hrel
    cases gk with
    | zero => exact absurd HA.out (by simp [spec_l12Open.l0])
    | succ k1 =>
      have H := HA.out
      clear HA
      simp only [spec_l12Open.l0] at H
      have HC4 := Aside0.mk H
      clear H
      go_upto_region 3 with (fail)
      go_cut [18] (fun v18 wc => ∃ (kq : Nat) (x18_3 : Bool), v18 = .bool x18_3 ∧ Aside0 (spec_l12Open.j1 kq a0 x4_1 x5_1 x18_3 = some (r1, r2)) ∧ Aside0 (kq ≤ k1) ∧ Aside0 (Kd.R k38 38 wc w.heap.size (fun _ => True) u4 x4_1) ∧ Aside0 (Below w.heap.size w wc))
      case first =>
        have H := HC4.out
        clear HC4
        by_cases c5 : x5_1 < (a0.size : Int)
        · rw [if_pos c5] at H
          have c5b0 : decide (x5_1 < (a0.size : Int)) = true := decide_eq_true c5
          clear c5
          (first | rw [c5b0] | (simp only [i64_w, i32_w]; rw [c5b0]) | skip)
          have H' := Aside0.mk H
          clear H
          obtain ⟨Ao6, co6, eo6⟩ := Kd.R_slice HO_4.out
          subst eo6
          go_wp2
          go_meet
          case rel => exact ⟨_, (decide ((x4_1.length : Int) < 60)), (by first | rfl | (simp; done) | (simp [*]; done)), H', ⟨by have := HK1.out; first | omega | exact Nat.le_refl _⟩, ⟨z13_1⟩, ⟨z13_0⟩⟩
        · rw [if_neg c5] at H
          have c5b0 : decide (x5_1 < (a0.size : Int)) = false := decide_eq_false c5
          clear c5
          (first | rw [c5b0] | (simp only [i64_w, i32_w]; rw [c5b0]) | skip)
          have H' := Aside0.mk H
          clear H
          go_wp2
          go_meet
          case rel => exact ⟨_, (false), (by first | rfl | (simp; done) | (simp [*]; done)), H', ⟨by have := HK1.out; first | omega | exact Nat.le_refl _⟩, ⟨z13_1⟩, ⟨z13_0⟩⟩
      case rest =>
        clear HC4
        try clear p2
        try clear c5
        try clear c5b0
        try clear p2
        obtain ⟨kq, x18_3, rfl, HA, HJ3, HO_4, HB⟩ := hcut
        cases kq with
        | zero => exact absurd HA.out (by simp [spec_l12Open.j1])
        | succ kj3 =>
          have H := HA.out
          clear HA
          simp only [spec_l12Open.j1] at H
          by_cases c7 : x18_3 = true
          · subst c7
            have H1 : (if 0 ≤ x5_1 then (if x5_1 ≤ (a0.size : Int) then ((spec_l1Split.f kj3 (a0.extract (x5_1 : Int).toNat a0.size) 10).bind fun t171 => (if 0 < (t171.length : Int) then ((spec_l12Decode.f kj3 (rdOf ByteArray.empty t171 0) (x4_1.length : Int)).bind fun bt175 => (if (t171.length : Int) < 2 then (some (x4_1, x5_1)) else (if bt175.2.2 = true then (if x4_1.length < 4398046511104 then (spec_l12Open.l0 kj3 a0 (x4_1 ++ [(⟨bt175.1, bt175.2.1⟩ : S38)]) (wrap64 ((wrap64 (x5_1 + ((rdOf ByteArray.empty t171 0).size : Int))) + 1))) else (none)) else (some (x4_1, x5_1))))) else (none))) else (none)) else (none)) = some (r1, r2) := by rw [if_pos rfl] at H; exact H
            clear H
            have H := H1
            clear H1
            by_cases c8 : 0 ≤ x5_1
            · rw [if_pos c8] at H
              have c8b0 := eq_true c8
              have c8b1 : decide (0 ≤ x5_1) = true := decide_eq_true c8
              clear c8
              by_cases c9 : x5_1 ≤ (a0.size : Int)
              · rw [if_pos c9] at H
                have c9b0 := eq_true c9
                have c9b1 : decide (x5_1 ≤ (a0.size : Int)) = true := decide_eq_true c9
                clear c9
                replace H := Option.bind_eq_some_iff.mp H
                obtain ⟨t171, A100, H⟩ := H
                replace H : (if 0 < (t171.length : Int) then ((spec_l12Decode.f kj3 (rdOf ByteArray.empty t171 0) (x4_1.length : Int)).bind fun bt175 => (if (t171.length : Int) < 2 then (some (x4_1, x5_1)) else (if bt175.2.2 = true then (if x4_1.length < 4398046511104 then (spec_l12Open.l0 kj3 a0 (x4_1 ++ [(⟨bt175.1, bt175.2.1⟩ : S38)]) (wrap64 ((wrap64 (x5_1 + ((rdOf ByteArray.empty t171 0).size : Int))) + 1))) else (none)) else (some (x4_1, x5_1))))) else (none)) = some (r1, r2) := H
                have A10 := Aside0.mk A100
                clear A100
                by_cases c11 : 0 < (t171.length : Int)
                · rw [if_pos c11] at H
                  have c11b0 : decide (0 < (t171.length : Int)) = true := decide_eq_true c11
                  have c11b1 : decide (0 < t171.length) = true := decide_eq_true (by omega)
                  clear c11
                  replace H := Option.bind_eq_some_iff.mp H
                  obtain ⟨⟨t175, t176, t177⟩, A120, H⟩ := H
                  replace H : (if (t171.length : Int) < 2 then (some (x4_1, x5_1)) else (if t177 = true then (if x4_1.length < 4398046511104 then (spec_l12Open.l0 kj3 a0 (x4_1 ++ [(⟨t175, t176⟩ : S38)]) (wrap64 ((wrap64 (x5_1 + ((rdOf ByteArray.empty t171 0).size : Int))) + 1))) else (none)) else (some (x4_1, x5_1)))) = some (r1, r2) := H
                  have A12 := Aside0.mk A120
                  clear A120
                  by_cases c13 : (t171.length : Int) < 2
                  · rw [if_pos c13] at H
                    have c13b0 : decide ((t171.length : Int) < 2) = true := decide_eq_true c13
                    have c13b1 : decide (t171.length < 2) = true := decide_eq_true (by omega)
                    clear c13
                    simp only [Option.some.injEq, Prod.mk.injEq] at H
                    obtain ⟨rfl, rfl⟩ := H
                    go_wp2_with (first | ((with_reducible refine gate_callee (f := 106) rfl ?_); refine goesL_ (some 22) rfl rfl Tryd.func106 (by kernel_rfl) rfl #[.string (a0.extract (x5_1 : Int).toNat a0.size), .int .u8 10] rfl z13_2 ?_; (with_reducible refine (spec_l1Split.calls kj3 (a0.extract (x5_1 : Int).toNat a0.size) 10 t171 _ A10.out).mono ?_); rintro e w14 ⟨v172, rfl, ho0, hb⟩; refine ⟨_, rfl, ?_⟩; have n0_ := Aside0.mk (Kd.R_below z13_1 hb); have n1_ := Aside0.mk (Kd.R_lower ho0 (below_size z13_0)); have n2_ := Aside0.mk (below_step z13_0 hb); clear HO_4; clear HB; have HO_4 := n0_; have HO173 := n1_; have HB := n2_; clear n0_ n1_ n2_; (try clear hb); (try clear hb2); (try clear hk); (try clear hi); (try clear ho0); obtain ⟨Ao15, co15, eo15⟩ := Kd.R_slice HO173.out; subst eo15; have p174 : 0 ≤ (0 : Int) := (by omega); have q174 : 0 < (t171.length : Int) := of_decide_eq_true (by first | (with_reducible assumption) | assumption); obtain ⟨ad174, e174, hx174_0⟩ := Kd.at_string (Kd.R_reads' HO173.out).2.2 0 p174 q174; cases e174; have qi174 : (0 < t171.length) = True := eq_true (by omega); (try rw [show ((0 : Int)).toNat = 0 from rfl] at hx174_0); (try rw [Addr.add_zero'] at hx174_0); replace p174 := eq_true p174; replace q174 := eq_true q174; obtain ⟨Ao16, co16, eo16⟩ := Kd.R_slice HO_4.out; subst eo16) | ((with_reducible refine gate_callee (f := 107) rfl ?_); refine goesL_ (some 29) rfl rfl Tryd.func107 (by kernel_rfl) rfl #[.string (rdOf ByteArray.empty t171 0), .int .i64 (x4_1.length : Int)] rfl z13_2 ?_; (with_reducible refine (spec_l12Decode.calls kj3 (rdOf ByteArray.empty t171 0) (x4_1.length : Int) t175 t176 t177 _ A12.out).mono ?_); rintro e w17 ⟨rfl, hb⟩; refine ⟨_, rfl, ?_⟩; have n0_ := Aside0.mk (Kd.R_below z13_1 hb); have n1_ := Aside0.mk (Kd.R_below z13_4 hb); have n2_ := Aside0.mk (below_step z13_0 hb); clear HO_4; clear HO173; clear HB; have HO_4 := n0_; have HO173 := n1_; have HB := n2_; clear n0_ n1_ n2_; (try clear hb); (try clear hb2); (try clear hk); (try clear hi)) | ((with_reducible refine gate_dst (N := 7) rfl ?_); (try (refine gate_guard (by rfl) ?_; dsimp only)); refine box_event ?hg (N := 7) ?hd (cs := #[.string (⟨#[]⟩ : ByteArray), .string (⟨#[]⟩ : ByteArray)]) (t := 38) ?hr ?_; (case hd => rfl); (case hg => rfl); (case hr => first | (go_simp; done) | (go_simp; rfl)); intro gb178 hg w18 hbox hb; have n0_ := Aside0.mk (Kd.R_below (Kd.R_elderB z13_1 gb178 (Nat.le_of_eq hg.symm)) hb); have n1_ := Aside0.mk (Kd.R_below z13_4 hb); have n2_ := Aside0.mk (below_step z13_0 hb); have n3_ := Aside0.mk (hbox); have n4_ := Aside0.mk ((z13_9 : w.heap.size ≤ gb178)); have n5_ := Aside0.mk ((z13_9 : w.heap.size ≤ gb178)); clear HO_4; clear HO173; clear HB; have HO_4 := n0_; have HO173 := n1_; have HB := n2_; have BK178 := n3_; have GW178 := n4_; have GE178 := n5_; clear n0_ n1_ n2_ n3_ n4_ n5_; clear hb hbox hg; have hcz19_0 : w18.cell? ⟨gb178, 0, none⟩ = some (.string (⟨#[]⟩ : ByteArray)) := (blk_cell BK178.out 0).trans rfl; have hcz19_1 : w18.cell? ⟨gb178, 1, none⟩ = some (.string (⟨#[]⟩ : ByteArray)) := (blk_cell BK178.out 1).trans rfl; have hfz19_0 := blk_frozen BK178.out 0; have hfz19_1 := blk_frozen BK178.out 1))
                    go_ret2
                    exact ⟨_, z13_7, z13_8, z13_3⟩
                  · rw [if_neg c13] at H
                    have c13b0 : decide ((t171.length : Int) < 2) = false := decide_eq_false c13
                    have c13b1 : decide (t171.length < 2) = false := decide_eq_false (by omega)
                    clear c13
                    by_cases c20 : t177 = true
                    · subst c20
                      have H1 : (if x4_1.length < 4398046511104 then (spec_l12Open.l0 kj3 a0 (x4_1 ++ [(⟨t175, t176⟩ : S38)]) (wrap64 ((wrap64 (x5_1 + ((rdOf ByteArray.empty t171 0).size : Int))) + 1))) else (none)) = some (r1, r2) := by rw [if_pos rfl] at H; exact H
                      clear H
                      have H := H1
                      clear H1
                      by_cases c21 : x4_1.length < 4398046511104
                      · rw [if_pos c21] at H
                        have LMc21 := Aside0.mk c21
                        clear c21
                        obtain ⟨y179, hy179⟩ : ∃ y_ : List (S38), y_ = (x4_1 ++ [(⟨t175, t176⟩ : S38)]) := ⟨_, rfl⟩
                        replace H : (spec_l12Open.l0 kj3 a0 y179 (wrap64 ((wrap64 (x5_1 + ((rdOf ByteArray.empty t171 0).size : Int))) + 1))) = some (r1, r2) := by first | (rw [hy179]; with_reducible exact H) | (have H2_ := (Option.bind_some _ _).symm.trans H; rw [hy179]; with_reducible exact H2_) | (have H2_ := (Option.bind_some _ _).symm.trans H; with_reducible exact H2_) | with_reducible exact H | (rw [hy179]; exact H) | exact H
                        have Ny179 := Aside0.mk hy179
                        clear hy179
                        have H' := Aside0.mk H
                        clear H
                        go_wp2_with (first | ((with_reducible refine gate_callee (f := 106) rfl ?_); refine goesL_ (some 22) rfl rfl Tryd.func106 (by kernel_rfl) rfl #[.string (a0.extract (x5_1 : Int).toNat a0.size), .int .u8 10] rfl z13_2 ?_; (with_reducible refine (spec_l1Split.calls kj3 (a0.extract (x5_1 : Int).toNat a0.size) 10 t171 _ A10.out).mono ?_); rintro e w22 ⟨v172, rfl, ho0, hb⟩; refine ⟨_, rfl, ?_⟩; have n0_ := Aside0.mk (Kd.R_below z13_1 hb); have n1_ := Aside0.mk (Kd.R_lower ho0 (below_size z13_0)); have n2_ := Aside0.mk (below_step z13_0 hb); clear HO_4; clear HB; have HO_4 := n0_; have HO173 := n1_; have HB := n2_; clear n0_ n1_ n2_; (try clear hb); (try clear hb2); (try clear hk); (try clear hi); (try clear ho0); obtain ⟨Ao23, co23, eo23⟩ := Kd.R_slice HO173.out; subst eo23; have p174 : 0 ≤ (0 : Int) := (by omega); have q174 : 0 < (t171.length : Int) := of_decide_eq_true (by first | (with_reducible assumption) | assumption); obtain ⟨ad174, e174, hx174_0⟩ := Kd.at_string (Kd.R_reads' HO173.out).2.2 0 p174 q174; cases e174; have qi174 : (0 < t171.length) = True := eq_true (by omega); (try rw [show ((0 : Int)).toNat = 0 from rfl] at hx174_0); (try rw [Addr.add_zero'] at hx174_0); replace p174 := eq_true p174; replace q174 := eq_true q174; obtain ⟨Ao24, co24, eo24⟩ := Kd.R_slice HO_4.out; subst eo24) | ((with_reducible refine gate_callee (f := 107) rfl ?_); refine goesL_ (some 29) rfl rfl Tryd.func107 (by kernel_rfl) rfl #[.string (rdOf ByteArray.empty t171 0), .int .i64 (x4_1.length : Int)] rfl z13_2 ?_; (with_reducible refine (spec_l12Decode.calls kj3 (rdOf ByteArray.empty t171 0) (x4_1.length : Int) t175 t176 true _ A12.out).mono ?_); rintro e w25 ⟨rfl, hb⟩; refine ⟨_, rfl, ?_⟩; have n0_ := Aside0.mk (Kd.R_below z13_1 hb); have n1_ := Aside0.mk (Kd.R_below z13_4 hb); have n2_ := Aside0.mk (below_step z13_0 hb); clear HO_4; clear HO173; clear HB; have HO_4 := n0_; have HO173 := n1_; have HB := n2_; clear n0_ n1_ n2_; (try clear hb); (try clear hb2); (try clear hk); (try clear hi)) | ((with_reducible refine gate_dst (N := 7) rfl ?_); (try (refine gate_guard (by rfl) ?_; dsimp only)); refine box_event ?hg (N := 7) ?hd (cs := #[.string (⟨#[]⟩ : ByteArray), .string (⟨#[]⟩ : ByteArray)]) (t := 38) ?hr ?_; (case hd => rfl); (case hg => rfl); (case hr => first | (go_simp; done) | (go_simp; rfl)); intro gb178 hg w26 hbox hb; have n0_ := Aside0.mk (Kd.R_below (Kd.R_elderB z13_1 gb178 (Nat.le_of_eq hg.symm)) hb); have n1_ := Aside0.mk (Kd.R_below z13_4 hb); have n2_ := Aside0.mk (below_step z13_0 hb); have n3_ := Aside0.mk (hbox); have n4_ := Aside0.mk ((z13_9 : w.heap.size ≤ gb178)); have n5_ := Aside0.mk ((z13_9 : w.heap.size ≤ gb178)); clear HO_4; clear HO173; clear HB; have HO_4 := n0_; have HO173 := n1_; have HB := n2_; have BK178 := n3_; have GW178 := n4_; have GE178 := n5_; clear n0_ n1_ n2_ n3_ n4_ n5_; clear hb hbox hg; have hcz27_0 : w26.cell? ⟨gb178, 0, none⟩ = some (.string (⟨#[]⟩ : ByteArray)) := (blk_cell BK178.out 0).trans rfl; have hcz27_1 : w26.cell? ⟨gb178, 1, none⟩ = some (.string (⟨#[]⟩ : ByteArray)) := (blk_cell BK178.out 1).trans rfl; have hfz27_0 := blk_frozen BK178.out 0; have hfz27_1 := blk_frozen BK178.out 1) | ((with_reducible refine gate_builtin (b := .append) (xs := #[.tmp 39, .tmp 41]) rfl ?_); (try (refine gate_guard (by rfl) ?_; dsimp only)); at_builtin; refine Kd.R_append k38 (w0 := w) w.heap.size rfl (.tmp 39) (.tmp 41) 59 38 (.agg #[(.string ⟨#[]⟩), (.string ⟨#[]⟩)]) 32 rfl Tryd.underlying59 info38 rfl (by decide) (by omega) (.slice Ao24 x4_1.length co24) x4_1 (⟨t175, t176⟩ : S38) [.string t175, .string t176] (fun k_ => k_ ≠ gb178) (fun _ => False) rfl (by first | (go_simp; done) | (go_simp; rfl)) ?aP (fun _ hk => hk.elim) ?aF ?aO ?aB ?aS ?aL ?_; (case aP => exact k38_mkM _ _ _ (⟨t175, t176⟩ : S38)); (case aB => exact z13_3); (case aF => exact (fun k_ hk => Kd.freshB (g := gb178) (o := .cells #[.string t175, .string t176] 38 (0, 0)) z13_5 k_ hk)); (case aO => exact (by (with_reducible repeat (first | apply Kd.R_alloc | apply Kd.R_drewN | apply Kd.R_drew)); exact Kd.R_mono (Kd.R_far (p := ⟨gb178, 1, none⟩) (Kd.R_far (p := ⟨gb178, 0, none⟩) (Kd.R_mono HO_4.out (fun k_ hk => (⟨hk, hk.2⟩ : _ ∧ k_ ≠ gb178))) (fun _ hk => hk.2) (.string t175)) (fun _ hk => hk.2) (.string t176)) (fun _ hk => hk.1.2))); (case aS => exact (below_size z13_3)); (case aL => have := LMc21.out; omega); intro v180 w28 ho hb hg hat; rw [← Ny179.out] at ho; have n0_ := Aside0.mk (Kd.R_over' (by (with_reducible repeat (first | apply Kd.R_alloc | apply Kd.R_drewN | apply Kd.R_drew)); exact (Kd.R_mono (Kd.R_far (p := ⟨gb178, 1, none⟩) (Kd.R_far (p := ⟨gb178, 0, none⟩) (Kd.R_types HO173.out BK178.out (by decide)) (fun _ hk => hk.2) (.string t175)) (fun _ hk => hk.2) (.string t176)) (fun _ h_ => h_.1))) (Kd.R_typed (by (with_reducible repeat (first | apply Kd.R_alloc | apply Kd.R_drewN | apply Kd.R_drew)); exact (Kd.R_mono (Kd.R_far (p := ⟨gb178, 1, none⟩) (Kd.R_far (p := ⟨gb178, 0, none⟩) (Kd.R_mono HO_4.out (fun k_ hk => (⟨hk, hk.2⟩ : _ ∧ k_ ≠ gb178))) (fun _ hk => hk.2) (.string t175)) (fun _ hk => hk.2) (.string t176)) (fun _ h_ => h_.1)))) (by decide) hg); have n1_ := Aside0.mk (blk_grown (g := gb178) (o := .cells #[.string t175, .string t176] 38 (0, 0)) z13_5 hg (Kd.R_away HO_4.out (fun _ hk => hk.2))); have n2_ := Aside0.mk (hb); have n3_ := Aside0.mk (ho); clear HO173; clear BK178; clear HB; clear HO_4; have HO173 := n0_; have BK178 := n1_; have HB := n2_; have HO181 := n3_; clear n0_ n1_ n2_ n3_; clear ho hb hg hat; have p182 : 0 ≤ (0 : Int) := (by omega); have q182 : 0 < (t171.length : Int) := of_decide_eq_true (by first | (with_reducible assumption) | assumption); obtain ⟨ad182, e182, hx182_0⟩ := Kd.at_string (Kd.R_reads' HO173.out).2.2 0 p182 q182; obtain rfl : ad174 = ad182 := (by injection e182); have qi182 : (0 < t171.length) = True := eq_true (by omega); (try rw [show ((0 : Int)).toNat = 0 from rfl] at hx182_0); (try rw [Addr.add_zero'] at hx182_0); replace p182 := eq_true p182; replace q182 := eq_true q182))
                        go_roundg kj3
                        case measure => have := HK1.out; have := HJ3.out; omega
                        case rel => exact ⟨(y179), (wrap64 ((wrap64 (x5_1 + ((rdOf ByteArray.empty t171 0).size : Int))) + 1)), (by first | rfl | (simp; done) | (simp [*]; done)), H', ⟨by have := HK1.out; have := HJ3.out; omega⟩, ⟨by (with_reducible repeat (first | apply Kd.R_alloc | apply Kd.R_drewN | apply Kd.R_drew)); exact Kd.R_mono HO181.out (fun _ hk => trivial)⟩, ⟨z13_3⟩⟩
                      · rw [if_neg c21] at H
                        exact absurd H (by simp)
                    · replace c20 := Bool.eq_false_iff.mpr c20
                      subst c20
                      have H1 : (some (x4_1, x5_1)) = some (r1, r2) := by rw [if_neg (show ¬ (false = true) by decide)] at H; exact H
                      clear H
                      have H := H1
                      clear H1
                      simp only [Option.some.injEq, Prod.mk.injEq] at H
                      obtain ⟨rfl, rfl⟩ := H
                      go_wp2_with (first | ((with_reducible refine gate_callee (f := 106) rfl ?_); refine goesL_ (some 22) rfl rfl Tryd.func106 (by kernel_rfl) rfl #[.string (a0.extract (x5_1 : Int).toNat a0.size), .int .u8 10] rfl z13_2 ?_; (with_reducible refine (spec_l1Split.calls kj3 (a0.extract (x5_1 : Int).toNat a0.size) 10 t171 _ A10.out).mono ?_); rintro e w29 ⟨v172, rfl, ho0, hb⟩; refine ⟨_, rfl, ?_⟩; have n0_ := Aside0.mk (Kd.R_below z13_1 hb); have n1_ := Aside0.mk (Kd.R_lower ho0 (below_size z13_0)); have n2_ := Aside0.mk (below_step z13_0 hb); clear HO_4; clear HB; have HO_4 := n0_; have HO173 := n1_; have HB := n2_; clear n0_ n1_ n2_; (try clear hb); (try clear hb2); (try clear hk); (try clear hi); (try clear ho0); obtain ⟨Ao30, co30, eo30⟩ := Kd.R_slice HO173.out; subst eo30; have p174 : 0 ≤ (0 : Int) := (by omega); have q174 : 0 < (t171.length : Int) := of_decide_eq_true (by first | (with_reducible assumption) | assumption); obtain ⟨ad174, e174, hx174_0⟩ := Kd.at_string (Kd.R_reads' HO173.out).2.2 0 p174 q174; cases e174; have qi174 : (0 < t171.length) = True := eq_true (by omega); (try rw [show ((0 : Int)).toNat = 0 from rfl] at hx174_0); (try rw [Addr.add_zero'] at hx174_0); replace p174 := eq_true p174; replace q174 := eq_true q174; obtain ⟨Ao31, co31, eo31⟩ := Kd.R_slice HO_4.out; subst eo31) | ((with_reducible refine gate_callee (f := 107) rfl ?_); refine goesL_ (some 29) rfl rfl Tryd.func107 (by kernel_rfl) rfl #[.string (rdOf ByteArray.empty t171 0), .int .i64 (x4_1.length : Int)] rfl z13_2 ?_; (with_reducible refine (spec_l12Decode.calls kj3 (rdOf ByteArray.empty t171 0) (x4_1.length : Int) t175 t176 false _ A12.out).mono ?_); rintro e w32 ⟨rfl, hb⟩; refine ⟨_, rfl, ?_⟩; have n0_ := Aside0.mk (Kd.R_below z13_1 hb); have n1_ := Aside0.mk (Kd.R_below z13_4 hb); have n2_ := Aside0.mk (below_step z13_0 hb); clear HO_4; clear HO173; clear HB; have HO_4 := n0_; have HO173 := n1_; have HB := n2_; clear n0_ n1_ n2_; (try clear hb); (try clear hb2); (try clear hk); (try clear hi)) | ((with_reducible refine gate_dst (N := 7) rfl ?_); (try (refine gate_guard (by rfl) ?_; dsimp only)); refine box_event ?hg (N := 7) ?hd (cs := #[.string (⟨#[]⟩ : ByteArray), .string (⟨#[]⟩ : ByteArray)]) (t := 38) ?hr ?_; (case hd => rfl); (case hg => rfl); (case hr => first | (go_simp; done) | (go_simp; rfl)); intro gb178 hg w33 hbox hb; have n0_ := Aside0.mk (Kd.R_below (Kd.R_elderB z13_1 gb178 (Nat.le_of_eq hg.symm)) hb); have n1_ := Aside0.mk (Kd.R_below z13_4 hb); have n2_ := Aside0.mk (below_step z13_0 hb); have n3_ := Aside0.mk (hbox); have n4_ := Aside0.mk ((z13_9 : w.heap.size ≤ gb178)); have n5_ := Aside0.mk ((z13_9 : w.heap.size ≤ gb178)); clear HO_4; clear HO173; clear HB; have HO_4 := n0_; have HO173 := n1_; have HB := n2_; have BK178 := n3_; have GW178 := n4_; have GE178 := n5_; clear n0_ n1_ n2_ n3_ n4_ n5_; clear hb hbox hg; have hcz34_0 : w33.cell? ⟨gb178, 0, none⟩ = some (.string (⟨#[]⟩ : ByteArray)) := (blk_cell BK178.out 0).trans rfl; have hcz34_1 : w33.cell? ⟨gb178, 1, none⟩ = some (.string (⟨#[]⟩ : ByteArray)) := (blk_cell BK178.out 1).trans rfl; have hfz34_0 := blk_frozen BK178.out 0; have hfz34_1 := blk_frozen BK178.out 1))
                      go_ret2
                      exact ⟨_, z13_7, z13_8, z13_3⟩
                · rw [if_neg c11] at H
                  exact absurd H (by simp)
              · rw [if_neg c9] at H
                exact absurd H (by simp)
            · rw [if_neg c8] at H
              exact absurd H (by simp)
          · replace c7 := Bool.eq_false_iff.mpr c7
            subst c7
            have H1 : (some (x4_1, x5_1)) = some (r1, r2) := by rw [if_neg (show ¬ (false = true) by decide)] at H; exact H
            clear H
            have H := H1
            clear H1
            simp only [Option.some.injEq, Prod.mk.injEq] at H
            obtain ⟨rfl, rfl⟩ := H
            go_wp2
            go_ret2
            exact ⟨_, z13_7, z13_1, z13_0⟩
def spec_RecoverLog.f (k : Nat) (a0 : ByteArray) : Option (ByteArray × ByteArray × Int × Int × Bool) := if (a0.size : Int) > 30000 then (some ((⟨#[]⟩ : ByteArray), (⟨#[]⟩ : ByteArray), 0, 0, false)) else ((spec_l12Open.f k a0).bind fun bt184 => (if 0 ≤ bt184.2 then (if bt184.2 ≤ (a0.size : Int) then (some (a0.extract 0 (bt184.2 : Int).toNat, (⟨#[]⟩ : ByteArray), (bt184.1.length : Int), bt184.2, true)) else (none)) else (none)))
theorem spec_RecoverLog.mono : ∀ a0 k, LeO (spec_RecoverLog.f k a0) (spec_RecoverLog.f (k + 1) a0) := by
  intro a0 k
  unfold spec_RecoverLog.f
  repeat' first
      | (with_reducible exact spec_l12Open.mono _ _)
      | (with_reducible exact LeO.refl _)
      | (with_reducible exact LeO.none _)
      | (with_reducible refine LeO.ite ?_ ?_)
      | (with_reducible refine LeO.bind ?_ (fun _ => ?_))
      | exact spec_l12Open.mono _ _
      | exact LeO.none _
      | refine LeO.ite ?_ ?_
      | refine LeO.bind ?_ (fun _ => ?_)
set_option maxHeartbeats 8000000 in
set_option maxRecDepth 100000 in
theorem spec_RecoverLog.calls (k : Nat) (a0 : ByteArray) (r1 : ByteArray) (r2 : ByteArray) (r3 : Int) (r4 : Int) (r5 : Bool) (w : World) (h : spec_RecoverLog.f k a0 = some (r1, r2, r3, r4, r5)) :
    Calls Tryd.prog 27 #[.string a0] w fun e w' => e = .returned (.tuple #[.agg #[.string r1, .string r2, .int .i64 r3], .int .i64 r4, .bool r5]) ∧ Below w.heap.size w w' := by
  have hu42 := Tryd.underlying42
  have HB := Aside0.mk (Below.refl w.heap.size w)
  have H : (if (a0.size : Int) > 30000 then (some ((⟨#[]⟩ : ByteArray), (⟨#[]⟩ : ByteArray), 0, 0, false)) else ((spec_l12Open.f k a0).bind fun bt184 => (if 0 ≤ bt184.2 then (if bt184.2 ≤ (a0.size : Int) then (some (a0.extract 0 (bt184.2 : Int).toNat, (⟨#[]⟩ : ByteArray), (bt184.1.length : Int), bt184.2, true)) else (none)) else (none)))) = some (r1, r2, r3, r4, r5) := h
  clear h
  by_cases c2 : (a0.size : Int) > 30000
  · rw [if_pos c2] at H
    have c2b0 : decide (30000 < (a0.size : Int)) = true := decide_eq_true c2
    have c2b1 : decide (30000 < a0.size) = true := decide_eq_true (by omega)
    clear c2
    simp only [Option.some.injEq, Prod.mk.injEq] at H
    obtain ⟨rfl, rfl, rfl, rfl, rfl⟩ := H
    go_enter Tryd.func27, Tryd.ntmps27
    go_wp2_with (first | ((with_reducible refine gate_dst (N := 2) rfl ?_); refine box_event ?hg (N := 2) ?hd (cs := #[.string (⟨#[]⟩ : ByteArray), .string (⟨#[]⟩ : ByteArray), .int .i64 0]) (t := 42) ?hr ?_; (case hd => rfl); (case hg => rfl); (case hr => first | (go_simp; done) | (go_simp; rfl)); intro gb183 hg w3 hbox hb; have n0_ := Aside0.mk (below_step z13_0 hb); have n1_ := Aside0.mk (hbox); have n2_ := Aside0.mk ((z13_9 : w.heap.size ≤ gb183)); have n3_ := Aside0.mk ((z13_9 : w.heap.size ≤ gb183)); clear HB; have HB := n0_; have BK183 := n1_; have GW183 := n2_; have GE183 := n3_; clear n0_ n1_ n2_ n3_; clear hb hbox hg; have hcz4_0 : w3.cell? ⟨gb183, 0, none⟩ = some (.string (⟨#[]⟩ : ByteArray)) := (blk_cell BK183.out 0).trans rfl; have hcz4_1 : w3.cell? ⟨gb183, 1, none⟩ = some (.string (⟨#[]⟩ : ByteArray)) := (blk_cell BK183.out 1).trans rfl; have hcz4_2 : w3.cell? ⟨gb183, 2, none⟩ = some (.int .i64 0) := (blk_cell BK183.out 2).trans rfl; have hfz4_0 := blk_frozen BK183.out 0; have hfz4_1 := blk_frozen BK183.out 1; have hfz4_2 := blk_frozen BK183.out 2))
    refine bodyPost_ret (results_ctt rfl _ _ gb183 42 #[.string (⟨#[]⟩ : ByteArray), .string (⟨#[]⟩ : ByteArray), .int .i64 0] (0, 0) _ rfl (by (with_reducible repeat (first | refine blk_drewN ?_ _ | refine blk_drew ?_ | refine blk_alloc ?_ _)); refine blk_put (cs := #[.string (⟨#[]⟩ : ByteArray), .string (⟨#[]⟩ : ByteArray), .int .i64 0]) ?_ 2 _ rfl; (with_reducible repeat (first | refine blk_drewN ?_ _ | refine blk_drew ?_ | refine blk_alloc ?_ _)); refine blk_put (cs := #[.string (⟨#[]⟩ : ByteArray), .string (⟨#[]⟩ : ByteArray), .int .i64 0]) ?_ 1 _ rfl; (with_reducible repeat (first | refine blk_drewN ?_ _ | refine blk_drew ?_ | refine blk_alloc ?_ _)); refine blk_put (cs := #[.string (⟨#[]⟩ : ByteArray), .string (⟨#[]⟩ : ByteArray), .int .i64 0]) ?_ 0 _ rfl; (with_reducible repeat (first | refine blk_drewN ?_ _ | refine blk_drew ?_ | refine blk_alloc ?_ _)); exact BK183.out) Tryd.underlying42 rfl (by kernel_rfl)) rfl ?_
    exact ⟨z13_7, z13_6⟩
  · rw [if_neg c2] at H
    have c2b0 : decide (30000 < (a0.size : Int)) = false := decide_eq_false c2
    have c2b1 : decide (30000 < a0.size) = false := decide_eq_false (by omega)
    clear c2
    replace H := Option.bind_eq_some_iff.mp H
    obtain ⟨⟨t184, t185⟩, A50, H⟩ := H
    replace H : (if 0 ≤ t185 then (if t185 ≤ (a0.size : Int) then (some (a0.extract 0 (t185 : Int).toNat, (⟨#[]⟩ : ByteArray), (t184.length : Int), t185, true)) else (none)) else (none)) = some (r1, r2, r3, r4, r5) := H
    have A5 := Aside0.mk A50
    clear A50
    by_cases c6 : 0 ≤ t185
    · rw [if_pos c6] at H
      have c6b0 := eq_true c6
      have c6b1 : decide (0 ≤ t185) = true := decide_eq_true c6
      clear c6
      by_cases c7 : t185 ≤ (a0.size : Int)
      · rw [if_pos c7] at H
        have c7b0 := eq_true c7
        have c7b1 : decide (t185 ≤ (a0.size : Int)) = true := decide_eq_true c7
        clear c7
        simp only [Option.some.injEq, Prod.mk.injEq] at H
        obtain ⟨rfl, rfl, rfl, rfl, rfl⟩ := H
        go_enter Tryd.func27, Tryd.ntmps27
        go_wp2_with (first | ((with_reducible refine gate_dst (N := 2) rfl ?_); refine box_event ?hg (N := 2) ?hd (cs := #[.string (⟨#[]⟩ : ByteArray), .string (⟨#[]⟩ : ByteArray), .int .i64 0]) (t := 42) ?hr ?_; (case hd => rfl); (case hg => rfl); (case hr => first | (go_simp; done) | (go_simp; rfl)); intro gb183 hg w8 hbox hb; have n0_ := Aside0.mk (below_step z13_0 hb); have n1_ := Aside0.mk (hbox); have n2_ := Aside0.mk ((z13_9 : w.heap.size ≤ gb183)); have n3_ := Aside0.mk ((z13_9 : w.heap.size ≤ gb183)); clear HB; have HB := n0_; have BK183 := n1_; have GW183 := n2_; have GE183 := n3_; clear n0_ n1_ n2_ n3_; clear hb hbox hg) | ((with_reducible refine gate_callee (f := 79) rfl ?_); refine goesL_ (some 13) rfl rfl Tryd.func79 (by kernel_rfl) rfl #[.string a0] rfl z13_2 ?_; (with_reducible refine (spec_l12Open.calls k a0 t184 t185 _ A5.out).mono ?_); rintro e w9 ⟨v186, rfl, ho0, hb⟩; refine ⟨_, rfl, ?_⟩; have n0_ := Aside0.mk (Kd.R_lower ho0 (below_size z13_6)); have n1_ := Aside0.mk (blk_below (g := gb183) (o := .cells #[.string (⟨#[]⟩ : ByteArray), .string (⟨#[]⟩ : ByteArray), .int .i64 0] 42 (0, 0)) (by (with_reducible repeat (first | refine blk_drewN ?_ _ | refine blk_drew ?_ | refine blk_alloc ?_ _)); exact BK183.out) hb); have n2_ := Aside0.mk (below_step z13_6 hb); clear BK183; clear HB; have HO187 := n0_; have BK183 := n1_; have HB := n2_; clear n0_ n1_ n2_; (try clear hb); (try clear hb2); (try clear hk); (try clear hi); (try clear ho0); obtain ⟨Ao10, co10, eo10⟩ := Kd.R_slice HO187.out; subst eo10; have hcz11_0 : w9.cell? ⟨gb183, 0, none⟩ = some (.string (⟨#[]⟩ : ByteArray)) := (blk_cell BK183.out 0).trans rfl; have hcz11_1 : w9.cell? ⟨gb183, 1, none⟩ = some (.string (⟨#[]⟩ : ByteArray)) := (blk_cell BK183.out 1).trans rfl; have hcz11_2 : w9.cell? ⟨gb183, 2, none⟩ = some (.int .i64 0) := (blk_cell BK183.out 2).trans rfl; have hfz11_0 := blk_frozen BK183.out 0; have hfz11_1 := blk_frozen BK183.out 1; have hfz11_2 := blk_frozen BK183.out 2))
        refine bodyPost_ret (results_ctt rfl _ _ gb183 42 #[.string (a0.extract 0 (t185 : Int).toNat), .string (⟨#[]⟩ : ByteArray), .int .i64 (t184.length : Int)] (0, 0) _ rfl (by (with_reducible repeat (first | refine blk_drewN ?_ _ | refine blk_drew ?_ | refine blk_alloc ?_ _)); refine blk_put (cs := #[.string (a0.extract 0 (t185 : Int).toNat), .string (⟨#[]⟩ : ByteArray), .int .i64 0]) ?_ 2 _ rfl; (with_reducible repeat (first | refine blk_drewN ?_ _ | refine blk_drew ?_ | refine blk_alloc ?_ _)); refine blk_put (cs := #[.string (a0.extract 0 (t185 : Int).toNat), .string (⟨#[]⟩ : ByteArray), .int .i64 0]) ?_ 1 _ rfl; (with_reducible repeat (first | refine blk_drewN ?_ _ | refine blk_drew ?_ | refine blk_alloc ?_ _)); refine blk_put (cs := #[.string (⟨#[]⟩ : ByteArray), .string (⟨#[]⟩ : ByteArray), .int .i64 0]) ?_ 0 _ rfl; (with_reducible repeat (first | refine blk_drewN ?_ _ | refine blk_drew ?_ | refine blk_alloc ?_ _)); exact BK183.out) Tryd.underlying42 rfl (by kernel_rfl)) rfl ?_
        exact ⟨z13_7, z13_6⟩
      · rw [if_neg c7] at H
        exact absurd H (by simp)
    · rw [if_neg c6] at H
      exact absurd H (by simp)
end Go.Proofs.YtgclcjohnnpejaaDoor.Pr
end

section
namespace Go.Proofs.YtgclcjohnnpejaaDoor.Pr
open Go.RowKit Go.Proofs.YtgclcjohnnpejaaDoorW.PrintWords Go.Proofs.YtgclcjohnnpejaaDoorW.PrintLast Go.Proofs.YtgclcjohnnpejaaDoorW.PrintMore
attribute [local go_sem] max2_int min2_int max_two min_two max_three min_three max_four min_four
set_option linter.unusedVariables false
set_option linter.unusedSimpArgs false
theorem z16_0 {P : Prop} (h : P := by repeat (first | (with_reducible first | exact HB.out | apply below_alloc | apply pw_below_drewN | apply below_drew1 | refine below_set ?_ GE244.out) | exact HB.out)) : P := h
theorem z16_1 {P : Prop} (h : P := by repeat (first | (with_reducible first | exact HB.out | apply below_alloc | apply pw_below_drewN | apply below_drew1) | exact HB.out)) : P := h
theorem z16_2 {P : Prop} (h : P := by repeat (first | (with_reducible first | exact HB.out | apply below_alloc | apply pw_below_drewN | apply below_drew1 | refine below_set ?_ GE230.out) | exact HB.out)) : P := h
theorem z16_3 {P : Prop} (h : P := by (with_reducible repeat (first | refine blk_drewN ?_ _ | refine blk_drew ?_ | refine blk_alloc ?_ _)); exact BK244.out) : P := h
theorem z16_4 {P : Prop} (h : P := by (with_reducible repeat (first | apply Kd.R_alloc | apply Kd.R_drewN | apply Kd.R_drew)); exact HO248.out) : P := h
theorem z16_5 {P : Prop} (h : P := by rw [hg]; exact (below_size z16_1)) : P := h
theorem z16_6 {P : Prop} (h : P := by first | rfl | (simp [errW_none, errW_some] <;> rfl) | (simp [*, errW_none, errW_some] <;> rfl)) : P := h
theorem z16_7 {P : Prop} (h : P := by (try simp only [List.map_toArray, List.map_cons, List.map_nil]); first | done | rfl | (simp only [List.length_drop, List.length_take]; rfl)) : P := h
theorem z16_8 {P : Prop} (h : P := by (with_reducible repeat (first | refine blk_drewN ?_ _ | refine blk_drew ?_ | refine blk_alloc ?_ _)); exact BK230.out) : P := h
theorem z16_9 {P : Prop} (h : P := by (with_reducible repeat (first | refine blk_drewN ?_ _ | refine blk_drew ?_ | refine blk_alloc ?_ _)); exact BK241.out) : P := h
theorem z16_10 {P : Prop} (h : P := by (with_reducible repeat (first | apply Kd.R_alloc | apply Kd.R_drewN | apply Kd.R_drew)); exact HO234.out) : P := h
theorem z16_11 {P : Prop} (h : P := by repeat (first | (with_reducible first | exact HB.out | apply below_alloc | apply pw_below_drewN | apply below_drew1 | refine below_set ?_ GE253.out) | exact HB.out)) : P := h
theorem z16_12 {P : Prop} (h : P := by repeat (first | (with_reducible first | exact HB.out | apply below_alloc | apply pw_below_drewN | apply below_drew1 | refine below_set ?_ GE241.out | refine below_set ?_ GE242.out) | exact HB.out)) : P := h
theorem z16_13 {P : Prop} (h : P := by repeat (first | (with_reducible first | exact HB.out | apply below_alloc | apply pw_below_drewN | apply below_drew1 | refine below_set ?_ GE229.out) | exact HB.out)) : P := h
theorem z16_14 {P : Prop} (h : P := by repeat (first | (with_reducible first | exact HB.out | apply below_alloc | apply pw_below_drewN | apply below_drew1 | refine below_set ?_ GE241.out) | exact HB.out)) : P := h
theorem z16_15 {P : Prop} (h : P := by (with_reducible repeat (first | apply Kd.R_alloc | apply Kd.R_drewN | apply Kd.R_drew)); exact Kd.R_mono HO248.out (fun _ hk => trivial)) : P := h
theorem z16_16 {P : Prop} (h : P := by (with_reducible repeat (first | refine blk_drewN ?_ _ | refine blk_drew ?_ | refine blk_alloc ?_ _)); exact BK242.out) : P := h
def laws_szLog.f (a0_0 : ByteArray) (a0_1 : ByteArray) (a0_2 : Int) (a1 : Int) : Option (Int) := if (wrap64 (a1 - (a0_0.size : Int))) < 0 then (some (-1)) else (if (wrap64 ((wrap64 (a1 - (a0_0.size : Int))) - (a0_1.size : Int))) < 0 then (some (-1)) else (some (wrap64 ((wrap64 (a1 - (a0_0.size : Int))) - (a0_1.size : Int)))))
set_option maxHeartbeats 8000000 in
set_option maxRecDepth 100000 in
theorem laws_szLog.calls (a0_0 : ByteArray) (a0_1 : ByteArray) (a0_2 : Int) (a1 : Int) (r : Int) (w : World) (h : laws_szLog.f a0_0 a0_1 a0_2 a1 = some r) :
    Calls Tryd.prog 30 #[.agg #[.string a0_0, .string a0_1, .int .i64 a0_2], .int .i64 a1] w fun e w' => e = .returned (.int .i64 r) ∧ Below w.heap.size w w' := by
  have hu47 := Tryd.underlying47
  have HB := Aside0.mk (Below.refl w.heap.size w)
  have H : (if (wrap64 (a1 - (a0_0.size : Int))) < 0 then (some (-1)) else (if (wrap64 ((wrap64 (a1 - (a0_0.size : Int))) - (a0_1.size : Int))) < 0 then (some (-1)) else (some (wrap64 ((wrap64 (a1 - (a0_0.size : Int))) - (a0_1.size : Int)))))) = some r := h
  clear h
  by_cases c3 : (wrap64 (a1 - (a0_0.size : Int))) < 0
  · rw [if_pos c3] at H
    have c3b0 : decide ((wrap64 (a1 - (a0_0.size : Int))) < 0) = true := decide_eq_true c3
    clear c3
    obtain rfl := Option.some.inj H
    go_enter Tryd.func30, Tryd.ntmps30
    go_wp2_with (first | ((with_reducible refine gate_dst (N := 2) rfl ?_); refine box_event ?hg (N := 2) ?hd (cs := #[.string a0_0, .string a0_1, .int .i64 a0_2]) (t := 47) ?hr ?_; (case hd => rfl); (case hg => rfl); (case hr => first | (go_simp; done) | (go_simp; rfl)); intro gb229 hg w4 hbox hb; have n0_ := Aside0.mk (below_step z16_1 hb); have n1_ := Aside0.mk (hbox); have n2_ := Aside0.mk ((z16_5 : w.heap.size ≤ gb229)); have n3_ := Aside0.mk ((z16_5 : w.heap.size ≤ gb229)); clear HB; have HB := n0_; have BK229 := n1_; have GW229 := n2_; have GE229 := n3_; clear n0_ n1_ n2_ n3_; clear hb hbox hg; have hcz5_0 : w4.cell? ⟨gb229, 0, none⟩ = some (.string a0_0) := (blk_cell BK229.out 0).trans rfl; have hcz5_1 : w4.cell? ⟨gb229, 1, none⟩ = some (.string a0_1) := (blk_cell BK229.out 1).trans rfl; have hcz5_2 : w4.cell? ⟨gb229, 2, none⟩ = some (.int .i64 a0_2) := (blk_cell BK229.out 2).trans rfl; have hfz5_0 := blk_frozen BK229.out 0; have hfz5_1 := blk_frozen BK229.out 1; have hfz5_2 := blk_frozen BK229.out 2))
    go_ret
    exact ⟨z16_6, z16_13⟩
  · rw [if_neg c3] at H
    have c3b0 : decide ((wrap64 (a1 - (a0_0.size : Int))) < 0) = false := decide_eq_false c3
    clear c3
    by_cases c6 : (wrap64 ((wrap64 (a1 - (a0_0.size : Int))) - (a0_1.size : Int))) < 0
    · rw [if_pos c6] at H
      have c6b0 : decide ((wrap64 ((wrap64 (a1 - (a0_0.size : Int))) - (a0_1.size : Int))) < 0) = true := decide_eq_true c6
      clear c6
      obtain rfl := Option.some.inj H
      go_enter Tryd.func30, Tryd.ntmps30
      go_wp2_with (first | ((with_reducible refine gate_dst (N := 2) rfl ?_); refine box_event ?hg (N := 2) ?hd (cs := #[.string a0_0, .string a0_1, .int .i64 a0_2]) (t := 47) ?hr ?_; (case hd => rfl); (case hg => rfl); (case hr => first | (go_simp; done) | (go_simp; rfl)); intro gb229 hg w7 hbox hb; have n0_ := Aside0.mk (below_step z16_1 hb); have n1_ := Aside0.mk (hbox); have n2_ := Aside0.mk ((z16_5 : w.heap.size ≤ gb229)); have n3_ := Aside0.mk ((z16_5 : w.heap.size ≤ gb229)); clear HB; have HB := n0_; have BK229 := n1_; have GW229 := n2_; have GE229 := n3_; clear n0_ n1_ n2_ n3_; clear hb hbox hg; have hcz8_0 : w7.cell? ⟨gb229, 0, none⟩ = some (.string a0_0) := (blk_cell BK229.out 0).trans rfl; have hcz8_1 : w7.cell? ⟨gb229, 1, none⟩ = some (.string a0_1) := (blk_cell BK229.out 1).trans rfl; have hcz8_2 : w7.cell? ⟨gb229, 2, none⟩ = some (.int .i64 a0_2) := (blk_cell BK229.out 2).trans rfl; have hfz8_0 := blk_frozen BK229.out 0; have hfz8_1 := blk_frozen BK229.out 1; have hfz8_2 := blk_frozen BK229.out 2))
      go_ret
      exact ⟨z16_6, z16_13⟩
    · rw [if_neg c6] at H
      have c6b0 : decide ((wrap64 ((wrap64 (a1 - (a0_0.size : Int))) - (a0_1.size : Int))) < 0) = false := decide_eq_false c6
      clear c6
      obtain rfl := Option.some.inj H
      go_enter Tryd.func30, Tryd.ntmps30
      go_wp2_with (first | ((with_reducible refine gate_dst (N := 2) rfl ?_); refine box_event ?hg (N := 2) ?hd (cs := #[.string a0_0, .string a0_1, .int .i64 a0_2]) (t := 47) ?hr ?_; (case hd => rfl); (case hg => rfl); (case hr => first | (go_simp; done) | (go_simp; rfl)); intro gb229 hg w9 hbox hb; have n0_ := Aside0.mk (below_step z16_1 hb); have n1_ := Aside0.mk (hbox); have n2_ := Aside0.mk ((z16_5 : w.heap.size ≤ gb229)); have n3_ := Aside0.mk ((z16_5 : w.heap.size ≤ gb229)); clear HB; have HB := n0_; have BK229 := n1_; have GW229 := n2_; have GE229 := n3_; clear n0_ n1_ n2_ n3_; clear hb hbox hg; have hcz10_0 : w9.cell? ⟨gb229, 0, none⟩ = some (.string a0_0) := (blk_cell BK229.out 0).trans rfl; have hcz10_1 : w9.cell? ⟨gb229, 1, none⟩ = some (.string a0_1) := (blk_cell BK229.out 1).trans rfl; have hcz10_2 : w9.cell? ⟨gb229, 2, none⟩ = some (.int .i64 a0_2) := (blk_cell BK229.out 2).trans rfl; have hfz10_0 := blk_frozen BK229.out 0; have hfz10_1 := blk_frozen BK229.out 1; have hfz10_2 := blk_frozen BK229.out 2))
      go_ret
      exact ⟨z16_6, z16_13⟩
def spec_l12Valid.f (k : Nat) (a0_0 : ByteArray) (a0_1 : ByteArray) (a0_2 : Int) : Option (Bool) := if (wrap64 ((a0_0.size : Int) + (a0_1.size : Int))) > 30000 then (some false) else (if a0_0.size + a0_1.size ≤ 9223372036854775807 then ((spec_l12Open.f k (a0_0 ++ a0_1)).bind fun bt231 => ((spec_l12Open.f k a0_0).bind fun bt235 => (if bt231.2 = (wrap64 ((a0_0.size : Int) + (a0_1.size : Int))) then (if bt235.2 = (a0_0.size : Int) then (some ((bt231.1.length : Int) == a0_2)) else (some false)) else (some false)))) else (none))
theorem spec_l12Valid.mono : ∀ a0 a1 a2 k, LeO (spec_l12Valid.f k a0 a1 a2) (spec_l12Valid.f (k + 1) a0 a1 a2) := by
  intro a0 a1 a2 k
  unfold spec_l12Valid.f
  repeat' first
      | (with_reducible exact spec_l12Open.mono _ _)
      | (with_reducible exact LeO.refl _)
      | (with_reducible exact LeO.none _)
      | (with_reducible refine LeO.ite ?_ ?_)
      | (with_reducible refine LeO.bind ?_ (fun _ => ?_))
      | exact spec_l12Open.mono _ _
      | exact LeO.none _
      | refine LeO.ite ?_ ?_
      | refine LeO.bind ?_ (fun _ => ?_)
set_option maxHeartbeats 8000000 in
set_option maxRecDepth 100000 in
theorem spec_l12Valid.calls (k : Nat) (a0_0 : ByteArray) (a0_1 : ByteArray) (a0_2 : Int) (r : Bool) (w : World) (h : spec_l12Valid.f k a0_0 a0_1 a0_2 = some r) :
    Calls Tryd.prog 81 #[.agg #[.string a0_0, .string a0_1, .int .i64 a0_2]] w fun e w' => e = .returned (.bool r) ∧ Below w.heap.size w w' := by
  have hu42 := Tryd.underlying42
  have HB := Aside0.mk (Below.refl w.heap.size w)
  have H : (if (wrap64 ((a0_0.size : Int) + (a0_1.size : Int))) > 30000 then (some false) else (if a0_0.size + a0_1.size ≤ 9223372036854775807 then ((spec_l12Open.f k (a0_0 ++ a0_1)).bind fun bt231 => ((spec_l12Open.f k a0_0).bind fun bt235 => (if bt231.2 = (wrap64 ((a0_0.size : Int) + (a0_1.size : Int))) then (if bt235.2 = (a0_0.size : Int) then (some ((bt231.1.length : Int) == a0_2)) else (some false)) else (some false)))) else (none))) = some r := h
  clear h
  by_cases c2 : (wrap64 ((a0_0.size : Int) + (a0_1.size : Int))) > 30000
  · rw [if_pos c2] at H
    have c2b0 : decide (30000 < (wrap64 ((a0_0.size : Int) + (a0_1.size : Int)))) = true := decide_eq_true c2
    clear c2
    obtain rfl := Option.some.inj H
    (try (have hz_ : wrap64 ((a0_0.size : Int) + (a0_1.size : Int)) = (a0_0.size : Int) + (a0_1.size : Int) := (by unfold wrap64; omega); simp only [hz_] at c2b0; clear hz_))
    go_enter Tryd.func81, Tryd.ntmps81
    go_wp2_with (first | ((with_reducible refine gate_dst (N := 1) rfl ?_); (try (refine gate_guard (by rfl) ?_; dsimp only)); refine box_event ?hg (N := 1) ?hd (cs := #[.string a0_0, .string a0_1, .int .i64 a0_2]) (t := 42) ?hr ?_; (case hd => rfl); (case hg => rfl); (case hr => first | (go_simp; done) | (go_simp; rfl)); intro gb230 hg w3 hbox hb; have n0_ := Aside0.mk (below_step z16_1 hb); have n1_ := Aside0.mk (hbox); have n2_ := Aside0.mk ((z16_5 : w.heap.size ≤ gb230)); have n3_ := Aside0.mk ((z16_5 : w.heap.size ≤ gb230)); clear HB; have HB := n0_; have BK230 := n1_; have GW230 := n2_; have GE230 := n3_; clear n0_ n1_ n2_ n3_; clear hb hbox hg; have hcz4_0 : w3.cell? ⟨gb230, 0, none⟩ = some (.string a0_0) := (blk_cell BK230.out 0).trans rfl; have hcz4_1 : w3.cell? ⟨gb230, 1, none⟩ = some (.string a0_1) := (blk_cell BK230.out 1).trans rfl; have hcz4_2 : w3.cell? ⟨gb230, 2, none⟩ = some (.int .i64 a0_2) := (blk_cell BK230.out 2).trans rfl; have hfz4_0 := blk_frozen BK230.out 0; have hfz4_1 := blk_frozen BK230.out 1; have hfz4_2 := blk_frozen BK230.out 2))
    go_ret
    exact ⟨z16_6, z16_2⟩
  · rw [if_neg c2] at H
    have c2b0 : decide (30000 < (wrap64 ((a0_0.size : Int) + (a0_1.size : Int)))) = false := decide_eq_false c2
    clear c2
    by_cases c5 : a0_0.size + a0_1.size ≤ 9223372036854775807
    · rw [if_pos c5] at H
      have c5b0 := eq_true c5
      have c5b1 : decide (a0_0.size + a0_1.size ≤ 9223372036854775807) = true := decide_eq_true c5
      try have c5b2 : (9223372036854775807 < a0_0.size + a0_1.size) = False := eq_false (Nat.not_lt.2 c5)
      replace H := Option.bind_eq_some_iff.mp H
      obtain ⟨⟨t231, t232⟩, A60, H⟩ := H
      replace H : ((spec_l12Open.f k a0_0).bind fun bt235 => (if t232 = (wrap64 ((a0_0.size : Int) + (a0_1.size : Int))) then (if bt235.2 = (a0_0.size : Int) then (some ((t231.length : Int) == a0_2)) else (some false)) else (some false))) = some r := H
      have A6 := Aside0.mk A60
      clear A60
      replace H := Option.bind_eq_some_iff.mp H
      obtain ⟨⟨t235, t236⟩, A70, H⟩ := H
      replace H : (if t232 = (wrap64 ((a0_0.size : Int) + (a0_1.size : Int))) then (if t236 = (a0_0.size : Int) then (some ((t231.length : Int) == a0_2)) else (some false)) else (some false)) = some r := H
      have A7 := Aside0.mk A70
      clear A70
      by_cases c8 : t232 = (wrap64 ((a0_0.size : Int) + (a0_1.size : Int)))
      · rw [if_pos c8] at H
        have c8b0 : (t232 == (wrap64 ((a0_0.size : Int) + (a0_1.size : Int)))) = true := beq_iff_eq.mpr c8
        have c8b1 : (t232 != (wrap64 ((a0_0.size : Int) + (a0_1.size : Int)))) = false := bne_eq_false_iff_eq.mpr c8
        clear c8
        by_cases c9 : t236 = (a0_0.size : Int)
        · rw [if_pos c9] at H
          have c9b0 : (t236 == (a0_0.size : Int)) = true := beq_iff_eq.mpr c9
          have c9b1 : (t236 != (a0_0.size : Int)) = false := bne_eq_false_iff_eq.mpr c9
          clear c9
          obtain rfl := Option.some.inj H
          (try (have hz_ : wrap64 ((a0_0.size : Int) + (a0_1.size : Int)) = (a0_0.size : Int) + (a0_1.size : Int) := (by unfold wrap64; omega); simp only [hz_] at c2b0 c8b0 c8b1; clear hz_))
          go_enter Tryd.func81, Tryd.ntmps81
          go_wp2_with (first | ((with_reducible refine gate_dst (N := 1) rfl ?_); (try (refine gate_guard (by rfl) ?_; dsimp only)); refine box_event ?hg (N := 1) ?hd (cs := #[.string a0_0, .string a0_1, .int .i64 a0_2]) (t := 42) ?hr ?_; (case hd => rfl); (case hg => rfl); (case hr => first | (go_simp; done) | (go_simp; rfl)); intro gb230 hg w10 hbox hb; have n0_ := Aside0.mk (below_step z16_1 hb); have n1_ := Aside0.mk (hbox); have n2_ := Aside0.mk ((z16_5 : w.heap.size ≤ gb230)); have n3_ := Aside0.mk ((z16_5 : w.heap.size ≤ gb230)); clear HB; have HB := n0_; have BK230 := n1_; have GW230 := n2_; have GE230 := n3_; clear n0_ n1_ n2_ n3_; clear hb hbox hg; have hcz11_0 : w10.cell? ⟨gb230, 0, none⟩ = some (.string a0_0) := (blk_cell BK230.out 0).trans rfl; have hcz11_1 : w10.cell? ⟨gb230, 1, none⟩ = some (.string a0_1) := (blk_cell BK230.out 1).trans rfl; have hcz11_2 : w10.cell? ⟨gb230, 2, none⟩ = some (.int .i64 a0_2) := (blk_cell BK230.out 2).trans rfl; have hfz11_0 := blk_frozen BK230.out 0; have hfz11_1 := blk_frozen BK230.out 1; have hfz11_2 := blk_frozen BK230.out 2) | ((with_reducible refine gate_callee (f := 79) rfl ?_); refine goesL_ (some 21) rfl rfl Tryd.func79 (by kernel_rfl) rfl #[.string (a0_0 ++ a0_1)] rfl z16_7 ?_; (with_reducible refine (spec_l12Open.calls k (a0_0 ++ a0_1) t231 t232 _ A6.out).mono ?_); rintro e w12 ⟨v233, rfl, ho0, hb⟩; refine ⟨_, rfl, ?_⟩; have n0_ := Aside0.mk (Kd.R_lower ho0 (below_size z16_2)); have n1_ := Aside0.mk (blk_below (g := gb230) (o := .cells #[.string a0_0, .string a0_1, .int .i64 a0_2] 42 (0, 0)) z16_8 hb); have n2_ := Aside0.mk (below_step z16_2 hb); clear BK230; clear HB; have HO234 := n0_; have BK230 := n1_; have HB := n2_; clear n0_ n1_ n2_; (try clear hb); (try clear hb2); (try clear hk); (try clear hi); (try clear ho0); have hcz13_0 : w12.cell? ⟨gb230, 0, none⟩ = some (.string a0_0) := (blk_cell BK230.out 0).trans rfl; have hcz13_1 : w12.cell? ⟨gb230, 1, none⟩ = some (.string a0_1) := (blk_cell BK230.out 1).trans rfl; have hcz13_2 : w12.cell? ⟨gb230, 2, none⟩ = some (.int .i64 a0_2) := (blk_cell BK230.out 2).trans rfl; have hfz13_0 := blk_frozen BK230.out 0; have hfz13_1 := blk_frozen BK230.out 1; have hfz13_2 := blk_frozen BK230.out 2) | ((with_reducible refine gate_callee (f := 79) rfl ?_); refine goesL_ (some 27) rfl rfl Tryd.func79 (by kernel_rfl) rfl #[.string a0_0] rfl z16_7 ?_; (with_reducible refine (spec_l12Open.calls k a0_0 t235 t236 _ A7.out).mono ?_); rintro e w14 ⟨v237, rfl, ho0, hb⟩; refine ⟨_, rfl, ?_⟩; have n0_ := Aside0.mk (Kd.R_elder' z16_10 (Kd.R_base ho0) hb); have n1_ := Aside0.mk (Kd.R_lower (Kd.R_new' ho0 (Kd.R_lt z16_10)) (below_size z16_2)); have n2_ := Aside0.mk (blk_below (g := gb230) (o := .cells #[.string a0_0, .string a0_1, .int .i64 a0_2] 42 (0, 0)) z16_8 hb); have n3_ := Aside0.mk (below_step z16_2 hb); clear HO234; clear BK230; clear HB; have HO234 := n0_; have HO238 := n1_; have BK230 := n2_; have HB := n3_; clear n0_ n1_ n2_ n3_; (try clear hb); (try clear hb2); (try clear hk); (try clear hi); (try clear ho0); have hcz15_0 : w14.cell? ⟨gb230, 0, none⟩ = some (.string a0_0) := (blk_cell BK230.out 0).trans rfl; have hcz15_1 : w14.cell? ⟨gb230, 1, none⟩ = some (.string a0_1) := (blk_cell BK230.out 1).trans rfl; have hcz15_2 : w14.cell? ⟨gb230, 2, none⟩ = some (.int .i64 a0_2) := (blk_cell BK230.out 2).trans rfl; have hfz15_0 := blk_frozen BK230.out 0; have hfz15_1 := blk_frozen BK230.out 1; have hfz15_2 := blk_frozen BK230.out 2; obtain ⟨Ao16, co16, eo16⟩ := Kd.R_slice HO234.out; subst eo16))
          go_ret
          exact ⟨z16_6, z16_2⟩
        · rw [if_neg c9] at H
          have c9b0 : (t236 == (a0_0.size : Int)) = false := beq_eq_false_iff_ne.mpr c9
          have c9b1 : (t236 != (a0_0.size : Int)) = true := bne_iff_ne.mpr c9
          obtain rfl := Option.some.inj H
          (try (have hz_ : wrap64 ((a0_0.size : Int) + (a0_1.size : Int)) = (a0_0.size : Int) + (a0_1.size : Int) := (by unfold wrap64; omega); simp only [hz_] at c2b0 c8b0 c8b1; clear hz_))
          go_enter Tryd.func81, Tryd.ntmps81
          go_wp2_with (first | ((with_reducible refine gate_dst (N := 1) rfl ?_); (try (refine gate_guard (by rfl) ?_; dsimp only)); refine box_event ?hg (N := 1) ?hd (cs := #[.string a0_0, .string a0_1, .int .i64 a0_2]) (t := 42) ?hr ?_; (case hd => rfl); (case hg => rfl); (case hr => first | (go_simp; done) | (go_simp; rfl)); intro gb230 hg w17 hbox hb; have n0_ := Aside0.mk (below_step z16_1 hb); have n1_ := Aside0.mk (hbox); have n2_ := Aside0.mk ((z16_5 : w.heap.size ≤ gb230)); have n3_ := Aside0.mk ((z16_5 : w.heap.size ≤ gb230)); clear HB; have HB := n0_; have BK230 := n1_; have GW230 := n2_; have GE230 := n3_; clear n0_ n1_ n2_ n3_; clear hb hbox hg; have hcz18_0 : w17.cell? ⟨gb230, 0, none⟩ = some (.string a0_0) := (blk_cell BK230.out 0).trans rfl; have hcz18_1 : w17.cell? ⟨gb230, 1, none⟩ = some (.string a0_1) := (blk_cell BK230.out 1).trans rfl; have hcz18_2 : w17.cell? ⟨gb230, 2, none⟩ = some (.int .i64 a0_2) := (blk_cell BK230.out 2).trans rfl; have hfz18_0 := blk_frozen BK230.out 0; have hfz18_1 := blk_frozen BK230.out 1; have hfz18_2 := blk_frozen BK230.out 2) | ((with_reducible refine gate_callee (f := 79) rfl ?_); refine goesL_ (some 21) rfl rfl Tryd.func79 (by kernel_rfl) rfl #[.string (a0_0 ++ a0_1)] rfl z16_7 ?_; (with_reducible refine (spec_l12Open.calls k (a0_0 ++ a0_1) t231 t232 _ A6.out).mono ?_); rintro e w19 ⟨v233, rfl, ho0, hb⟩; refine ⟨_, rfl, ?_⟩; have n0_ := Aside0.mk (Kd.R_lower ho0 (below_size z16_2)); have n1_ := Aside0.mk (blk_below (g := gb230) (o := .cells #[.string a0_0, .string a0_1, .int .i64 a0_2] 42 (0, 0)) z16_8 hb); have n2_ := Aside0.mk (below_step z16_2 hb); clear BK230; clear HB; have HO234 := n0_; have BK230 := n1_; have HB := n2_; clear n0_ n1_ n2_; (try clear hb); (try clear hb2); (try clear hk); (try clear hi); (try clear ho0); have hcz20_0 : w19.cell? ⟨gb230, 0, none⟩ = some (.string a0_0) := (blk_cell BK230.out 0).trans rfl; have hcz20_1 : w19.cell? ⟨gb230, 1, none⟩ = some (.string a0_1) := (blk_cell BK230.out 1).trans rfl; have hcz20_2 : w19.cell? ⟨gb230, 2, none⟩ = some (.int .i64 a0_2) := (blk_cell BK230.out 2).trans rfl; have hfz20_0 := blk_frozen BK230.out 0; have hfz20_1 := blk_frozen BK230.out 1; have hfz20_2 := blk_frozen BK230.out 2) | ((with_reducible refine gate_callee (f := 79) rfl ?_); refine goesL_ (some 27) rfl rfl Tryd.func79 (by kernel_rfl) rfl #[.string a0_0] rfl z16_7 ?_; (with_reducible refine (spec_l12Open.calls k a0_0 t235 t236 _ A7.out).mono ?_); rintro e w21 ⟨v237, rfl, ho0, hb⟩; refine ⟨_, rfl, ?_⟩; have n0_ := Aside0.mk (Kd.R_elder' z16_10 (Kd.R_base ho0) hb); have n1_ := Aside0.mk (Kd.R_lower (Kd.R_new' ho0 (Kd.R_lt z16_10)) (below_size z16_2)); have n2_ := Aside0.mk (blk_below (g := gb230) (o := .cells #[.string a0_0, .string a0_1, .int .i64 a0_2] 42 (0, 0)) z16_8 hb); have n3_ := Aside0.mk (below_step z16_2 hb); clear HO234; clear BK230; clear HB; have HO234 := n0_; have HO238 := n1_; have BK230 := n2_; have HB := n3_; clear n0_ n1_ n2_ n3_; (try clear hb); (try clear hb2); (try clear hk); (try clear hi); (try clear ho0); have hcz22_0 : w21.cell? ⟨gb230, 0, none⟩ = some (.string a0_0) := (blk_cell BK230.out 0).trans rfl; have hcz22_1 : w21.cell? ⟨gb230, 1, none⟩ = some (.string a0_1) := (blk_cell BK230.out 1).trans rfl; have hcz22_2 : w21.cell? ⟨gb230, 2, none⟩ = some (.int .i64 a0_2) := (blk_cell BK230.out 2).trans rfl; have hfz22_0 := blk_frozen BK230.out 0; have hfz22_1 := blk_frozen BK230.out 1; have hfz22_2 := blk_frozen BK230.out 2))
          go_ret
          exact ⟨z16_6, z16_2⟩
      · rw [if_neg c8] at H
        have c8b0 : (t232 == (wrap64 ((a0_0.size : Int) + (a0_1.size : Int)))) = false := beq_eq_false_iff_ne.mpr c8
        have c8b1 : (t232 != (wrap64 ((a0_0.size : Int) + (a0_1.size : Int)))) = true := bne_iff_ne.mpr c8
        obtain rfl := Option.some.inj H
        (try (have hz_ : wrap64 ((a0_0.size : Int) + (a0_1.size : Int)) = (a0_0.size : Int) + (a0_1.size : Int) := (by unfold wrap64; omega); simp only [hz_] at c2b0 c8b0 c8b1; clear hz_))
        go_enter Tryd.func81, Tryd.ntmps81
        go_wp2_with (first | ((with_reducible refine gate_dst (N := 1) rfl ?_); (try (refine gate_guard (by rfl) ?_; dsimp only)); refine box_event ?hg (N := 1) ?hd (cs := #[.string a0_0, .string a0_1, .int .i64 a0_2]) (t := 42) ?hr ?_; (case hd => rfl); (case hg => rfl); (case hr => first | (go_simp; done) | (go_simp; rfl)); intro gb230 hg w23 hbox hb; have n0_ := Aside0.mk (below_step z16_1 hb); have n1_ := Aside0.mk (hbox); have n2_ := Aside0.mk ((z16_5 : w.heap.size ≤ gb230)); have n3_ := Aside0.mk ((z16_5 : w.heap.size ≤ gb230)); clear HB; have HB := n0_; have BK230 := n1_; have GW230 := n2_; have GE230 := n3_; clear n0_ n1_ n2_ n3_; clear hb hbox hg; have hcz24_0 : w23.cell? ⟨gb230, 0, none⟩ = some (.string a0_0) := (blk_cell BK230.out 0).trans rfl; have hcz24_1 : w23.cell? ⟨gb230, 1, none⟩ = some (.string a0_1) := (blk_cell BK230.out 1).trans rfl; have hcz24_2 : w23.cell? ⟨gb230, 2, none⟩ = some (.int .i64 a0_2) := (blk_cell BK230.out 2).trans rfl; have hfz24_0 := blk_frozen BK230.out 0; have hfz24_1 := blk_frozen BK230.out 1; have hfz24_2 := blk_frozen BK230.out 2) | ((with_reducible refine gate_callee (f := 79) rfl ?_); refine goesL_ (some 21) rfl rfl Tryd.func79 (by kernel_rfl) rfl #[.string (a0_0 ++ a0_1)] rfl z16_7 ?_; (with_reducible refine (spec_l12Open.calls k (a0_0 ++ a0_1) t231 t232 _ A6.out).mono ?_); rintro e w25 ⟨v233, rfl, ho0, hb⟩; refine ⟨_, rfl, ?_⟩; have n0_ := Aside0.mk (Kd.R_lower ho0 (below_size z16_2)); have n1_ := Aside0.mk (blk_below (g := gb230) (o := .cells #[.string a0_0, .string a0_1, .int .i64 a0_2] 42 (0, 0)) z16_8 hb); have n2_ := Aside0.mk (below_step z16_2 hb); clear BK230; clear HB; have HO234 := n0_; have BK230 := n1_; have HB := n2_; clear n0_ n1_ n2_; (try clear hb); (try clear hb2); (try clear hk); (try clear hi); (try clear ho0); have hcz26_0 : w25.cell? ⟨gb230, 0, none⟩ = some (.string a0_0) := (blk_cell BK230.out 0).trans rfl; have hcz26_1 : w25.cell? ⟨gb230, 1, none⟩ = some (.string a0_1) := (blk_cell BK230.out 1).trans rfl; have hcz26_2 : w25.cell? ⟨gb230, 2, none⟩ = some (.int .i64 a0_2) := (blk_cell BK230.out 2).trans rfl; have hfz26_0 := blk_frozen BK230.out 0; have hfz26_1 := blk_frozen BK230.out 1; have hfz26_2 := blk_frozen BK230.out 2) | ((with_reducible refine gate_callee (f := 79) rfl ?_); refine goesL_ (some 27) rfl rfl Tryd.func79 (by kernel_rfl) rfl #[.string a0_0] rfl z16_7 ?_; (with_reducible refine (spec_l12Open.calls k a0_0 t235 t236 _ A7.out).mono ?_); rintro e w27 ⟨v237, rfl, ho0, hb⟩; refine ⟨_, rfl, ?_⟩; have n0_ := Aside0.mk (Kd.R_elder' z16_10 (Kd.R_base ho0) hb); have n1_ := Aside0.mk (Kd.R_lower (Kd.R_new' ho0 (Kd.R_lt z16_10)) (below_size z16_2)); have n2_ := Aside0.mk (blk_below (g := gb230) (o := .cells #[.string a0_0, .string a0_1, .int .i64 a0_2] 42 (0, 0)) z16_8 hb); have n3_ := Aside0.mk (below_step z16_2 hb); clear HO234; clear BK230; clear HB; have HO234 := n0_; have HO238 := n1_; have BK230 := n2_; have HB := n3_; clear n0_ n1_ n2_ n3_; (try clear hb); (try clear hb2); (try clear hk); (try clear hi); (try clear ho0); have hcz28_0 : w27.cell? ⟨gb230, 0, none⟩ = some (.string a0_0) := (blk_cell BK230.out 0).trans rfl; have hcz28_1 : w27.cell? ⟨gb230, 1, none⟩ = some (.string a0_1) := (blk_cell BK230.out 1).trans rfl; have hcz28_2 : w27.cell? ⟨gb230, 2, none⟩ = some (.int .i64 a0_2) := (blk_cell BK230.out 2).trans rfl; have hfz28_0 := blk_frozen BK230.out 0; have hfz28_1 := blk_frozen BK230.out 1; have hfz28_2 := blk_frozen BK230.out 2))
        go_ret
        exact ⟨z16_6, z16_2⟩
    · rw [if_neg c5] at H
      exact absurd H (by simp)
def spec_IsValidLog.f (k : Nat) (a0_0 : ByteArray) (a0_1 : ByteArray) (a0_2 : Int) : Option (Bool) := (spec_l12Valid.f k a0_0 a0_1 a0_2).bind fun t240 => (some t240)
theorem spec_IsValidLog.mono : ∀ a0 a1 a2 k, LeO (spec_IsValidLog.f k a0 a1 a2) (spec_IsValidLog.f (k + 1) a0 a1 a2) := by
  intro a0 a1 a2 k
  unfold spec_IsValidLog.f
  repeat' first
      | (with_reducible exact spec_l12Valid.mono _ _ _ _)
      | (with_reducible exact LeO.refl _)
      | (with_reducible exact LeO.none _)
      | (with_reducible refine LeO.ite ?_ ?_)
      | (with_reducible refine LeO.bind ?_ (fun _ => ?_))
      | exact spec_l12Valid.mono _ _ _ _
      | exact LeO.none _
      | refine LeO.ite ?_ ?_
      | refine LeO.bind ?_ (fun _ => ?_)
set_option maxHeartbeats 8000000 in
set_option maxRecDepth 100000 in
theorem spec_IsValidLog.calls (k : Nat) (a0_0 : ByteArray) (a0_1 : ByteArray) (a0_2 : Int) (r : Bool) (w : World) (h : spec_IsValidLog.f k a0_0 a0_1 a0_2 = some r) :
    Calls Tryd.prog 31 #[.agg #[.string a0_0, .string a0_1, .int .i64 a0_2]] w fun e w' => e = .returned (.bool r) ∧ Below w.heap.size w w' := by
  have hu42 := Tryd.underlying42
  have HB := Aside0.mk (Below.refl w.heap.size w)
  have H : ((spec_l12Valid.f k a0_0 a0_1 a0_2).bind fun t240 => (some t240)) = some r := h
  clear h
  replace H := Option.bind_eq_some_iff.mp H
  obtain ⟨t240, A20, H⟩ := H
  replace H : (some t240) = some r := H
  have A2 := Aside0.mk A20
  clear A20
  obtain rfl := Option.some.inj H
  go_enter Tryd.func31, Tryd.ntmps31
  go_wp2_with (first | ((with_reducible refine gate_dst (N := 1) rfl ?_); refine box_event ?hg (N := 1) ?hd (cs := #[.string a0_0, .string a0_1, .int .i64 a0_2]) (t := 42) ?hr ?_; (case hd => rfl); (case hg => rfl); (case hr => first | (go_simp; done) | (go_simp; rfl)); intro gb239 hg w3 hbox hb; have n0_ := Aside0.mk (below_step z16_1 hb); have n1_ := Aside0.mk (hbox); have n2_ := Aside0.mk ((z16_5 : w.heap.size ≤ gb239)); have n3_ := Aside0.mk ((z16_5 : w.heap.size ≤ gb239)); clear HB; have HB := n0_; have BK239 := n1_; have GW239 := n2_; have GE239 := n3_; clear n0_ n1_ n2_ n3_; clear hb hbox hg; have hcz4_0 : w3.cell? ⟨gb239, 0, none⟩ = some (.string a0_0) := (blk_cell BK239.out 0).trans rfl; have hcz4_1 : w3.cell? ⟨gb239, 1, none⟩ = some (.string a0_1) := (blk_cell BK239.out 1).trans rfl; have hcz4_2 : w3.cell? ⟨gb239, 2, none⟩ = some (.int .i64 a0_2) := (blk_cell BK239.out 2).trans rfl; have hfz4_0 := blk_frozen BK239.out 0; have hfz4_1 := blk_frozen BK239.out 1; have hfz4_2 := blk_frozen BK239.out 2) | ((with_reducible refine gate_callee (f := 81) rfl ?_); refine goesL_ (some 4) rfl rfl Tryd.func81 (by kernel_rfl) rfl #[.agg #[.string a0_0, .string a0_1, .int .i64 a0_2]] rfl z16_7 ?_; (with_reducible refine (spec_l12Valid.calls k a0_0 a0_1 a0_2 t240 _ A2.out).mono ?_); rintro e w5 ⟨rfl, hb⟩; refine ⟨_, rfl, ?_⟩; have n0_ := Aside0.mk (blk_below (g := gb239) (o := .cells #[.string a0_0, .string a0_1, .int .i64 a0_2] 42 (0, 0)) (by (with_reducible repeat (first | refine blk_drewN ?_ _ | refine blk_drew ?_ | refine blk_alloc ?_ _)); exact BK239.out) hb); have n1_ := Aside0.mk (below_step (by repeat (first | (with_reducible first | exact HB.out | apply below_alloc | apply pw_below_drewN | apply below_drew1 | refine below_set ?_ GE239.out) | exact HB.out)) hb); clear BK239; clear HB; have BK239 := n0_; have HB := n1_; clear n0_ n1_; (try clear hb); (try clear hb2); (try clear hk); (try clear hi)))
  go_ret
  exact ⟨z16_6, by repeat (first | (with_reducible first | exact HB.out | apply below_alloc | apply pw_below_drewN | apply below_drew1 | refine below_set ?_ GE239.out) | exact HB.out)⟩
def laws_toLog.f (a0_0 : ByteArray) (a0_1 : ByteArray) (a0_2 : Int) : Option (ByteArray × ByteArray × Int) := some (a0_0, a0_1, a0_2)
set_option maxHeartbeats 8000000 in
set_option maxRecDepth 100000 in
theorem laws_toLog.calls (a0_0 : ByteArray) (a0_1 : ByteArray) (a0_2 : Int) (r1 : ByteArray) (r2 : ByteArray) (r3 : Int) (w : World) (h : laws_toLog.f a0_0 a0_1 a0_2 = some (r1, r2, r3)) :
    Calls Tryd.prog 32 #[.agg #[.string a0_0, .string a0_1, .int .i64 a0_2]] w fun e w' => e = .returned (.agg #[.string r1, .string r2, .int .i64 r3]) ∧ Below w.heap.size w w' := by
  have hu47 := Tryd.underlying47
  have hu42 := Tryd.underlying42
  have HB := Aside0.mk (Below.refl w.heap.size w)
  have H : (some (a0_0, a0_1, a0_2)) = some (r1, r2, r3) := h
  clear h
  simp only [Option.some.injEq, Prod.mk.injEq] at H
  obtain ⟨rfl, rfl, rfl⟩ := H
  go_enter Tryd.func32, Tryd.ntmps32
  go_wp2_with (first | ((with_reducible refine gate_dst (N := 1) rfl ?_); refine box_event ?hg (N := 1) ?hd (cs := #[.string a0_0, .string a0_1, .int .i64 a0_2]) (t := 47) ?hr ?_; (case hd => rfl); (case hg => rfl); (case hr => first | (go_simp; done) | (go_simp; rfl)); intro gb241 hg w2 hbox hb; have n0_ := Aside0.mk (below_step z16_1 hb); have n1_ := Aside0.mk (hbox); have n2_ := Aside0.mk ((z16_5 : w.heap.size ≤ gb241)); have n3_ := Aside0.mk ((z16_5 : w.heap.size ≤ gb241)); clear HB; have HB := n0_; have BK241 := n1_; have GW241 := n2_; have GE241 := n3_; clear n0_ n1_ n2_ n3_; clear hb hbox hg) | ((with_reducible refine gate_dst (N := 2) rfl ?_); refine box_event ?hg (N := 2) ?hd (cs := #[.string (⟨#[]⟩ : ByteArray), .string (⟨#[]⟩ : ByteArray), .int .i64 0]) (t := 42) ?hr ?_; (case hd => rfl); (case hg => rfl); (case hr => first | (go_simp; done) | (go_simp; rfl)); intro gb242 hg w3 hbox hb; have n0_ := Aside0.mk (blk_below (g := gb241) (o := .cells #[.string a0_0, .string a0_1, .int .i64 a0_2] 47 (0, 0)) z16_9 hb); have n1_ := Aside0.mk (below_step z16_14 hb); have n2_ := Aside0.mk (hbox); have n3_ := Aside0.mk ((by rw [hg]; exact (below_size z16_14) : w.heap.size ≤ gb242)); have n4_ := Aside0.mk ((by rw [hg]; exact (below_size z16_14) : w.heap.size ≤ gb242)); have n5_ := Aside0.mk ((by rw [hg]; exact Nat.ne_of_lt (blk_lt (g := gb241) (o := .cells #[.string a0_0, .string a0_1, .int .i64 a0_2] 47 (0, 0)) z16_9) : gb241 ≠ gb242)); have n6_ := Aside0.mk ((by rw [hg]; exact Nat.ne_of_gt (blk_lt (g := gb241) (o := .cells #[.string a0_0, .string a0_1, .int .i64 a0_2] 47 (0, 0)) z16_9) : gb242 ≠ gb241)); clear BK241; clear HB; have BK241 := n0_; have HB := n1_; have BK242 := n2_; have GW242 := n3_; have GE242 := n4_; have NB241_242 := n5_; have NB242_241 := n6_; clear n0_ n1_ n2_ n3_ n4_ n5_ n6_; clear hb hbox hg) | ((with_reducible refine gate_dst (N := 3) rfl ?_); refine box_event ?hg (N := 3) ?hd (cs := #[.string (⟨#[]⟩ : ByteArray), .string (⟨#[]⟩ : ByteArray), .int .i64 0]) (t := 42) ?hr ?_; (case hd => rfl); (case hg => rfl); (case hr => first | (go_simp; done) | (go_simp; rfl)); intro gb243 hg w4 hbox hb; have n0_ := Aside0.mk (blk_below (g := gb241) (o := .cells #[.string a0_0, .string a0_1, .int .i64 a0_2] 47 (0, 0)) z16_9 hb); have n1_ := Aside0.mk (blk_below (g := gb242) (o := .cells #[.string (⟨#[]⟩ : ByteArray), .string (⟨#[]⟩ : ByteArray), .int .i64 0] 42 (0, 0)) z16_16 hb); have n2_ := Aside0.mk (below_step z16_12 hb); have n3_ := Aside0.mk (hbox); have n4_ := Aside0.mk ((by rw [hg]; exact (below_size z16_12) : w.heap.size ≤ gb243)); have n5_ := Aside0.mk ((by rw [hg]; exact (below_size z16_12) : w.heap.size ≤ gb243)); have n6_ := Aside0.mk ((by rw [hg]; exact Nat.ne_of_lt (blk_lt (g := gb241) (o := .cells #[.string a0_0, .string a0_1, .int .i64 a0_2] 47 (0, 0)) z16_9) : gb241 ≠ gb243)); have n7_ := Aside0.mk ((by rw [hg]; exact Nat.ne_of_gt (blk_lt (g := gb241) (o := .cells #[.string a0_0, .string a0_1, .int .i64 a0_2] 47 (0, 0)) z16_9) : gb243 ≠ gb241)); have n8_ := Aside0.mk ((by rw [hg]; exact Nat.ne_of_lt (blk_lt (g := gb242) (o := .cells #[.string (⟨#[]⟩ : ByteArray), .string (⟨#[]⟩ : ByteArray), .int .i64 0] 42 (0, 0)) z16_16) : gb242 ≠ gb243)); have n9_ := Aside0.mk ((by rw [hg]; exact Nat.ne_of_gt (blk_lt (g := gb242) (o := .cells #[.string (⟨#[]⟩ : ByteArray), .string (⟨#[]⟩ : ByteArray), .int .i64 0] 42 (0, 0)) z16_16) : gb243 ≠ gb242)); clear BK241; clear BK242; clear HB; have BK241 := n0_; have BK242 := n1_; have HB := n2_; have BK243 := n3_; have GW243 := n4_; have GE243 := n5_; have NB241_243 := n6_; have NB243_241 := n7_; have NB242_243 := n8_; have NB243_242 := n9_; clear n0_ n1_ n2_ n3_ n4_ n5_ n6_ n7_ n8_ n9_; clear hb hbox hg; have hnb5 := NB241_242.out; have hnc5 := NB242_241.out; have hnb6 := NB241_243.out; have hnc6 := NB243_241.out; have hcz7_0 : w4.cell? ⟨gb241, 0, none⟩ = some (.string a0_0) := (blk_cell BK241.out 0).trans rfl; have hcz7_1 : w4.cell? ⟨gb241, 1, none⟩ = some (.string a0_1) := (blk_cell BK241.out 1).trans rfl; have hcz7_2 : w4.cell? ⟨gb241, 2, none⟩ = some (.int .i64 a0_2) := (blk_cell BK241.out 2).trans rfl; have hfz7_0 := blk_frozen BK241.out 0; have hfz7_1 := blk_frozen BK241.out 1; have hfz7_2 := blk_frozen BK241.out 2; have hnb8 := NB243_242.out; have hnc8 := NB242_243.out; have hcz9_0 : w4.cell? ⟨gb243, 0, none⟩ = some (.string (⟨#[]⟩ : ByteArray)) := (blk_cell BK243.out 0).trans rfl; have hcz9_1 : w4.cell? ⟨gb243, 1, none⟩ = some (.string (⟨#[]⟩ : ByteArray)) := (blk_cell BK243.out 1).trans rfl; have hcz9_2 : w4.cell? ⟨gb243, 2, none⟩ = some (.int .i64 0) := (blk_cell BK243.out 2).trans rfl; have hfz9_0 := blk_frozen BK243.out 0; have hfz9_1 := blk_frozen BK243.out 1; have hfz9_2 := blk_frozen BK243.out 2; have hcz10_0 : w4.cell? ⟨gb242, 0, none⟩ = some (.string (⟨#[]⟩ : ByteArray)) := (blk_cell BK242.out 0).trans rfl; have hcz10_1 : w4.cell? ⟨gb242, 1, none⟩ = some (.string (⟨#[]⟩ : ByteArray)) := (blk_cell BK242.out 1).trans rfl; have hcz10_2 : w4.cell? ⟨gb242, 2, none⟩ = some (.int .i64 0) := (blk_cell BK242.out 2).trans rfl; have hfz10_0 := blk_frozen BK242.out 0; have hfz10_1 := blk_frozen BK242.out 1; have hfz10_2 := blk_frozen BK242.out 2))
  refine bodyPost_ret (results_cell_row rfl _ _ gb242 42 #[.string a0_0, .string a0_1, .int .i64 a0_2] (0, 0) _ rfl (by (with_reducible repeat (first | refine blk_drewN ?_ _ | refine blk_drew ?_ | refine blk_alloc ?_ _)); refine blk_put (cs := #[.string a0_0, .string a0_1, .int .i64 0]) ?_ 2 _ rfl; (with_reducible repeat (first | refine blk_drewN ?_ _ | refine blk_drew ?_ | refine blk_alloc ?_ _)); refine blk_put (cs := #[.string a0_0, .string (⟨#[]⟩ : ByteArray), .int .i64 0]) ?_ 1 _ rfl; (with_reducible repeat (first | refine blk_drewN ?_ _ | refine blk_drew ?_ | refine blk_alloc ?_ _)); refine blk_put (cs := #[.string (⟨#[]⟩ : ByteArray), .string (⟨#[]⟩ : ByteArray), .int .i64 0]) ?_ 0 _ rfl; (with_reducible repeat (first | refine blk_drewN ?_ _ | refine blk_drew ?_ | refine blk_alloc ?_ _)); refine blk_far ?_ NB242_243.out _; (with_reducible repeat (first | refine blk_drewN ?_ _ | refine blk_drew ?_ | refine blk_alloc ?_ _)); refine blk_far ?_ NB242_243.out _; (with_reducible repeat (first | refine blk_drewN ?_ _ | refine blk_drew ?_ | refine blk_alloc ?_ _)); refine blk_far ?_ NB242_243.out _; (with_reducible repeat (first | refine blk_drewN ?_ _ | refine blk_drew ?_ | refine blk_alloc ?_ _)); exact BK242.out) Tryd.underlying42 rfl (by kernel_rfl)) rfl ?_
  exact ⟨z16_6, by repeat (first | (with_reducible first | exact HB.out | apply below_alloc | apply pw_below_drewN | apply below_drew1 | refine below_set ?_ GE241.out | refine below_set ?_ GE242.out | refine below_set ?_ GE243.out) | exact HB.out)⟩
def impl_Log_records.f (k : Nat) (a0_0 : ByteArray) (a0_1 : ByteArray) (a0_2 : Int) : Option ((List (S38)) × Bool) := if (wrap64 ((a0_0.size : Int) + (a0_1.size : Int))) > 30000 then (some (([] : List (S38)), false)) else (if a0_0.size + a0_1.size ≤ 9223372036854775807 then ((impl_readRecords.f k (a0_0 ++ a0_1)).bind fun bt245 => ((impl_readRecords.f k a0_0).bind fun bt249 => (if bt245.2 = (wrap64 ((a0_0.size : Int) + (a0_1.size : Int))) then (if bt249.2 = (a0_0.size : Int) then (some (bt245.1, ((bt245.1.length : Int) == a0_2))) else (some (bt245.1, false))) else (some (bt245.1, false))))) else (none))
theorem impl_Log_records.mono : ∀ a0 a1 a2 k, LeO (impl_Log_records.f k a0 a1 a2) (impl_Log_records.f (k + 1) a0 a1 a2) := by
  intro a0 a1 a2 k
  unfold impl_Log_records.f
  repeat' first
      | (with_reducible exact impl_readRecords.mono _ _)
      | (with_reducible exact LeO.refl _)
      | (with_reducible exact LeO.none _)
      | (with_reducible refine LeO.ite ?_ ?_)
      | (with_reducible refine LeO.bind ?_ (fun _ => ?_))
      | exact impl_readRecords.mono _ _
      | exact LeO.none _
      | refine LeO.ite ?_ ?_
      | refine LeO.bind ?_ (fun _ => ?_)
set_option maxHeartbeats 8000000 in
set_option maxRecDepth 100000 in
theorem impl_Log_records.calls (k : Nat) (a0_0 : ByteArray) (a0_1 : ByteArray) (a0_2 : Int) (r1 : List (S38)) (r2 : Bool) (w : World) (hgl : Glob w) (h : impl_Log_records.f k a0_0 a0_1 a0_2 = some (r1, r2)) :
    Calls Tryd.prog 82 #[.agg #[.string a0_0, .string a0_1, .int .i64 a0_2]] w fun e w' => ∃ v0_ : Value, e = .returned (.tuple #[v0_, .bool r2]) ∧ Kd.R k38 38 w' w.heap.size (fun _ => True) v0_ r1 ∧ Below w.heap.size w w' := by
  have hu42 := Tryd.underlying42
  have HB := Aside0.mk (Below.refl w.heap.size w)
  have HGL := Aside0.mk hgl
  clear hgl
  have H : (if (wrap64 ((a0_0.size : Int) + (a0_1.size : Int))) > 30000 then (some (([] : List (S38)), false)) else (if a0_0.size + a0_1.size ≤ 9223372036854775807 then ((impl_readRecords.f k (a0_0 ++ a0_1)).bind fun bt245 => ((impl_readRecords.f k a0_0).bind fun bt249 => (if bt245.2 = (wrap64 ((a0_0.size : Int) + (a0_1.size : Int))) then (if bt249.2 = (a0_0.size : Int) then (some (bt245.1, ((bt245.1.length : Int) == a0_2))) else (some (bt245.1, false))) else (some (bt245.1, false))))) else (none))) = some (r1, r2) := h
  clear h
  by_cases c2 : (wrap64 ((a0_0.size : Int) + (a0_1.size : Int))) > 30000
  · rw [if_pos c2] at H
    have c2b0 : decide (30000 < (wrap64 ((a0_0.size : Int) + (a0_1.size : Int)))) = true := decide_eq_true c2
    clear c2
    simp only [Option.some.injEq, Prod.mk.injEq] at H
    obtain ⟨rfl, rfl⟩ := H
    (try (have hz_ : wrap64 ((a0_0.size : Int) + (a0_1.size : Int)) = (a0_0.size : Int) + (a0_1.size : Int) := (by unfold wrap64; omega); simp only [hz_] at c2b0; clear hz_))
    go_enter Tryd.func82, Tryd.ntmps82
    go_wp2_with (first | ((with_reducible refine gate_dst (N := 1) rfl ?_); (try (refine gate_guard (by rfl) ?_; dsimp only)); refine box_event ?hg (N := 1) ?hd (cs := #[.string a0_0, .string a0_1, .int .i64 a0_2]) (t := 42) ?hr ?_; (case hd => rfl); (case hg => rfl); (case hr => first | (go_simp; done) | (go_simp; rfl)); intro gb244 hg w3 hbox hb; have n0_ := Aside0.mk (below_step z16_1 hb); have n1_ := Aside0.mk (hbox); have n2_ := Aside0.mk ((z16_5 : w.heap.size ≤ gb244)); have n3_ := Aside0.mk ((z16_5 : w.heap.size ≤ gb244)); clear HB; have HB := n0_; have BK244 := n1_; have GW244 := n2_; have GE244 := n3_; clear n0_ n1_ n2_ n3_; clear hb hbox hg; have hcz4_0 : w3.cell? ⟨gb244, 0, none⟩ = some (.string a0_0) := (blk_cell BK244.out 0).trans rfl; have hcz4_1 : w3.cell? ⟨gb244, 1, none⟩ = some (.string a0_1) := (blk_cell BK244.out 1).trans rfl; have hcz4_2 : w3.cell? ⟨gb244, 2, none⟩ = some (.int .i64 a0_2) := (blk_cell BK244.out 2).trans rfl; have hfz4_0 := blk_frozen BK244.out 0; have hfz4_1 := blk_frozen BK244.out 1; have hfz4_2 := blk_frozen BK244.out 2))
    repeat (go_quiet (first | ((with_reducible refine gate_dst (N := 1) rfl ?_); (try (refine gate_guard (by rfl) ?_; dsimp only)); refine box_event ?hg (N := 1) ?hd (cs := #[.string a0_0, .string a0_1, .int .i64 a0_2]) (t := 42) ?hr ?_; (case hd => rfl); (case hg => rfl); (case hr => first | (go_simp; done) | (go_simp; rfl)); intro gb244 hg w3 hbox hb; have n0_ := Aside0.mk (below_step z16_1 hb); have n1_ := Aside0.mk (hbox); have n2_ := Aside0.mk ((z16_5 : w.heap.size ≤ gb244)); have n3_ := Aside0.mk ((z16_5 : w.heap.size ≤ gb244)); clear HB; have HB := n0_; have BK244 := n1_; have GW244 := n2_; have GE244 := n3_; clear n0_ n1_ n2_ n3_; clear hb hbox hg; have hcz4_0 : w3.cell? ⟨gb244, 0, none⟩ = some (.string a0_0) := (blk_cell BK244.out 0).trans rfl; have hcz4_1 : w3.cell? ⟨gb244, 1, none⟩ = some (.string a0_1) := (blk_cell BK244.out 1).trans rfl; have hcz4_2 : w3.cell? ⟨gb244, 2, none⟩ = some (.int .i64 a0_2) := (blk_cell BK244.out 2).trans rfl; have hfz4_0 := blk_frozen BK244.out 0; have hfz4_1 := blk_frozen BK244.out 1; have hfz4_2 := blk_frozen BK244.out 2)); try go_wp2_with (first | ((with_reducible refine gate_dst (N := 1) rfl ?_); (try (refine gate_guard (by rfl) ?_; dsimp only)); refine box_event ?hg (N := 1) ?hd (cs := #[.string a0_0, .string a0_1, .int .i64 a0_2]) (t := 42) ?hr ?_; (case hd => rfl); (case hg => rfl); (case hr => first | (go_simp; done) | (go_simp; rfl)); intro gb244 hg w3 hbox hb; have n0_ := Aside0.mk (below_step z16_1 hb); have n1_ := Aside0.mk (hbox); have n2_ := Aside0.mk ((z16_5 : w.heap.size ≤ gb244)); have n3_ := Aside0.mk ((z16_5 : w.heap.size ≤ gb244)); clear HB; have HB := n0_; have BK244 := n1_; have GW244 := n2_; have GE244 := n3_; clear n0_ n1_ n2_ n3_; clear hb hbox hg; have hcz4_0 : w3.cell? ⟨gb244, 0, none⟩ = some (.string a0_0) := (blk_cell BK244.out 0).trans rfl; have hcz4_1 : w3.cell? ⟨gb244, 1, none⟩ = some (.string a0_1) := (blk_cell BK244.out 1).trans rfl; have hcz4_2 : w3.cell? ⟨gb244, 2, none⟩ = some (.int .i64 a0_2) := (blk_cell BK244.out 2).trans rfl; have hfz4_0 := blk_frozen BK244.out 0; have hfz4_1 := blk_frozen BK244.out 1; have hfz4_2 := blk_frozen BK244.out 2)))
    go_ret2
    exact ⟨_, z16_6, by first | exact Kd.R_nil _ _ _ _ _ | exact Kd.N_nil _ _ _ _ _ | exact Kd.V_nil _ _ _ _ _ | exact Kd.Q_nil _ _ _ _ _ | exact Kd.S_nil _ _ _ _ _, z16_0⟩
  · rw [if_neg c2] at H
    have c2b0 : decide (30000 < (wrap64 ((a0_0.size : Int) + (a0_1.size : Int)))) = false := decide_eq_false c2
    clear c2
    by_cases c5 : a0_0.size + a0_1.size ≤ 9223372036854775807
    · rw [if_pos c5] at H
      have c5b0 := eq_true c5
      have c5b1 : decide (a0_0.size + a0_1.size ≤ 9223372036854775807) = true := decide_eq_true c5
      try have c5b2 : (9223372036854775807 < a0_0.size + a0_1.size) = False := eq_false (Nat.not_lt.2 c5)
      replace H := Option.bind_eq_some_iff.mp H
      obtain ⟨⟨t245, t246⟩, A60, H⟩ := H
      replace H : ((impl_readRecords.f k a0_0).bind fun bt249 => (if t246 = (wrap64 ((a0_0.size : Int) + (a0_1.size : Int))) then (if bt249.2 = (a0_0.size : Int) then (some (t245, ((t245.length : Int) == a0_2))) else (some (t245, false))) else (some (t245, false)))) = some (r1, r2) := H
      have A6 := Aside0.mk A60
      clear A60
      replace H := Option.bind_eq_some_iff.mp H
      obtain ⟨⟨t249, t250⟩, A70, H⟩ := H
      replace H : (if t246 = (wrap64 ((a0_0.size : Int) + (a0_1.size : Int))) then (if t250 = (a0_0.size : Int) then (some (t245, ((t245.length : Int) == a0_2))) else (some (t245, false))) else (some (t245, false))) = some (r1, r2) := H
      have A7 := Aside0.mk A70
      clear A70
      by_cases c8 : t246 = (wrap64 ((a0_0.size : Int) + (a0_1.size : Int)))
      · rw [if_pos c8] at H
        have c8b0 : (t246 == (wrap64 ((a0_0.size : Int) + (a0_1.size : Int)))) = true := beq_iff_eq.mpr c8
        have c8b1 : (t246 != (wrap64 ((a0_0.size : Int) + (a0_1.size : Int)))) = false := bne_eq_false_iff_eq.mpr c8
        clear c8
        by_cases c9 : t250 = (a0_0.size : Int)
        · rw [if_pos c9] at H
          have c9b0 : (t250 == (a0_0.size : Int)) = true := beq_iff_eq.mpr c9
          have c9b1 : (t250 != (a0_0.size : Int)) = false := bne_eq_false_iff_eq.mpr c9
          clear c9
          simp only [Option.some.injEq, Prod.mk.injEq] at H
          obtain ⟨rfl, rfl⟩ := H
          (try (have hz_ : wrap64 ((a0_0.size : Int) + (a0_1.size : Int)) = (a0_0.size : Int) + (a0_1.size : Int) := (by unfold wrap64; omega); simp only [hz_] at c2b0 c8b0 c8b1; clear hz_))
          go_enter Tryd.func82, Tryd.ntmps82
          go_wp2_with (first | ((with_reducible refine gate_dst (N := 1) rfl ?_); (try (refine gate_guard (by rfl) ?_; dsimp only)); refine box_event ?hg (N := 1) ?hd (cs := #[.string a0_0, .string a0_1, .int .i64 a0_2]) (t := 42) ?hr ?_; (case hd => rfl); (case hg => rfl); (case hr => first | (go_simp; done) | (go_simp; rfl)); intro gb244 hg w10 hbox hb; have n0_ := Aside0.mk (below_step z16_1 hb); have n1_ := Aside0.mk (hbox); have n2_ := Aside0.mk ((z16_5 : w.heap.size ≤ gb244)); have n3_ := Aside0.mk ((z16_5 : w.heap.size ≤ gb244)); clear HB; have HB := n0_; have BK244 := n1_; have GW244 := n2_; have GE244 := n3_; clear n0_ n1_ n2_ n3_; clear hb hbox hg; have hcz11_0 : w10.cell? ⟨gb244, 0, none⟩ = some (.string a0_0) := (blk_cell BK244.out 0).trans rfl; have hcz11_1 : w10.cell? ⟨gb244, 1, none⟩ = some (.string a0_1) := (blk_cell BK244.out 1).trans rfl; have hcz11_2 : w10.cell? ⟨gb244, 2, none⟩ = some (.int .i64 a0_2) := (blk_cell BK244.out 2).trans rfl; have hfz11_0 := blk_frozen BK244.out 0; have hfz11_1 := blk_frozen BK244.out 1; have hfz11_2 := blk_frozen BK244.out 2) | (go_at_call 80; (with_reducible refine (impl_readRecords.calls k (a0_0 ++ a0_1) t245 t246 _ ?side1 A6.out).mono ?_); (case side1 => exact Glob.below HGL.out z16_0); rintro e w12 ⟨v247, rfl, ho0, hb⟩; have n0_ := Aside0.mk (Kd.R_lower ho0 (below_size z16_0)); have n1_ := Aside0.mk (blk_below (g := gb244) (o := .cells #[.string a0_0, .string a0_1, .int .i64 a0_2] 42 (0, 0)) z16_3 hb); have n2_ := Aside0.mk (below_step z16_0 hb); clear BK244; clear HB; have HO248 := n0_; have BK244 := n1_; have HB := n2_; clear n0_ n1_ n2_; (try clear hb); (try clear hb2); (try clear hk); (try clear hi); (try clear ho0); have hcz13_0 : w12.cell? ⟨gb244, 0, none⟩ = some (.string a0_0) := (blk_cell BK244.out 0).trans rfl; have hcz13_1 : w12.cell? ⟨gb244, 1, none⟩ = some (.string a0_1) := (blk_cell BK244.out 1).trans rfl; have hcz13_2 : w12.cell? ⟨gb244, 2, none⟩ = some (.int .i64 a0_2) := (blk_cell BK244.out 2).trans rfl; have hfz13_0 := blk_frozen BK244.out 0; have hfz13_1 := blk_frozen BK244.out 1; have hfz13_2 := blk_frozen BK244.out 2) | (go_at_call 80; (with_reducible refine (impl_readRecords.calls k a0_0 t249 t250 _ ?side1 A7.out).mono ?_); (case side1 => exact Glob.below HGL.out z16_0); rintro e w14 ⟨v251, rfl, ho0, hb⟩; have n0_ := Aside0.mk (Kd.R_elder' z16_4 (Kd.R_base ho0) hb); have n1_ := Aside0.mk (Kd.R_lower (Kd.R_new' ho0 (Kd.R_lt z16_4)) (below_size z16_0)); have n2_ := Aside0.mk (blk_below (g := gb244) (o := .cells #[.string a0_0, .string a0_1, .int .i64 a0_2] 42 (0, 0)) z16_3 hb); have n3_ := Aside0.mk (below_step z16_0 hb); clear HO248; clear BK244; clear HB; have HO248 := n0_; have HO252 := n1_; have BK244 := n2_; have HB := n3_; clear n0_ n1_ n2_ n3_; (try clear hb); (try clear hb2); (try clear hk); (try clear hi); (try clear ho0); have hcz15_0 : w14.cell? ⟨gb244, 0, none⟩ = some (.string a0_0) := (blk_cell BK244.out 0).trans rfl; have hcz15_1 : w14.cell? ⟨gb244, 1, none⟩ = some (.string a0_1) := (blk_cell BK244.out 1).trans rfl; have hcz15_2 : w14.cell? ⟨gb244, 2, none⟩ = some (.int .i64 a0_2) := (blk_cell BK244.out 2).trans rfl; have hfz15_0 := blk_frozen BK244.out 0; have hfz15_1 := blk_frozen BK244.out 1; have hfz15_2 := blk_frozen BK244.out 2; obtain ⟨Ao16, co16, eo16⟩ := Kd.R_slice HO248.out; subst eo16))
          repeat (go_quiet (first | ((with_reducible refine gate_dst (N := 1) rfl ?_); (try (refine gate_guard (by rfl) ?_; dsimp only)); refine box_event ?hg (N := 1) ?hd (cs := #[.string a0_0, .string a0_1, .int .i64 a0_2]) (t := 42) ?hr ?_; (case hd => rfl); (case hg => rfl); (case hr => first | (go_simp; done) | (go_simp; rfl)); intro gb244 hg w10 hbox hb; have n0_ := Aside0.mk (below_step z16_1 hb); have n1_ := Aside0.mk (hbox); have n2_ := Aside0.mk ((z16_5 : w.heap.size ≤ gb244)); have n3_ := Aside0.mk ((z16_5 : w.heap.size ≤ gb244)); clear HB; have HB := n0_; have BK244 := n1_; have GW244 := n2_; have GE244 := n3_; clear n0_ n1_ n2_ n3_; clear hb hbox hg; have hcz11_0 : w10.cell? ⟨gb244, 0, none⟩ = some (.string a0_0) := (blk_cell BK244.out 0).trans rfl; have hcz11_1 : w10.cell? ⟨gb244, 1, none⟩ = some (.string a0_1) := (blk_cell BK244.out 1).trans rfl; have hcz11_2 : w10.cell? ⟨gb244, 2, none⟩ = some (.int .i64 a0_2) := (blk_cell BK244.out 2).trans rfl; have hfz11_0 := blk_frozen BK244.out 0; have hfz11_1 := blk_frozen BK244.out 1; have hfz11_2 := blk_frozen BK244.out 2) | (go_at_call 80; (with_reducible refine (impl_readRecords.calls k (a0_0 ++ a0_1) t245 t246 _ ?side1 A6.out).mono ?_); (case side1 => exact Glob.below HGL.out z16_0); rintro e w12 ⟨v247, rfl, ho0, hb⟩; have n0_ := Aside0.mk (Kd.R_lower ho0 (below_size z16_0)); have n1_ := Aside0.mk (blk_below (g := gb244) (o := .cells #[.string a0_0, .string a0_1, .int .i64 a0_2] 42 (0, 0)) z16_3 hb); have n2_ := Aside0.mk (below_step z16_0 hb); clear BK244; clear HB; have HO248 := n0_; have BK244 := n1_; have HB := n2_; clear n0_ n1_ n2_; (try clear hb); (try clear hb2); (try clear hk); (try clear hi); (try clear ho0); have hcz13_0 : w12.cell? ⟨gb244, 0, none⟩ = some (.string a0_0) := (blk_cell BK244.out 0).trans rfl; have hcz13_1 : w12.cell? ⟨gb244, 1, none⟩ = some (.string a0_1) := (blk_cell BK244.out 1).trans rfl; have hcz13_2 : w12.cell? ⟨gb244, 2, none⟩ = some (.int .i64 a0_2) := (blk_cell BK244.out 2).trans rfl; have hfz13_0 := blk_frozen BK244.out 0; have hfz13_1 := blk_frozen BK244.out 1; have hfz13_2 := blk_frozen BK244.out 2) | (go_at_call 80; (with_reducible refine (impl_readRecords.calls k a0_0 t249 t250 _ ?side1 A7.out).mono ?_); (case side1 => exact Glob.below HGL.out z16_0); rintro e w14 ⟨v251, rfl, ho0, hb⟩; have n0_ := Aside0.mk (Kd.R_elder' z16_4 (Kd.R_base ho0) hb); have n1_ := Aside0.mk (Kd.R_lower (Kd.R_new' ho0 (Kd.R_lt z16_4)) (below_size z16_0)); have n2_ := Aside0.mk (blk_below (g := gb244) (o := .cells #[.string a0_0, .string a0_1, .int .i64 a0_2] 42 (0, 0)) z16_3 hb); have n3_ := Aside0.mk (below_step z16_0 hb); clear HO248; clear BK244; clear HB; have HO248 := n0_; have HO252 := n1_; have BK244 := n2_; have HB := n3_; clear n0_ n1_ n2_ n3_; (try clear hb); (try clear hb2); (try clear hk); (try clear hi); (try clear ho0); have hcz15_0 : w14.cell? ⟨gb244, 0, none⟩ = some (.string a0_0) := (blk_cell BK244.out 0).trans rfl; have hcz15_1 : w14.cell? ⟨gb244, 1, none⟩ = some (.string a0_1) := (blk_cell BK244.out 1).trans rfl; have hcz15_2 : w14.cell? ⟨gb244, 2, none⟩ = some (.int .i64 a0_2) := (blk_cell BK244.out 2).trans rfl; have hfz15_0 := blk_frozen BK244.out 0; have hfz15_1 := blk_frozen BK244.out 1; have hfz15_2 := blk_frozen BK244.out 2; obtain ⟨Ao16, co16, eo16⟩ := Kd.R_slice HO248.out; subst eo16)); try go_wp2_with (first | ((with_reducible refine gate_dst (N := 1) rfl ?_); (try (refine gate_guard (by rfl) ?_; dsimp only)); refine box_event ?hg (N := 1) ?hd (cs := #[.string a0_0, .string a0_1, .int .i64 a0_2]) (t := 42) ?hr ?_; (case hd => rfl); (case hg => rfl); (case hr => first | (go_simp; done) | (go_simp; rfl)); intro gb244 hg w10 hbox hb; have n0_ := Aside0.mk (below_step z16_1 hb); have n1_ := Aside0.mk (hbox); have n2_ := Aside0.mk ((z16_5 : w.heap.size ≤ gb244)); have n3_ := Aside0.mk ((z16_5 : w.heap.size ≤ gb244)); clear HB; have HB := n0_; have BK244 := n1_; have GW244 := n2_; have GE244 := n3_; clear n0_ n1_ n2_ n3_; clear hb hbox hg; have hcz11_0 : w10.cell? ⟨gb244, 0, none⟩ = some (.string a0_0) := (blk_cell BK244.out 0).trans rfl; have hcz11_1 : w10.cell? ⟨gb244, 1, none⟩ = some (.string a0_1) := (blk_cell BK244.out 1).trans rfl; have hcz11_2 : w10.cell? ⟨gb244, 2, none⟩ = some (.int .i64 a0_2) := (blk_cell BK244.out 2).trans rfl; have hfz11_0 := blk_frozen BK244.out 0; have hfz11_1 := blk_frozen BK244.out 1; have hfz11_2 := blk_frozen BK244.out 2) | (go_at_call 80; (with_reducible refine (impl_readRecords.calls k (a0_0 ++ a0_1) t245 t246 _ ?side1 A6.out).mono ?_); (case side1 => exact Glob.below HGL.out z16_0); rintro e w12 ⟨v247, rfl, ho0, hb⟩; have n0_ := Aside0.mk (Kd.R_lower ho0 (below_size z16_0)); have n1_ := Aside0.mk (blk_below (g := gb244) (o := .cells #[.string a0_0, .string a0_1, .int .i64 a0_2] 42 (0, 0)) z16_3 hb); have n2_ := Aside0.mk (below_step z16_0 hb); clear BK244; clear HB; have HO248 := n0_; have BK244 := n1_; have HB := n2_; clear n0_ n1_ n2_; (try clear hb); (try clear hb2); (try clear hk); (try clear hi); (try clear ho0); have hcz13_0 : w12.cell? ⟨gb244, 0, none⟩ = some (.string a0_0) := (blk_cell BK244.out 0).trans rfl; have hcz13_1 : w12.cell? ⟨gb244, 1, none⟩ = some (.string a0_1) := (blk_cell BK244.out 1).trans rfl; have hcz13_2 : w12.cell? ⟨gb244, 2, none⟩ = some (.int .i64 a0_2) := (blk_cell BK244.out 2).trans rfl; have hfz13_0 := blk_frozen BK244.out 0; have hfz13_1 := blk_frozen BK244.out 1; have hfz13_2 := blk_frozen BK244.out 2) | (go_at_call 80; (with_reducible refine (impl_readRecords.calls k a0_0 t249 t250 _ ?side1 A7.out).mono ?_); (case side1 => exact Glob.below HGL.out z16_0); rintro e w14 ⟨v251, rfl, ho0, hb⟩; have n0_ := Aside0.mk (Kd.R_elder' z16_4 (Kd.R_base ho0) hb); have n1_ := Aside0.mk (Kd.R_lower (Kd.R_new' ho0 (Kd.R_lt z16_4)) (below_size z16_0)); have n2_ := Aside0.mk (blk_below (g := gb244) (o := .cells #[.string a0_0, .string a0_1, .int .i64 a0_2] 42 (0, 0)) z16_3 hb); have n3_ := Aside0.mk (below_step z16_0 hb); clear HO248; clear BK244; clear HB; have HO248 := n0_; have HO252 := n1_; have BK244 := n2_; have HB := n3_; clear n0_ n1_ n2_ n3_; (try clear hb); (try clear hb2); (try clear hk); (try clear hi); (try clear ho0); have hcz15_0 : w14.cell? ⟨gb244, 0, none⟩ = some (.string a0_0) := (blk_cell BK244.out 0).trans rfl; have hcz15_1 : w14.cell? ⟨gb244, 1, none⟩ = some (.string a0_1) := (blk_cell BK244.out 1).trans rfl; have hcz15_2 : w14.cell? ⟨gb244, 2, none⟩ = some (.int .i64 a0_2) := (blk_cell BK244.out 2).trans rfl; have hfz15_0 := blk_frozen BK244.out 0; have hfz15_1 := blk_frozen BK244.out 1; have hfz15_2 := blk_frozen BK244.out 2; obtain ⟨Ao16, co16, eo16⟩ := Kd.R_slice HO248.out; subst eo16)))
          go_ret2
          exact ⟨_, z16_6, z16_15, z16_0⟩
        · rw [if_neg c9] at H
          have c9b0 : (t250 == (a0_0.size : Int)) = false := beq_eq_false_iff_ne.mpr c9
          have c9b1 : (t250 != (a0_0.size : Int)) = true := bne_iff_ne.mpr c9
          simp only [Option.some.injEq, Prod.mk.injEq] at H
          obtain ⟨rfl, rfl⟩ := H
          (try (have hz_ : wrap64 ((a0_0.size : Int) + (a0_1.size : Int)) = (a0_0.size : Int) + (a0_1.size : Int) := (by unfold wrap64; omega); simp only [hz_] at c2b0 c8b0 c8b1; clear hz_))
          go_enter Tryd.func82, Tryd.ntmps82
          go_wp2_with (first | ((with_reducible refine gate_dst (N := 1) rfl ?_); (try (refine gate_guard (by rfl) ?_; dsimp only)); refine box_event ?hg (N := 1) ?hd (cs := #[.string a0_0, .string a0_1, .int .i64 a0_2]) (t := 42) ?hr ?_; (case hd => rfl); (case hg => rfl); (case hr => first | (go_simp; done) | (go_simp; rfl)); intro gb244 hg w17 hbox hb; have n0_ := Aside0.mk (below_step z16_1 hb); have n1_ := Aside0.mk (hbox); have n2_ := Aside0.mk ((z16_5 : w.heap.size ≤ gb244)); have n3_ := Aside0.mk ((z16_5 : w.heap.size ≤ gb244)); clear HB; have HB := n0_; have BK244 := n1_; have GW244 := n2_; have GE244 := n3_; clear n0_ n1_ n2_ n3_; clear hb hbox hg; have hcz18_0 : w17.cell? ⟨gb244, 0, none⟩ = some (.string a0_0) := (blk_cell BK244.out 0).trans rfl; have hcz18_1 : w17.cell? ⟨gb244, 1, none⟩ = some (.string a0_1) := (blk_cell BK244.out 1).trans rfl; have hcz18_2 : w17.cell? ⟨gb244, 2, none⟩ = some (.int .i64 a0_2) := (blk_cell BK244.out 2).trans rfl; have hfz18_0 := blk_frozen BK244.out 0; have hfz18_1 := blk_frozen BK244.out 1; have hfz18_2 := blk_frozen BK244.out 2) | (go_at_call 80; (with_reducible refine (impl_readRecords.calls k (a0_0 ++ a0_1) t245 t246 _ ?side1 A6.out).mono ?_); (case side1 => exact Glob.below HGL.out z16_0); rintro e w19 ⟨v247, rfl, ho0, hb⟩; have n0_ := Aside0.mk (Kd.R_lower ho0 (below_size z16_0)); have n1_ := Aside0.mk (blk_below (g := gb244) (o := .cells #[.string a0_0, .string a0_1, .int .i64 a0_2] 42 (0, 0)) z16_3 hb); have n2_ := Aside0.mk (below_step z16_0 hb); clear BK244; clear HB; have HO248 := n0_; have BK244 := n1_; have HB := n2_; clear n0_ n1_ n2_; (try clear hb); (try clear hb2); (try clear hk); (try clear hi); (try clear ho0); have hcz20_0 : w19.cell? ⟨gb244, 0, none⟩ = some (.string a0_0) := (blk_cell BK244.out 0).trans rfl; have hcz20_1 : w19.cell? ⟨gb244, 1, none⟩ = some (.string a0_1) := (blk_cell BK244.out 1).trans rfl; have hcz20_2 : w19.cell? ⟨gb244, 2, none⟩ = some (.int .i64 a0_2) := (blk_cell BK244.out 2).trans rfl; have hfz20_0 := blk_frozen BK244.out 0; have hfz20_1 := blk_frozen BK244.out 1; have hfz20_2 := blk_frozen BK244.out 2) | (go_at_call 80; (with_reducible refine (impl_readRecords.calls k a0_0 t249 t250 _ ?side1 A7.out).mono ?_); (case side1 => exact Glob.below HGL.out z16_0); rintro e w21 ⟨v251, rfl, ho0, hb⟩; have n0_ := Aside0.mk (Kd.R_elder' z16_4 (Kd.R_base ho0) hb); have n1_ := Aside0.mk (Kd.R_lower (Kd.R_new' ho0 (Kd.R_lt z16_4)) (below_size z16_0)); have n2_ := Aside0.mk (blk_below (g := gb244) (o := .cells #[.string a0_0, .string a0_1, .int .i64 a0_2] 42 (0, 0)) z16_3 hb); have n3_ := Aside0.mk (below_step z16_0 hb); clear HO248; clear BK244; clear HB; have HO248 := n0_; have HO252 := n1_; have BK244 := n2_; have HB := n3_; clear n0_ n1_ n2_ n3_; (try clear hb); (try clear hb2); (try clear hk); (try clear hi); (try clear ho0); have hcz22_0 : w21.cell? ⟨gb244, 0, none⟩ = some (.string a0_0) := (blk_cell BK244.out 0).trans rfl; have hcz22_1 : w21.cell? ⟨gb244, 1, none⟩ = some (.string a0_1) := (blk_cell BK244.out 1).trans rfl; have hcz22_2 : w21.cell? ⟨gb244, 2, none⟩ = some (.int .i64 a0_2) := (blk_cell BK244.out 2).trans rfl; have hfz22_0 := blk_frozen BK244.out 0; have hfz22_1 := blk_frozen BK244.out 1; have hfz22_2 := blk_frozen BK244.out 2))
          repeat (go_quiet (first | ((with_reducible refine gate_dst (N := 1) rfl ?_); (try (refine gate_guard (by rfl) ?_; dsimp only)); refine box_event ?hg (N := 1) ?hd (cs := #[.string a0_0, .string a0_1, .int .i64 a0_2]) (t := 42) ?hr ?_; (case hd => rfl); (case hg => rfl); (case hr => first | (go_simp; done) | (go_simp; rfl)); intro gb244 hg w17 hbox hb; have n0_ := Aside0.mk (below_step z16_1 hb); have n1_ := Aside0.mk (hbox); have n2_ := Aside0.mk ((z16_5 : w.heap.size ≤ gb244)); have n3_ := Aside0.mk ((z16_5 : w.heap.size ≤ gb244)); clear HB; have HB := n0_; have BK244 := n1_; have GW244 := n2_; have GE244 := n3_; clear n0_ n1_ n2_ n3_; clear hb hbox hg; have hcz18_0 : w17.cell? ⟨gb244, 0, none⟩ = some (.string a0_0) := (blk_cell BK244.out 0).trans rfl; have hcz18_1 : w17.cell? ⟨gb244, 1, none⟩ = some (.string a0_1) := (blk_cell BK244.out 1).trans rfl; have hcz18_2 : w17.cell? ⟨gb244, 2, none⟩ = some (.int .i64 a0_2) := (blk_cell BK244.out 2).trans rfl; have hfz18_0 := blk_frozen BK244.out 0; have hfz18_1 := blk_frozen BK244.out 1; have hfz18_2 := blk_frozen BK244.out 2) | (go_at_call 80; (with_reducible refine (impl_readRecords.calls k (a0_0 ++ a0_1) t245 t246 _ ?side1 A6.out).mono ?_); (case side1 => exact Glob.below HGL.out z16_0); rintro e w19 ⟨v247, rfl, ho0, hb⟩; have n0_ := Aside0.mk (Kd.R_lower ho0 (below_size z16_0)); have n1_ := Aside0.mk (blk_below (g := gb244) (o := .cells #[.string a0_0, .string a0_1, .int .i64 a0_2] 42 (0, 0)) z16_3 hb); have n2_ := Aside0.mk (below_step z16_0 hb); clear BK244; clear HB; have HO248 := n0_; have BK244 := n1_; have HB := n2_; clear n0_ n1_ n2_; (try clear hb); (try clear hb2); (try clear hk); (try clear hi); (try clear ho0); have hcz20_0 : w19.cell? ⟨gb244, 0, none⟩ = some (.string a0_0) := (blk_cell BK244.out 0).trans rfl; have hcz20_1 : w19.cell? ⟨gb244, 1, none⟩ = some (.string a0_1) := (blk_cell BK244.out 1).trans rfl; have hcz20_2 : w19.cell? ⟨gb244, 2, none⟩ = some (.int .i64 a0_2) := (blk_cell BK244.out 2).trans rfl; have hfz20_0 := blk_frozen BK244.out 0; have hfz20_1 := blk_frozen BK244.out 1; have hfz20_2 := blk_frozen BK244.out 2) | (go_at_call 80; (with_reducible refine (impl_readRecords.calls k a0_0 t249 t250 _ ?side1 A7.out).mono ?_); (case side1 => exact Glob.below HGL.out z16_0); rintro e w21 ⟨v251, rfl, ho0, hb⟩; have n0_ := Aside0.mk (Kd.R_elder' z16_4 (Kd.R_base ho0) hb); have n1_ := Aside0.mk (Kd.R_lower (Kd.R_new' ho0 (Kd.R_lt z16_4)) (below_size z16_0)); have n2_ := Aside0.mk (blk_below (g := gb244) (o := .cells #[.string a0_0, .string a0_1, .int .i64 a0_2] 42 (0, 0)) z16_3 hb); have n3_ := Aside0.mk (below_step z16_0 hb); clear HO248; clear BK244; clear HB; have HO248 := n0_; have HO252 := n1_; have BK244 := n2_; have HB := n3_; clear n0_ n1_ n2_ n3_; (try clear hb); (try clear hb2); (try clear hk); (try clear hi); (try clear ho0); have hcz22_0 : w21.cell? ⟨gb244, 0, none⟩ = some (.string a0_0) := (blk_cell BK244.out 0).trans rfl; have hcz22_1 : w21.cell? ⟨gb244, 1, none⟩ = some (.string a0_1) := (blk_cell BK244.out 1).trans rfl; have hcz22_2 : w21.cell? ⟨gb244, 2, none⟩ = some (.int .i64 a0_2) := (blk_cell BK244.out 2).trans rfl; have hfz22_0 := blk_frozen BK244.out 0; have hfz22_1 := blk_frozen BK244.out 1; have hfz22_2 := blk_frozen BK244.out 2)); try go_wp2_with (first | ((with_reducible refine gate_dst (N := 1) rfl ?_); (try (refine gate_guard (by rfl) ?_; dsimp only)); refine box_event ?hg (N := 1) ?hd (cs := #[.string a0_0, .string a0_1, .int .i64 a0_2]) (t := 42) ?hr ?_; (case hd => rfl); (case hg => rfl); (case hr => first | (go_simp; done) | (go_simp; rfl)); intro gb244 hg w17 hbox hb; have n0_ := Aside0.mk (below_step z16_1 hb); have n1_ := Aside0.mk (hbox); have n2_ := Aside0.mk ((z16_5 : w.heap.size ≤ gb244)); have n3_ := Aside0.mk ((z16_5 : w.heap.size ≤ gb244)); clear HB; have HB := n0_; have BK244 := n1_; have GW244 := n2_; have GE244 := n3_; clear n0_ n1_ n2_ n3_; clear hb hbox hg; have hcz18_0 : w17.cell? ⟨gb244, 0, none⟩ = some (.string a0_0) := (blk_cell BK244.out 0).trans rfl; have hcz18_1 : w17.cell? ⟨gb244, 1, none⟩ = some (.string a0_1) := (blk_cell BK244.out 1).trans rfl; have hcz18_2 : w17.cell? ⟨gb244, 2, none⟩ = some (.int .i64 a0_2) := (blk_cell BK244.out 2).trans rfl; have hfz18_0 := blk_frozen BK244.out 0; have hfz18_1 := blk_frozen BK244.out 1; have hfz18_2 := blk_frozen BK244.out 2) | (go_at_call 80; (with_reducible refine (impl_readRecords.calls k (a0_0 ++ a0_1) t245 t246 _ ?side1 A6.out).mono ?_); (case side1 => exact Glob.below HGL.out z16_0); rintro e w19 ⟨v247, rfl, ho0, hb⟩; have n0_ := Aside0.mk (Kd.R_lower ho0 (below_size z16_0)); have n1_ := Aside0.mk (blk_below (g := gb244) (o := .cells #[.string a0_0, .string a0_1, .int .i64 a0_2] 42 (0, 0)) z16_3 hb); have n2_ := Aside0.mk (below_step z16_0 hb); clear BK244; clear HB; have HO248 := n0_; have BK244 := n1_; have HB := n2_; clear n0_ n1_ n2_; (try clear hb); (try clear hb2); (try clear hk); (try clear hi); (try clear ho0); have hcz20_0 : w19.cell? ⟨gb244, 0, none⟩ = some (.string a0_0) := (blk_cell BK244.out 0).trans rfl; have hcz20_1 : w19.cell? ⟨gb244, 1, none⟩ = some (.string a0_1) := (blk_cell BK244.out 1).trans rfl; have hcz20_2 : w19.cell? ⟨gb244, 2, none⟩ = some (.int .i64 a0_2) := (blk_cell BK244.out 2).trans rfl; have hfz20_0 := blk_frozen BK244.out 0; have hfz20_1 := blk_frozen BK244.out 1; have hfz20_2 := blk_frozen BK244.out 2) | (go_at_call 80; (with_reducible refine (impl_readRecords.calls k a0_0 t249 t250 _ ?side1 A7.out).mono ?_); (case side1 => exact Glob.below HGL.out z16_0); rintro e w21 ⟨v251, rfl, ho0, hb⟩; have n0_ := Aside0.mk (Kd.R_elder' z16_4 (Kd.R_base ho0) hb); have n1_ := Aside0.mk (Kd.R_lower (Kd.R_new' ho0 (Kd.R_lt z16_4)) (below_size z16_0)); have n2_ := Aside0.mk (blk_below (g := gb244) (o := .cells #[.string a0_0, .string a0_1, .int .i64 a0_2] 42 (0, 0)) z16_3 hb); have n3_ := Aside0.mk (below_step z16_0 hb); clear HO248; clear BK244; clear HB; have HO248 := n0_; have HO252 := n1_; have BK244 := n2_; have HB := n3_; clear n0_ n1_ n2_ n3_; (try clear hb); (try clear hb2); (try clear hk); (try clear hi); (try clear ho0); have hcz22_0 : w21.cell? ⟨gb244, 0, none⟩ = some (.string a0_0) := (blk_cell BK244.out 0).trans rfl; have hcz22_1 : w21.cell? ⟨gb244, 1, none⟩ = some (.string a0_1) := (blk_cell BK244.out 1).trans rfl; have hcz22_2 : w21.cell? ⟨gb244, 2, none⟩ = some (.int .i64 a0_2) := (blk_cell BK244.out 2).trans rfl; have hfz22_0 := blk_frozen BK244.out 0; have hfz22_1 := blk_frozen BK244.out 1; have hfz22_2 := blk_frozen BK244.out 2)))
          go_ret2
          exact ⟨_, z16_6, z16_15, z16_0⟩
      · rw [if_neg c8] at H
        have c8b0 : (t246 == (wrap64 ((a0_0.size : Int) + (a0_1.size : Int)))) = false := beq_eq_false_iff_ne.mpr c8
        have c8b1 : (t246 != (wrap64 ((a0_0.size : Int) + (a0_1.size : Int)))) = true := bne_iff_ne.mpr c8
        simp only [Option.some.injEq, Prod.mk.injEq] at H
        obtain ⟨rfl, rfl⟩ := H
        (try (have hz_ : wrap64 ((a0_0.size : Int) + (a0_1.size : Int)) = (a0_0.size : Int) + (a0_1.size : Int) := (by unfold wrap64; omega); simp only [hz_] at c2b0 c8b0 c8b1; clear hz_))
        go_enter Tryd.func82, Tryd.ntmps82
        go_wp2_with (first | ((with_reducible refine gate_dst (N := 1) rfl ?_); (try (refine gate_guard (by rfl) ?_; dsimp only)); refine box_event ?hg (N := 1) ?hd (cs := #[.string a0_0, .string a0_1, .int .i64 a0_2]) (t := 42) ?hr ?_; (case hd => rfl); (case hg => rfl); (case hr => first | (go_simp; done) | (go_simp; rfl)); intro gb244 hg w23 hbox hb; have n0_ := Aside0.mk (below_step z16_1 hb); have n1_ := Aside0.mk (hbox); have n2_ := Aside0.mk ((z16_5 : w.heap.size ≤ gb244)); have n3_ := Aside0.mk ((z16_5 : w.heap.size ≤ gb244)); clear HB; have HB := n0_; have BK244 := n1_; have GW244 := n2_; have GE244 := n3_; clear n0_ n1_ n2_ n3_; clear hb hbox hg; have hcz24_0 : w23.cell? ⟨gb244, 0, none⟩ = some (.string a0_0) := (blk_cell BK244.out 0).trans rfl; have hcz24_1 : w23.cell? ⟨gb244, 1, none⟩ = some (.string a0_1) := (blk_cell BK244.out 1).trans rfl; have hcz24_2 : w23.cell? ⟨gb244, 2, none⟩ = some (.int .i64 a0_2) := (blk_cell BK244.out 2).trans rfl; have hfz24_0 := blk_frozen BK244.out 0; have hfz24_1 := blk_frozen BK244.out 1; have hfz24_2 := blk_frozen BK244.out 2) | (go_at_call 80; (with_reducible refine (impl_readRecords.calls k (a0_0 ++ a0_1) t245 t246 _ ?side1 A6.out).mono ?_); (case side1 => exact Glob.below HGL.out z16_0); rintro e w25 ⟨v247, rfl, ho0, hb⟩; have n0_ := Aside0.mk (Kd.R_lower ho0 (below_size z16_0)); have n1_ := Aside0.mk (blk_below (g := gb244) (o := .cells #[.string a0_0, .string a0_1, .int .i64 a0_2] 42 (0, 0)) z16_3 hb); have n2_ := Aside0.mk (below_step z16_0 hb); clear BK244; clear HB; have HO248 := n0_; have BK244 := n1_; have HB := n2_; clear n0_ n1_ n2_; (try clear hb); (try clear hb2); (try clear hk); (try clear hi); (try clear ho0); have hcz26_0 : w25.cell? ⟨gb244, 0, none⟩ = some (.string a0_0) := (blk_cell BK244.out 0).trans rfl; have hcz26_1 : w25.cell? ⟨gb244, 1, none⟩ = some (.string a0_1) := (blk_cell BK244.out 1).trans rfl; have hcz26_2 : w25.cell? ⟨gb244, 2, none⟩ = some (.int .i64 a0_2) := (blk_cell BK244.out 2).trans rfl; have hfz26_0 := blk_frozen BK244.out 0; have hfz26_1 := blk_frozen BK244.out 1; have hfz26_2 := blk_frozen BK244.out 2) | (go_at_call 80; (with_reducible refine (impl_readRecords.calls k a0_0 t249 t250 _ ?side1 A7.out).mono ?_); (case side1 => exact Glob.below HGL.out z16_0); rintro e w27 ⟨v251, rfl, ho0, hb⟩; have n0_ := Aside0.mk (Kd.R_elder' z16_4 (Kd.R_base ho0) hb); have n1_ := Aside0.mk (Kd.R_lower (Kd.R_new' ho0 (Kd.R_lt z16_4)) (below_size z16_0)); have n2_ := Aside0.mk (blk_below (g := gb244) (o := .cells #[.string a0_0, .string a0_1, .int .i64 a0_2] 42 (0, 0)) z16_3 hb); have n3_ := Aside0.mk (below_step z16_0 hb); clear HO248; clear BK244; clear HB; have HO248 := n0_; have HO252 := n1_; have BK244 := n2_; have HB := n3_; clear n0_ n1_ n2_ n3_; (try clear hb); (try clear hb2); (try clear hk); (try clear hi); (try clear ho0); have hcz28_0 : w27.cell? ⟨gb244, 0, none⟩ = some (.string a0_0) := (blk_cell BK244.out 0).trans rfl; have hcz28_1 : w27.cell? ⟨gb244, 1, none⟩ = some (.string a0_1) := (blk_cell BK244.out 1).trans rfl; have hcz28_2 : w27.cell? ⟨gb244, 2, none⟩ = some (.int .i64 a0_2) := (blk_cell BK244.out 2).trans rfl; have hfz28_0 := blk_frozen BK244.out 0; have hfz28_1 := blk_frozen BK244.out 1; have hfz28_2 := blk_frozen BK244.out 2))
        repeat (go_quiet (first | ((with_reducible refine gate_dst (N := 1) rfl ?_); (try (refine gate_guard (by rfl) ?_; dsimp only)); refine box_event ?hg (N := 1) ?hd (cs := #[.string a0_0, .string a0_1, .int .i64 a0_2]) (t := 42) ?hr ?_; (case hd => rfl); (case hg => rfl); (case hr => first | (go_simp; done) | (go_simp; rfl)); intro gb244 hg w23 hbox hb; have n0_ := Aside0.mk (below_step z16_1 hb); have n1_ := Aside0.mk (hbox); have n2_ := Aside0.mk ((z16_5 : w.heap.size ≤ gb244)); have n3_ := Aside0.mk ((z16_5 : w.heap.size ≤ gb244)); clear HB; have HB := n0_; have BK244 := n1_; have GW244 := n2_; have GE244 := n3_; clear n0_ n1_ n2_ n3_; clear hb hbox hg; have hcz24_0 : w23.cell? ⟨gb244, 0, none⟩ = some (.string a0_0) := (blk_cell BK244.out 0).trans rfl; have hcz24_1 : w23.cell? ⟨gb244, 1, none⟩ = some (.string a0_1) := (blk_cell BK244.out 1).trans rfl; have hcz24_2 : w23.cell? ⟨gb244, 2, none⟩ = some (.int .i64 a0_2) := (blk_cell BK244.out 2).trans rfl; have hfz24_0 := blk_frozen BK244.out 0; have hfz24_1 := blk_frozen BK244.out 1; have hfz24_2 := blk_frozen BK244.out 2) | (go_at_call 80; (with_reducible refine (impl_readRecords.calls k (a0_0 ++ a0_1) t245 t246 _ ?side1 A6.out).mono ?_); (case side1 => exact Glob.below HGL.out z16_0); rintro e w25 ⟨v247, rfl, ho0, hb⟩; have n0_ := Aside0.mk (Kd.R_lower ho0 (below_size z16_0)); have n1_ := Aside0.mk (blk_below (g := gb244) (o := .cells #[.string a0_0, .string a0_1, .int .i64 a0_2] 42 (0, 0)) z16_3 hb); have n2_ := Aside0.mk (below_step z16_0 hb); clear BK244; clear HB; have HO248 := n0_; have BK244 := n1_; have HB := n2_; clear n0_ n1_ n2_; (try clear hb); (try clear hb2); (try clear hk); (try clear hi); (try clear ho0); have hcz26_0 : w25.cell? ⟨gb244, 0, none⟩ = some (.string a0_0) := (blk_cell BK244.out 0).trans rfl; have hcz26_1 : w25.cell? ⟨gb244, 1, none⟩ = some (.string a0_1) := (blk_cell BK244.out 1).trans rfl; have hcz26_2 : w25.cell? ⟨gb244, 2, none⟩ = some (.int .i64 a0_2) := (blk_cell BK244.out 2).trans rfl; have hfz26_0 := blk_frozen BK244.out 0; have hfz26_1 := blk_frozen BK244.out 1; have hfz26_2 := blk_frozen BK244.out 2) | (go_at_call 80; (with_reducible refine (impl_readRecords.calls k a0_0 t249 t250 _ ?side1 A7.out).mono ?_); (case side1 => exact Glob.below HGL.out z16_0); rintro e w27 ⟨v251, rfl, ho0, hb⟩; have n0_ := Aside0.mk (Kd.R_elder' z16_4 (Kd.R_base ho0) hb); have n1_ := Aside0.mk (Kd.R_lower (Kd.R_new' ho0 (Kd.R_lt z16_4)) (below_size z16_0)); have n2_ := Aside0.mk (blk_below (g := gb244) (o := .cells #[.string a0_0, .string a0_1, .int .i64 a0_2] 42 (0, 0)) z16_3 hb); have n3_ := Aside0.mk (below_step z16_0 hb); clear HO248; clear BK244; clear HB; have HO248 := n0_; have HO252 := n1_; have BK244 := n2_; have HB := n3_; clear n0_ n1_ n2_ n3_; (try clear hb); (try clear hb2); (try clear hk); (try clear hi); (try clear ho0); have hcz28_0 : w27.cell? ⟨gb244, 0, none⟩ = some (.string a0_0) := (blk_cell BK244.out 0).trans rfl; have hcz28_1 : w27.cell? ⟨gb244, 1, none⟩ = some (.string a0_1) := (blk_cell BK244.out 1).trans rfl; have hcz28_2 : w27.cell? ⟨gb244, 2, none⟩ = some (.int .i64 a0_2) := (blk_cell BK244.out 2).trans rfl; have hfz28_0 := blk_frozen BK244.out 0; have hfz28_1 := blk_frozen BK244.out 1; have hfz28_2 := blk_frozen BK244.out 2)); try go_wp2_with (first | ((with_reducible refine gate_dst (N := 1) rfl ?_); (try (refine gate_guard (by rfl) ?_; dsimp only)); refine box_event ?hg (N := 1) ?hd (cs := #[.string a0_0, .string a0_1, .int .i64 a0_2]) (t := 42) ?hr ?_; (case hd => rfl); (case hg => rfl); (case hr => first | (go_simp; done) | (go_simp; rfl)); intro gb244 hg w23 hbox hb; have n0_ := Aside0.mk (below_step z16_1 hb); have n1_ := Aside0.mk (hbox); have n2_ := Aside0.mk ((z16_5 : w.heap.size ≤ gb244)); have n3_ := Aside0.mk ((z16_5 : w.heap.size ≤ gb244)); clear HB; have HB := n0_; have BK244 := n1_; have GW244 := n2_; have GE244 := n3_; clear n0_ n1_ n2_ n3_; clear hb hbox hg; have hcz24_0 : w23.cell? ⟨gb244, 0, none⟩ = some (.string a0_0) := (blk_cell BK244.out 0).trans rfl; have hcz24_1 : w23.cell? ⟨gb244, 1, none⟩ = some (.string a0_1) := (blk_cell BK244.out 1).trans rfl; have hcz24_2 : w23.cell? ⟨gb244, 2, none⟩ = some (.int .i64 a0_2) := (blk_cell BK244.out 2).trans rfl; have hfz24_0 := blk_frozen BK244.out 0; have hfz24_1 := blk_frozen BK244.out 1; have hfz24_2 := blk_frozen BK244.out 2) | (go_at_call 80; (with_reducible refine (impl_readRecords.calls k (a0_0 ++ a0_1) t245 t246 _ ?side1 A6.out).mono ?_); (case side1 => exact Glob.below HGL.out z16_0); rintro e w25 ⟨v247, rfl, ho0, hb⟩; have n0_ := Aside0.mk (Kd.R_lower ho0 (below_size z16_0)); have n1_ := Aside0.mk (blk_below (g := gb244) (o := .cells #[.string a0_0, .string a0_1, .int .i64 a0_2] 42 (0, 0)) z16_3 hb); have n2_ := Aside0.mk (below_step z16_0 hb); clear BK244; clear HB; have HO248 := n0_; have BK244 := n1_; have HB := n2_; clear n0_ n1_ n2_; (try clear hb); (try clear hb2); (try clear hk); (try clear hi); (try clear ho0); have hcz26_0 : w25.cell? ⟨gb244, 0, none⟩ = some (.string a0_0) := (blk_cell BK244.out 0).trans rfl; have hcz26_1 : w25.cell? ⟨gb244, 1, none⟩ = some (.string a0_1) := (blk_cell BK244.out 1).trans rfl; have hcz26_2 : w25.cell? ⟨gb244, 2, none⟩ = some (.int .i64 a0_2) := (blk_cell BK244.out 2).trans rfl; have hfz26_0 := blk_frozen BK244.out 0; have hfz26_1 := blk_frozen BK244.out 1; have hfz26_2 := blk_frozen BK244.out 2) | (go_at_call 80; (with_reducible refine (impl_readRecords.calls k a0_0 t249 t250 _ ?side1 A7.out).mono ?_); (case side1 => exact Glob.below HGL.out z16_0); rintro e w27 ⟨v251, rfl, ho0, hb⟩; have n0_ := Aside0.mk (Kd.R_elder' z16_4 (Kd.R_base ho0) hb); have n1_ := Aside0.mk (Kd.R_lower (Kd.R_new' ho0 (Kd.R_lt z16_4)) (below_size z16_0)); have n2_ := Aside0.mk (blk_below (g := gb244) (o := .cells #[.string a0_0, .string a0_1, .int .i64 a0_2] 42 (0, 0)) z16_3 hb); have n3_ := Aside0.mk (below_step z16_0 hb); clear HO248; clear BK244; clear HB; have HO248 := n0_; have HO252 := n1_; have BK244 := n2_; have HB := n3_; clear n0_ n1_ n2_ n3_; (try clear hb); (try clear hb2); (try clear hk); (try clear hi); (try clear ho0); have hcz28_0 : w27.cell? ⟨gb244, 0, none⟩ = some (.string a0_0) := (blk_cell BK244.out 0).trans rfl; have hcz28_1 : w27.cell? ⟨gb244, 1, none⟩ = some (.string a0_1) := (blk_cell BK244.out 1).trans rfl; have hcz28_2 : w27.cell? ⟨gb244, 2, none⟩ = some (.int .i64 a0_2) := (blk_cell BK244.out 2).trans rfl; have hfz28_0 := blk_frozen BK244.out 0; have hfz28_1 := blk_frozen BK244.out 1; have hfz28_2 := blk_frozen BK244.out 2)))
        go_ret2
        exact ⟨_, z16_6, z16_15, z16_0⟩
    · rw [if_neg c5] at H
      exact absurd H (by simp)
def impl_IsValidLog.f (k : Nat) (a0_0 : ByteArray) (a0_1 : ByteArray) (a0_2 : Int) : Option (Bool) := (impl_Log_records.f k a0_0 a0_1 a0_2).bind fun bt254 => (some bt254.2)
theorem impl_IsValidLog.mono : ∀ a0 a1 a2 k, LeO (impl_IsValidLog.f k a0 a1 a2) (impl_IsValidLog.f (k + 1) a0 a1 a2) := by
  intro a0 a1 a2 k
  unfold impl_IsValidLog.f
  repeat' first
      | (with_reducible exact impl_Log_records.mono _ _ _ _)
      | (with_reducible exact LeO.refl _)
      | (with_reducible exact LeO.none _)
      | (with_reducible refine LeO.ite ?_ ?_)
      | (with_reducible refine LeO.bind ?_ (fun _ => ?_))
      | exact impl_Log_records.mono _ _ _ _
      | exact LeO.none _
      | refine LeO.ite ?_ ?_
      | refine LeO.bind ?_ (fun _ => ?_)
set_option maxHeartbeats 8000000 in
set_option maxRecDepth 100000 in
theorem impl_IsValidLog.calls (k : Nat) (a0_0 : ByteArray) (a0_1 : ByteArray) (a0_2 : Int) (r : Bool) (w : World) (hgl : Glob w) (h : impl_IsValidLog.f k a0_0 a0_1 a0_2 = some r) :
    Calls Tryd.prog 33 #[.agg #[.string a0_0, .string a0_1, .int .i64 a0_2]] w fun e w' => e = .returned (.bool r) ∧ Below w.heap.size w w' := by
  have hu42 := Tryd.underlying42
  have HB := Aside0.mk (Below.refl w.heap.size w)
  have HGL := Aside0.mk hgl
  clear hgl
  have H : ((impl_Log_records.f k a0_0 a0_1 a0_2).bind fun bt254 => (some bt254.2)) = some r := h
  clear h
  replace H := Option.bind_eq_some_iff.mp H
  obtain ⟨⟨t254, t257⟩, A20, H⟩ := H
  replace H : (some t257) = some r := H
  have A2 := Aside0.mk A20
  clear A20
  obtain rfl := Option.some.inj H
  go_enter Tryd.func33, Tryd.ntmps33
  go_wp2_with (first | ((with_reducible refine gate_dst (N := 1) rfl ?_); refine box_event ?hg (N := 1) ?hd (cs := #[.string a0_0, .string a0_1, .int .i64 a0_2]) (t := 42) ?hr ?_; (case hd => rfl); (case hg => rfl); (case hr => first | (go_simp; done) | (go_simp; rfl)); intro gb253 hg w3 hbox hb; have n0_ := Aside0.mk (below_step z16_1 hb); have n1_ := Aside0.mk (hbox); have n2_ := Aside0.mk ((z16_5 : w.heap.size ≤ gb253)); have n3_ := Aside0.mk ((z16_5 : w.heap.size ≤ gb253)); clear HB; have HB := n0_; have BK253 := n1_; have GW253 := n2_; have GE253 := n3_; clear n0_ n1_ n2_ n3_; clear hb hbox hg; have hcz4_0 : w3.cell? ⟨gb253, 0, none⟩ = some (.string a0_0) := (blk_cell BK253.out 0).trans rfl; have hcz4_1 : w3.cell? ⟨gb253, 1, none⟩ = some (.string a0_1) := (blk_cell BK253.out 1).trans rfl; have hcz4_2 : w3.cell? ⟨gb253, 2, none⟩ = some (.int .i64 a0_2) := (blk_cell BK253.out 2).trans rfl; have hfz4_0 := blk_frozen BK253.out 0; have hfz4_1 := blk_frozen BK253.out 1; have hfz4_2 := blk_frozen BK253.out 2) | ((with_reducible refine gate_callee (f := 82) rfl ?_); refine goesL_ (some 7) rfl rfl Tryd.func82 (by kernel_rfl) rfl #[.agg #[.string a0_0, .string a0_1, .int .i64 a0_2]] rfl z16_7 ?_; (with_reducible refine (impl_Log_records.calls k a0_0 a0_1 a0_2 t254 t257 _ ?side1 A2.out).mono ?_); (case side1 => exact Glob.below HGL.out z16_11); rintro e w5 ⟨v255, rfl, ho0, hb⟩; refine ⟨_, rfl, ?_⟩; have n0_ := Aside0.mk (Kd.R_lower ho0 (below_size z16_11)); have n1_ := Aside0.mk (blk_below (g := gb253) (o := .cells #[.string a0_0, .string a0_1, .int .i64 a0_2] 42 (0, 0)) (by (with_reducible repeat (first | refine blk_drewN ?_ _ | refine blk_drew ?_ | refine blk_alloc ?_ _)); exact BK253.out) hb); have n2_ := Aside0.mk (below_step z16_11 hb); clear BK253; clear HB; have HO256 := n0_; have BK253 := n1_; have HB := n2_; clear n0_ n1_ n2_; (try clear hb); (try clear hb2); (try clear hk); (try clear hi); (try clear ho0)))
  go_ret
  exact ⟨z16_6, z16_11⟩
end Go.Proofs.YtgclcjohnnpejaaDoor.Pr
end

section
namespace Go.Proofs.YtgclcjohnnpejaaDoor.Pr
open Go.RowKit Go.Proofs.YtgclcjohnnpejaaDoorW.PrintWords Go.Proofs.YtgclcjohnnpejaaDoorW.PrintLast Go.Proofs.YtgclcjohnnpejaaDoorW.PrintMore
attribute [local go_sem] max2_int min2_int max_two min_two max_three min_three max_four min_four
set_option linter.unusedVariables false
set_option linter.unusedSimpArgs false
theorem z20_0 {P : Prop} (h : P := by repeat (first | (with_reducible first | exact HB.out | apply below_alloc | apply pw_below_drewN | apply below_drew1 | refine below_set ?_ GE293.out | refine below_set ?_ GE294.out | refine below_set ?_ GE295.out) | exact HB.out)) : P := h
theorem z20_1 {P : Prop} (h : P := by (with_reducible repeat (first | refine blk_drewN ?_ _ | refine blk_drew ?_ | refine blk_alloc ?_ _)); exact BK293.out) : P := h
theorem z20_2 {P : Prop} (h : P := by (with_reducible repeat (first | refine blk_drewN ?_ _ | refine blk_drew ?_ | refine blk_alloc ?_ _)); exact BK294.out) : P := h
theorem z20_3 {P : Prop} (h : P := by (with_reducible repeat (first | refine blk_drewN ?_ _ | refine blk_drew ?_ | refine blk_alloc ?_ _)); refine blk_put (cs := #[.string a0_0, .string a0_1, .int .i64 0]) ?_ 2 _ rfl; (with_reducible repeat (first | refine blk_drewN ?_ _ | refine blk_drew ?_ | refine blk_alloc ?_ _)); refine blk_put (cs := #[.string a0_0, .string (⟨#[]⟩ : ByteArray), .int .i64 0]) ?_ 1 _ rfl; (with_reducible repeat (first | refine blk_drewN ?_ _ | refine blk_drew ?_ | refine blk_alloc ?_ _)); refine blk_put (cs := #[.string (⟨#[]⟩ : ByteArray), .string (⟨#[]⟩ : ByteArray), .int .i64 0]) ?_ 0 _ rfl; (with_reducible repeat (first | refine blk_drewN ?_ _ | refine blk_drew ?_ | refine blk_alloc ?_ _)); exact BK295.out) : P := h
theorem z20_4 {P : Prop} (h : P := by (with_reducible repeat (first | refine blk_drewN ?_ _ | refine blk_drew ?_ | refine blk_alloc ?_ _)); exact BK295.out) : P := h
theorem z20_5 {P : Prop} (h : P := by repeat (first | (with_reducible first | exact HB.out | apply below_alloc | apply pw_below_drewN | apply below_drew1 | refine below_set ?_ GE293.out | refine below_set ?_ GE294.out) | exact HB.out)) : P := h
theorem z20_6 {P : Prop} (h : P := by repeat (first | (with_reducible first | exact HB.out | apply below_alloc | apply pw_below_drewN | apply below_drew1 | refine below_set ?_ GE293.out) | exact HB.out)) : P := h
theorem z20_7 {P : Prop} (h : P := by (try simp only [List.map_toArray, List.map_cons, List.map_nil]); first | done | rfl | (simp only [List.length_drop, List.length_take]; rfl)) : P := h
theorem z20_8 {P : Prop} (h : P := by repeat (first | (with_reducible first | exact HB.out | apply below_alloc | apply pw_below_drewN | apply below_drew1) | exact HB.out)) : P := h
def spec_AppendRecord.j0 : Nat → Bool → ByteArray → ByteArray → Int → ByteArray → ByteArray → Option (ByteArray × ByteArray × Int × Int)
  | 0, _, _, _, _, _, _ => none
  | k + 1, x13, x294000, x294001, x294002, x295000, x295001 => if x13 = true then (some (x294000, x294001, x294002, 1)) else (if x294002 = 60 then (some (x294000, x294001, x294002, 2)) else ((spec_l12Line.f k x294002 x295000 x295001).bind fun t298 => (if x294001.size + t298.size ≤ 9223372036854775807 then (some (x294000, x294001 ++ t298, wrap64 (x294002 + 1), 0)) else (none))))
def spec_AppendRecord.f (k : Nat) (a0_0 : ByteArray) (a0_1 : ByteArray) (a0_2 : Int) (a1_0 : ByteArray) (a1_1 : ByteArray) : Option (ByteArray × ByteArray × Int × Int) := (spec_l12Valid.f k a0_0 a0_1 a0_2).bind fun t296 => (if t296 = true then ((spec_l12Record.f k a1_0 a1_1).bind fun t297 => (spec_AppendRecord.j0 k (!t297) a0_0 a0_1 a0_2 a1_0 a1_1)) else (spec_AppendRecord.j0 k true a0_0 a0_1 a0_2 a1_0 a1_1))
theorem spec_AppendRecord.mono_l : ∀ k, (∀ y0 y1 y2 y3 y4 y5, LeO (spec_AppendRecord.j0 k y0 y1 y2 y3 y4 y5) (spec_AppendRecord.j0 (k + 1) y0 y1 y2 y3 y4 y5))
  | 0 => fun _ _ _ _ _ _ r h => by simp [spec_AppendRecord.j0] at h
  | k + 1 => by
    have ih0 := spec_AppendRecord.mono_l k
    · intro y0 y1 y2 y3 y4 y5
      unfold spec_AppendRecord.j0
      repeat' first
      | (with_reducible exact ih0 _ _ _ _ _ _)
      | (with_reducible exact spec_l12Line.mono _ _ _ _)
      | (with_reducible exact spec_l12Record.mono _ _ _)
      | (with_reducible exact spec_l12Valid.mono _ _ _ _)
      | (with_reducible exact LeO.refl _)
      | (with_reducible exact LeO.none _)
      | (with_reducible refine LeO.ite ?_ ?_)
      | (with_reducible refine LeO.bind ?_ (fun _ => ?_))
      | exact ih0 _ _ _ _ _ _
      | exact spec_l12Line.mono _ _ _ _
      | exact spec_l12Record.mono _ _ _
      | exact spec_l12Valid.mono _ _ _ _
      | exact LeO.none _
      | refine LeO.ite ?_ ?_
      | refine LeO.bind ?_ (fun _ => ?_)
theorem spec_AppendRecord.mono : ∀ a0 a1 a2 a3 a4 k, LeO (spec_AppendRecord.f k a0 a1 a2 a3 a4) (spec_AppendRecord.f (k + 1) a0 a1 a2 a3 a4) := by
  intro a0 a1 a2 a3 a4 k
  have ih0 := spec_AppendRecord.mono_l k
  unfold spec_AppendRecord.f
  repeat' first
      | (with_reducible exact ih0 _ _ _ _ _ _)
      | (with_reducible exact spec_l12Line.mono _ _ _ _)
      | (with_reducible exact spec_l12Record.mono _ _ _)
      | (with_reducible exact spec_l12Valid.mono _ _ _ _)
      | (with_reducible exact LeO.refl _)
      | (with_reducible exact LeO.none _)
      | (with_reducible refine LeO.ite ?_ ?_)
      | (with_reducible refine LeO.bind ?_ (fun _ => ?_))
      | exact ih0 _ _ _ _ _ _
      | exact spec_l12Line.mono _ _ _ _
      | exact spec_l12Record.mono _ _ _
      | exact spec_l12Valid.mono _ _ _ _
      | exact LeO.none _
      | refine LeO.ite ?_ ?_
      | refine LeO.bind ?_ (fun _ => ?_)
def spec_AppendRecord.T5 : Bool × List (List Nat × List Nat) := (true, [([], []), ([0], [0]), ([], []), ([2], [2]), ([], []), ([3, 4], [3, 4]), ([1, 5], [1, 5]), ([0, 1, 2, 3, 4, 5, 6], []), ([7, 6, 5, 0, 1, 2, 3, 4, 5, 6], [6, 7])])
def spec_AppendRecord.B5 : List Nat := [0, 1, 0, 4, 0, 28, 63, 127, 255]
theorem spec_AppendRecord.tab5 : rtab .any (opsOf Tryd.f38 5) = spec_AppendRecord.T5 := by kernel_rfl
theorem spec_AppendRecord.bits5 : waitsOk spec_AppendRecord.T5.2 spec_AppendRecord.B5 = true := by kernel_rfl
set_option maxHeartbeats 8000000 in
set_option maxRecDepth 100000 in
theorem spec_AppendRecord.calls (k : Nat) (a0_0 : ByteArray) (a0_1 : ByteArray) (a0_2 : Int) (a1_0 : ByteArray) (a1_1 : ByteArray) (r1 : ByteArray) (r2 : ByteArray) (r3 : Int) (r4 : Int) (w : World) (h : spec_AppendRecord.f k a0_0 a0_1 a0_2 a1_0 a1_1 = some (r1, r2, r3, r4)) :
    Calls Tryd.prog 38 #[.agg #[.string a0_0, .string a0_1, .int .i64 a0_2], .agg #[.string a1_0, .string a1_1]] w fun e w' => e = .returned (.tuple #[.agg #[.string r1, .string r2, .int .i64 r3], .int .i64 r4]) ∧ Below w.heap.size w w' := by
  have hu42 := Tryd.underlying42
  have hu38 := Tryd.underlying38
  have HB := Aside0.mk (Below.refl w.heap.size w)
  have H : ((spec_l12Valid.f k a0_0 a0_1 a0_2).bind fun t296 => (if t296 = true then ((spec_l12Record.f k a1_0 a1_1).bind fun t297 => (spec_AppendRecord.j0 k (!t297) a0_0 a0_1 a0_2 a1_0 a1_1)) else (spec_AppendRecord.j0 k true a0_0 a0_1 a0_2 a1_0 a1_1))) = some (r1, r2, r3, r4) := h
  clear h
  have HC3 := Aside0.mk H
  clear H
  go_enter Tryd.func38, Tryd.ntmps38
  go_upto_region 1 with (first | ((with_reducible refine gate_dst (N := 2) rfl ?_); refine box_event ?hg (N := 2) ?hd (cs := #[.string a0_0, .string a0_1, .int .i64 a0_2]) (t := 42) ?hr ?_; (case hd => rfl); (case hg => rfl); (case hr => first | (go_simp; done) | (go_simp; rfl)); intro gb293 hg w4 hbox hb; have n0_ := Aside0.mk (below_step z20_8 hb); have n1_ := Aside0.mk (hbox); have n2_ := Aside0.mk ((by rw [hg]; exact (below_size z20_8) : w.heap.size ≤ gb293)); have n3_ := Aside0.mk ((by rw [hg]; exact (below_size z20_8) : w.heap.size ≤ gb293)); clear HB; have HB := n0_; have BK293 := n1_; have GW293 := n2_; have GE293 := n3_; clear n0_ n1_ n2_ n3_; clear hb hbox hg) | ((with_reducible refine gate_dst (N := 3) rfl ?_); refine box_event ?hg (N := 3) ?hd (cs := #[.string a1_0, .string a1_1]) (t := 38) ?hr ?_; (case hd => rfl); (case hg => rfl); (case hr => first | (go_simp; done) | (go_simp; rfl)); intro gb294 hg w5 hbox hb; have n0_ := Aside0.mk (blk_below (g := gb293) (o := .cells #[.string a0_0, .string a0_1, .int .i64 a0_2] 42 (0, 0)) z20_1 hb); have n1_ := Aside0.mk (below_step z20_6 hb); have n2_ := Aside0.mk (hbox); have n3_ := Aside0.mk ((by rw [hg]; exact (below_size z20_6) : w.heap.size ≤ gb294)); have n4_ := Aside0.mk ((by rw [hg]; exact (below_size z20_6) : w.heap.size ≤ gb294)); have n5_ := Aside0.mk ((by rw [hg]; exact Nat.ne_of_lt (blk_lt (g := gb293) (o := .cells #[.string a0_0, .string a0_1, .int .i64 a0_2] 42 (0, 0)) z20_1) : gb293 ≠ gb294)); have n6_ := Aside0.mk ((by rw [hg]; exact Nat.ne_of_gt (blk_lt (g := gb293) (o := .cells #[.string a0_0, .string a0_1, .int .i64 a0_2] 42 (0, 0)) z20_1) : gb294 ≠ gb293)); clear BK293; clear HB; have BK293 := n0_; have HB := n1_; have BK294 := n2_; have GW294 := n3_; have GE294 := n4_; have NB293_294 := n5_; have NB294_293 := n6_; clear n0_ n1_ n2_ n3_ n4_ n5_ n6_; clear hb hbox hg) | ((with_reducible refine gate_dst (N := 4) rfl ?_); refine box_event ?hg (N := 4) ?hd (cs := #[.string (⟨#[]⟩ : ByteArray), .string (⟨#[]⟩ : ByteArray), .int .i64 0]) (t := 42) ?hr ?_; (case hd => rfl); (case hg => rfl); (case hr => first | (go_simp; done) | (go_simp; rfl)); intro gb295 hg w6 hbox hb; have n0_ := Aside0.mk (blk_below (g := gb293) (o := .cells #[.string a0_0, .string a0_1, .int .i64 a0_2] 42 (0, 0)) z20_1 hb); have n1_ := Aside0.mk (blk_below (g := gb294) (o := .cells #[.string a1_0, .string a1_1] 38 (0, 0)) z20_2 hb); have n2_ := Aside0.mk (below_step z20_5 hb); have n3_ := Aside0.mk (hbox); have n4_ := Aside0.mk ((by rw [hg]; exact (below_size z20_5) : w.heap.size ≤ gb295)); have n5_ := Aside0.mk ((by rw [hg]; exact (below_size z20_5) : w.heap.size ≤ gb295)); have n6_ := Aside0.mk ((by rw [hg]; exact Nat.ne_of_lt (blk_lt (g := gb293) (o := .cells #[.string a0_0, .string a0_1, .int .i64 a0_2] 42 (0, 0)) z20_1) : gb293 ≠ gb295)); have n7_ := Aside0.mk ((by rw [hg]; exact Nat.ne_of_gt (blk_lt (g := gb293) (o := .cells #[.string a0_0, .string a0_1, .int .i64 a0_2] 42 (0, 0)) z20_1) : gb295 ≠ gb293)); have n8_ := Aside0.mk ((by rw [hg]; exact Nat.ne_of_lt (blk_lt (g := gb294) (o := .cells #[.string a1_0, .string a1_1] 38 (0, 0)) z20_2) : gb294 ≠ gb295)); have n9_ := Aside0.mk ((by rw [hg]; exact Nat.ne_of_gt (blk_lt (g := gb294) (o := .cells #[.string a1_0, .string a1_1] 38 (0, 0)) z20_2) : gb295 ≠ gb294)); clear BK293; clear BK294; clear HB; have BK293 := n0_; have BK294 := n1_; have HB := n2_; have BK295 := n3_; have GW295 := n4_; have GE295 := n5_; have NB293_295 := n6_; have NB295_293 := n7_; have NB294_295 := n8_; have NB295_294 := n9_; clear n0_ n1_ n2_ n3_ n4_ n5_ n6_ n7_ n8_ n9_; clear hb hbox hg))
  (try simp only [Act.put, List.setIfInBounds_toArray, List.set_cons_zero, List.set_cons_succ])
  go_cut [13] (fun v13 wc => ∃ (kq : Nat) (x13_2 : Bool), v13 = .bool x13_2 ∧ Aside0 (spec_AppendRecord.j0 kq x13_2 a0_0 a0_1 a0_2 a1_0 a1_1 = some (r1, r2, r3, r4)) ∧ Aside0 (kq ≤ k) ∧ Aside0 (wc.heap[gb293]? = some (.cells #[.string a0_0, .string a0_1, .int .i64 a0_2] 42 (0, 0))) ∧ Aside0 (wc.heap[gb294]? = some (.cells #[.string a1_0, .string a1_1] 38 (0, 0))) ∧ Aside0 (wc.heap[gb295]? = some (.cells #[.string (⟨#[]⟩ : ByteArray), .string (⟨#[]⟩ : ByteArray), .int .i64 0] 42 (0, 0))) ∧ Aside0 (Below w.heap.size w wc))
  case first =>
    have H := HC3.out
    clear HC3
    replace H := Option.bind_eq_some_iff.mp H
    obtain ⟨t296, A70, H⟩ := H
    replace H : (if t296 = true then ((spec_l12Record.f k a1_0 a1_1).bind fun t297 => (spec_AppendRecord.j0 k (!t297) a0_0 a0_1 a0_2 a1_0 a1_1)) else (spec_AppendRecord.j0 k true a0_0 a0_1 a0_2 a1_0 a1_1)) = some (r1, r2, r3, r4) := H
    have A7 := Aside0.mk A70
    clear A70
    by_cases c8 : t296 = true
    · subst c8
      have H1 : ((spec_l12Record.f k a1_0 a1_1).bind fun t297 => (spec_AppendRecord.j0 k (!t297) a0_0 a0_1 a0_2 a1_0 a1_1)) = some (r1, r2, r3, r4) := by rw [if_pos rfl] at H; exact H
      clear H
      have H := H1
      clear H1
      replace H := Option.bind_eq_some_iff.mp H
      obtain ⟨t297, A90, H⟩ := H
      replace H : (spec_AppendRecord.j0 k (!t297) a0_0 a0_1 a0_2 a1_0 a1_1) = some (r1, r2, r3, r4) := H
      have A9 := Aside0.mk A90
      clear A90
      have H' := Aside0.mk H
      clear H
      have hnb10 := NB293_294.out
      have hnc10 := NB294_293.out
      have hnb11 := NB293_295.out
      have hnc11 := NB295_293.out
      have hcz12_0 : w6.cell? ⟨gb293, 0, none⟩ = some (.string a0_0) := (blk_cell BK293.out 0).trans rfl
      have hcz12_1 : w6.cell? ⟨gb293, 1, none⟩ = some (.string a0_1) := (blk_cell BK293.out 1).trans rfl
      have hcz12_2 : w6.cell? ⟨gb293, 2, none⟩ = some (.int .i64 a0_2) := (blk_cell BK293.out 2).trans rfl
      have hfz12_0 := blk_frozen BK293.out 0
      have hfz12_1 := blk_frozen BK293.out 1
      have hfz12_2 := blk_frozen BK293.out 2
      go_wp2_with (first | ((with_reducible refine gate_callee (f := 81) rfl ?_); refine goesL_ (some 7) rfl rfl Tryd.func81 (by kernel_rfl) rfl #[.agg #[.string a0_0, .string a0_1, .int .i64 a0_2]] rfl z20_7 ?_; (with_reducible refine (spec_l12Valid.calls k a0_0 a0_1 a0_2 true _ A7.out).mono ?_); rintro e w13 ⟨rfl, hb⟩; refine ⟨_, rfl, ?_⟩; have n0_ := Aside0.mk (blk_below (g := gb293) (o := .cells #[.string a0_0, .string a0_1, .int .i64 a0_2] 42 (0, 0)) z20_1 hb); have n1_ := Aside0.mk (blk_below (g := gb294) (o := .cells #[.string a1_0, .string a1_1] 38 (0, 0)) z20_2 hb); have n2_ := Aside0.mk (blk_below (g := gb295) (o := .cells #[.string (⟨#[]⟩ : ByteArray), .string (⟨#[]⟩ : ByteArray), .int .i64 0] 42 (0, 0)) z20_4 hb); have n3_ := Aside0.mk (below_step z20_0 hb); clear BK293; clear BK294; clear BK295; clear HB; have BK293 := n0_; have BK294 := n1_; have BK295 := n2_; have HB := n3_; clear n0_ n1_ n2_ n3_; (try clear hb); (try clear hb2); (try clear hk); (try clear hi); have hnb14 := NB294_295.out; have hnc14 := NB295_294.out; have hcz15_0 : w13.cell? ⟨gb294, 0, none⟩ = some (.string a1_0) := (blk_cell BK294.out 0).trans rfl; have hcz15_1 : w13.cell? ⟨gb294, 1, none⟩ = some (.string a1_1) := (blk_cell BK294.out 1).trans rfl; have hfz15_0 := blk_frozen BK294.out 0; have hfz15_1 := blk_frozen BK294.out 1) | (go_at_call 75; (with_reducible refine (spec_l12Record.calls k a1_0 a1_1 t297 _ A9.out).mono ?_); rintro e w16 ⟨rfl, hb⟩; have n0_ := Aside0.mk (blk_below (g := gb293) (o := .cells #[.string a0_0, .string a0_1, .int .i64 a0_2] 42 (0, 0)) z20_1 hb); have n1_ := Aside0.mk (blk_below (g := gb294) (o := .cells #[.string a1_0, .string a1_1] 38 (0, 0)) z20_2 hb); have n2_ := Aside0.mk (blk_below (g := gb295) (o := .cells #[.string (⟨#[]⟩ : ByteArray), .string (⟨#[]⟩ : ByteArray), .int .i64 0] 42 (0, 0)) z20_4 hb); have n3_ := Aside0.mk (below_step z20_0 hb); clear BK293; clear BK294; clear BK295; clear HB; have BK293 := n0_; have BK294 := n1_; have BK295 := n2_; have HB := n3_; clear n0_ n1_ n2_ n3_; (try clear hb); (try clear hb2); (try clear hk); (try clear hi)))
      go_meet
      case rel => exact ⟨_, (!t297), (by first | rfl | (simp; done) | (simp [*]; done)), H', ⟨by first | omega | exact Nat.le_refl _⟩, ⟨z20_1⟩, ⟨z20_2⟩, ⟨z20_4⟩, ⟨z20_0⟩⟩
    · replace c8 := Bool.eq_false_iff.mpr c8
      subst c8
      have H1 : (spec_AppendRecord.j0 k true a0_0 a0_1 a0_2 a1_0 a1_1) = some (r1, r2, r3, r4) := by rw [if_neg (show ¬ (false = true) by decide)] at H; exact H
      clear H
      have H := H1
      clear H1
      have H' := Aside0.mk H
      clear H
      have hnb17 := NB293_294.out
      have hnc17 := NB294_293.out
      have hnb18 := NB293_295.out
      have hnc18 := NB295_293.out
      have hcz19_0 : w6.cell? ⟨gb293, 0, none⟩ = some (.string a0_0) := (blk_cell BK293.out 0).trans rfl
      have hcz19_1 : w6.cell? ⟨gb293, 1, none⟩ = some (.string a0_1) := (blk_cell BK293.out 1).trans rfl
      have hcz19_2 : w6.cell? ⟨gb293, 2, none⟩ = some (.int .i64 a0_2) := (blk_cell BK293.out 2).trans rfl
      have hfz19_0 := blk_frozen BK293.out 0
      have hfz19_1 := blk_frozen BK293.out 1
      have hfz19_2 := blk_frozen BK293.out 2
      go_wp2_with (first | ((with_reducible refine gate_callee (f := 81) rfl ?_); refine goesL_ (some 7) rfl rfl Tryd.func81 (by kernel_rfl) rfl #[.agg #[.string a0_0, .string a0_1, .int .i64 a0_2]] rfl z20_7 ?_; (with_reducible refine (spec_l12Valid.calls k a0_0 a0_1 a0_2 false _ A7.out).mono ?_); rintro e w20 ⟨rfl, hb⟩; refine ⟨_, rfl, ?_⟩; have n0_ := Aside0.mk (blk_below (g := gb293) (o := .cells #[.string a0_0, .string a0_1, .int .i64 a0_2] 42 (0, 0)) z20_1 hb); have n1_ := Aside0.mk (blk_below (g := gb294) (o := .cells #[.string a1_0, .string a1_1] 38 (0, 0)) z20_2 hb); have n2_ := Aside0.mk (blk_below (g := gb295) (o := .cells #[.string (⟨#[]⟩ : ByteArray), .string (⟨#[]⟩ : ByteArray), .int .i64 0] 42 (0, 0)) z20_4 hb); have n3_ := Aside0.mk (below_step z20_0 hb); clear BK293; clear BK294; clear BK295; clear HB; have BK293 := n0_; have BK294 := n1_; have BK295 := n2_; have HB := n3_; clear n0_ n1_ n2_ n3_; (try clear hb); (try clear hb2); (try clear hk); (try clear hi)))
      go_meet
      case rel => exact ⟨_, (true), (by first | rfl | (simp; done) | (simp [*]; done)), H', ⟨by first | omega | exact Nat.le_refl _⟩, ⟨z20_1⟩, ⟨z20_2⟩, ⟨z20_4⟩, ⟨z20_0⟩⟩
  case rest =>
    clear HC3
    try clear c1
    try clear p2
    try clear c3
    try clear c8
    try clear c10
    try clear c11
    try clear c14
    try clear c17
    try clear c18
    try clear hcz12_0
    try clear hcz12_1
    try clear hcz12_2
    try clear hcz15_0
    try clear hcz15_1
    try clear hcz19_0
    try clear hcz19_1
    try clear hcz19_2
    try clear hfz12_0
    try clear hfz12_1
    try clear hfz12_2
    try clear hfz15_0
    try clear hfz15_1
    try clear hfz19_0
    try clear hfz19_1
    try clear hfz19_2
    obtain ⟨kq, x13_2, rfl, HA, HJ2, BK293, BK294, BK295, HB⟩ := hcut
    cases kq with
    | zero => exact absurd HA.out (by simp [spec_AppendRecord.j0])
    | succ kj2 =>
      have H := HA.out
      clear HA
      simp only [spec_AppendRecord.j0] at H
      by_cases c21 : x13_2 = true
      · subst c21
        have H1 : (some (a0_0, a0_1, a0_2, 1)) = some (r1, r2, r3, r4) := by rw [if_pos rfl] at H; exact H
        clear H
        have H := H1
        clear H1
        simp only [Option.some.injEq, Prod.mk.injEq] at H
        obtain ⟨rfl, rfl, rfl, rfl⟩ := H
        have hnb22 := NB293_294.out
        have hnc22 := NB294_293.out
        have hnb23 := NB293_295.out
        have hnc23 := NB295_293.out
        have hcz24_0 : wc.cell? ⟨gb293, 0, none⟩ = some (.string a0_0) := (blk_cell BK293.out 0).trans rfl
        have hcz24_1 : wc.cell? ⟨gb293, 1, none⟩ = some (.string a0_1) := (blk_cell BK293.out 1).trans rfl
        have hcz24_2 : wc.cell? ⟨gb293, 2, none⟩ = some (.int .i64 a0_2) := (blk_cell BK293.out 2).trans rfl
        have hfz24_0 := blk_frozen BK293.out 0
        have hfz24_1 := blk_frozen BK293.out 1
        have hfz24_2 := blk_frozen BK293.out 2
        have hnb25 := NB295_294.out
        have hnc25 := NB294_295.out
        have hcz26_0 : wc.cell? ⟨gb295, 0, none⟩ = some (.string (⟨#[]⟩ : ByteArray)) := (blk_cell BK295.out 0).trans rfl
        have hcz26_1 : wc.cell? ⟨gb295, 1, none⟩ = some (.string (⟨#[]⟩ : ByteArray)) := (blk_cell BK295.out 1).trans rfl
        have hcz26_2 : wc.cell? ⟨gb295, 2, none⟩ = some (.int .i64 0) := (blk_cell BK295.out 2).trans rfl
        have hfz26_0 := blk_frozen BK295.out 0
        have hfz26_1 := blk_frozen BK295.out 1
        have hfz26_2 := blk_frozen BK295.out 2
        go_wp2
        refine bodyPost_ret (results_ct rfl _ _ gb295 42 #[.string a0_0, .string a0_1, .int .i64 a0_2] (0, 0) _ rfl z20_3 Tryd.underlying42 rfl (by kernel_rfl)) rfl ?_
        exact ⟨by first | rfl | (simp [errW_none, errW_some] <;> rfl) | (simp [*, errW_none, errW_some] <;> rfl), z20_0⟩
      · replace c21 := Bool.eq_false_iff.mpr c21
        subst c21
        have H1 : (if a0_2 = 60 then (some (a0_0, a0_1, a0_2, 2)) else ((spec_l12Line.f kj2 a0_2 a1_0 a1_1).bind fun t298 => (if a0_1.size + t298.size ≤ 9223372036854775807 then (some (a0_0, a0_1 ++ t298, wrap64 (a0_2 + 1), 0)) else (none)))) = some (r1, r2, r3, r4) := by rw [if_neg (show ¬ (false = true) by decide)] at H; exact H
        clear H
        have H := H1
        clear H1
        by_cases c27 : a0_2 = 60
        · rw [if_pos c27] at H
          have c27b0 : (a0_2 == 60) = true := beq_iff_eq.mpr c27
          have c27b1 : (a0_2 != 60) = false := bne_eq_false_iff_eq.mpr c27
          clear c27
          simp only [Option.some.injEq, Prod.mk.injEq] at H
          obtain ⟨rfl, rfl, rfl, rfl⟩ := H
          have hnb28 := NB293_294.out
          have hnc28 := NB294_293.out
          have hnb29 := NB293_295.out
          have hnc29 := NB295_293.out
          have hcz30_0 : wc.cell? ⟨gb293, 0, none⟩ = some (.string a0_0) := (blk_cell BK293.out 0).trans rfl
          have hcz30_1 : wc.cell? ⟨gb293, 1, none⟩ = some (.string a0_1) := (blk_cell BK293.out 1).trans rfl
          have hcz30_2 : wc.cell? ⟨gb293, 2, none⟩ = some (.int .i64 a0_2) := (blk_cell BK293.out 2).trans rfl
          have hfz30_0 := blk_frozen BK293.out 0
          have hfz30_1 := blk_frozen BK293.out 1
          have hfz30_2 := blk_frozen BK293.out 2
          have hnb31 := NB295_294.out
          have hnc31 := NB294_295.out
          have hcz32_0 : wc.cell? ⟨gb295, 0, none⟩ = some (.string (⟨#[]⟩ : ByteArray)) := (blk_cell BK295.out 0).trans rfl
          have hcz32_1 : wc.cell? ⟨gb295, 1, none⟩ = some (.string (⟨#[]⟩ : ByteArray)) := (blk_cell BK295.out 1).trans rfl
          have hcz32_2 : wc.cell? ⟨gb295, 2, none⟩ = some (.int .i64 0) := (blk_cell BK295.out 2).trans rfl
          have hfz32_0 := blk_frozen BK295.out 0
          have hfz32_1 := blk_frozen BK295.out 1
          have hfz32_2 := blk_frozen BK295.out 2
          go_wp2
          refine bodyPost_ret (results_ct rfl _ _ gb295 42 #[.string a0_0, .string a0_1, .int .i64 a0_2] (0, 0) _ rfl z20_3 Tryd.underlying42 rfl (by kernel_rfl)) rfl ?_
          exact ⟨by first | rfl | (simp [errW_none, errW_some] <;> rfl) | (simp [*, errW_none, errW_some] <;> rfl), z20_0⟩
        · rw [if_neg c27] at H
          have c27b0 : (a0_2 == 60) = false := beq_eq_false_iff_ne.mpr c27
          have c27b1 : (a0_2 != 60) = true := bne_iff_ne.mpr c27
          replace H := Option.bind_eq_some_iff.mp H
          obtain ⟨t298, A330, H⟩ := H
          replace H : (if a0_1.size + t298.size ≤ 9223372036854775807 then (some (a0_0, a0_1 ++ t298, wrap64 (a0_2 + 1), 0)) else (none)) = some (r1, r2, r3, r4) := H
          have A33 := Aside0.mk A330
          clear A330
          by_cases c34 : a0_1.size + t298.size ≤ 9223372036854775807
          · rw [if_pos c34] at H
            have c34b0 := eq_true c34
            have c34b1 : decide (a0_1.size + t298.size ≤ 9223372036854775807) = true := decide_eq_true c34
            try have c34b2 : (9223372036854775807 < a0_1.size + t298.size) = False := eq_false (Nat.not_lt.2 c34)
            simp only [Option.some.injEq, Prod.mk.injEq] at H
            obtain ⟨rfl, rfl, rfl, rfl⟩ := H
            have hnb35 := NB293_294.out
            have hnc35 := NB294_293.out
            have hnb36 := NB293_295.out
            have hnc36 := NB295_293.out
            have hcz37_0 : wc.cell? ⟨gb293, 0, none⟩ = some (.string a0_0) := (blk_cell BK293.out 0).trans rfl
            have hcz37_1 : wc.cell? ⟨gb293, 1, none⟩ = some (.string a0_1) := (blk_cell BK293.out 1).trans rfl
            have hcz37_2 : wc.cell? ⟨gb293, 2, none⟩ = some (.int .i64 a0_2) := (blk_cell BK293.out 2).trans rfl
            have hfz37_0 := blk_frozen BK293.out 0
            have hfz37_1 := blk_frozen BK293.out 1
            have hfz37_2 := blk_frozen BK293.out 2
            try go_wp2
            have n0_ := Aside0.mk (blk_drew BK293.out)
            have n1_ := Aside0.mk (blk_drew BK294.out)
            have n2_ := Aside0.mk (blk_drew BK295.out)
            have n3_ := Aside0.mk (below_drew1 HB.out)
            clear BK293
            clear BK294
            clear BK295
            clear HB
            have BK293 := n0_
            have BK294 := n1_
            have BK295 := n2_
            have HB := n3_
            clear n0_ n1_ n2_ n3_
            refine start_ (n := 9) (S := fun w' => w'.cell? ⟨gb293, 0, none⟩ = some (.string a0_0) ∧ w'.cell? ⟨gb293, 1, none⟩ = some (.string a0_1) ∧ w'.cell? ⟨gb293, 2, none⟩ = some (.int .i64 a0_2) ∧ w'.cell? ⟨gb294, 0, none⟩ = some (.string a1_0) ∧ w'.cell? ⟨gb294, 1, none⟩ = some (.string a1_1)) (ds := [8]) #[false, false, false, false, false, false, false, false, false] (by kernel_rfl) rfl rfl ⟨(blk_cell BK293.out 0).trans rfl, (blk_cell BK293.out 1).trans rfl, (blk_cell BK293.out 2).trans rfl, (blk_cell BK294.out 0).trans rfl, (blk_cell BK294.out 1).trans rfl⟩ (fun hHeld => ?_); refine with_tabW spec_AppendRecord.tab5 spec_AppendRecord.bits5 (fun HT_ HW_ => ?_)
            generalize wc.drew = w38 at BK293 BK294 BK295 HB hHeld ⊢
            refine pure_ (i := 0) (N := some 19) (v := ?_) (a' := ?_) #[true, false, false, false, false, false, false, false, false] rfl rfl (any_of HT_.out (by kernel_rfl)) (fun _ _ _ h => h) (Or.inl ⟨by rfl, ?_⟩) ?_ ?_
            rotate_left
            · intro w'
              go_simp
              with_reducible rfl
            rotate_left
            · simp only [Act.put, List.setIfInBounds_toArray, List.set_cons_zero, List.set_cons_succ, i64_w, i32_w]
              rfl
            refine pure_ (i := 2) (N := some 21) (v := ?_) (a' := ?_) #[true, false, true, false, false, false, false, false, false] rfl rfl (any_of HT_.out (by kernel_rfl)) (fun _ _ _ h => h) (Or.inl ⟨by rfl, ?_⟩) ?_ ?_
            rotate_left
            · intro w'
              go_simp
              with_reducible rfl
            rotate_left
            · simp only [Act.put, List.setIfInBounds_toArray, List.set_cons_zero, List.set_cons_succ, i64_w, i32_w]
              rfl
            refine take_ (i := 1) (N := some 20) (v := ?_) (a' := ?_) #[true, true, true, false, false, false, false, false, false] rfl rfl (take_ofW HT_.out HW_.out (by kernel_rfl)) (fun _ _ _ h => h) (Or.inl ⟨by rfl, ?_⟩) hHeld ?_ ?_
            rotate_left
            · rintro w' ⟨s0, s1, s2, s3, s4⟩
              go_simp
              with_reducible rfl
            rotate_left
            · simp only [Act.put, List.setIfInBounds_toArray, List.set_cons_zero, List.set_cons_succ, i64_w, i32_w]
              rfl
            refine take_ (i := 3) (N := some 22) (v := ?_) (a' := ?_) #[true, true, true, true, false, false, false, false, false] rfl rfl (take_ofW HT_.out HW_.out (by kernel_rfl)) (fun _ _ _ h => h) (Or.inl ⟨by rfl, ?_⟩) hHeld ?_ ?_
            rotate_left
            · rintro w' ⟨s0, s1, s2, s3, s4⟩
              go_simp
              with_reducible rfl
            rotate_left
            · simp only [Act.put, List.setIfInBounds_toArray, List.set_cons_zero, List.set_cons_succ, i64_w, i32_w]
              rfl
            refine take_ (i := 4) (N := some 23) (v := ?_) (a' := ?_) #[true, true, true, true, true, false, false, false, false] rfl rfl (take_ofW HT_.out HW_.out (by kernel_rfl)) (fun _ _ _ h => h) (Or.inl ⟨by rfl, ?_⟩) hHeld ?_ ?_
            rotate_left
            · rintro w' ⟨s0, s1, s2, s3, s4⟩
              go_simp
              with_reducible rfl
            rotate_left
            · simp only [Act.put, List.setIfInBounds_toArray, List.set_cons_zero, List.set_cons_succ, i64_w, i32_w]
              rfl
            refine one_ (i := 5) (N := some 24) #[true, true, true, true, true, true, false, false, false] rfl rfl (one_of HT_.out (by kernel_rfl)) (by decide) (fun K hK => ?_)
            refine goes_ Tryd.func76 (by kernel_rfl) rfl #[.int .i64 a0_2, .agg #[.string a1_0, .string a1_1]] (by rfl) rfl rfl z20_7 ?_
            with_reducible refine (spec_l12Line.calls kj2 a0_2 a1_0 a1_1 t298 _ A33.out).mono ?_
            rintro e w39 ⟨rfl, hb⟩
            refine ⟨_, rfl, ?_⟩
            have n0_ := Aside0.mk (blk_below (g := gb293) (o := .cells #[.string a0_0, .string a0_1, .int .i64 a0_2] 42 (0, 0)) z20_1 hb)
            have n1_ := Aside0.mk (blk_below (g := gb294) (o := .cells #[.string a1_0, .string a1_1] 38 (0, 0)) z20_2 hb)
            have n2_ := Aside0.mk (blk_below (g := gb295) (o := .cells #[.string (⟨#[]⟩ : ByteArray), .string (⟨#[]⟩ : ByteArray), .int .i64 0] 42 (0, 0)) z20_4 hb)
            have n3_ := Aside0.mk (below_step z20_0 hb)
            clear BK293
            clear BK294
            clear BK295
            clear HB
            have BK293 := n0_
            have BK294 := n1_
            have BK295 := n2_
            have HB := n3_
            clear n0_ n1_ n2_ n3_
            (try clear hb)
            (try clear hb2)
            (try clear hk)
            (try clear hi)
            refine hK.out _ _ ⟨(blk_cell BK293.out 0).trans rfl, (blk_cell BK293.out 1).trans rfl, (blk_cell BK293.out 2).trans rfl, (blk_cell BK294.out 0).trans rfl, (blk_cell BK294.out 1).trans rfl⟩ (fun hHeld => ?_)
            clear hK K
            refine norm_ (a' := ?_) ?_ ?_
            rotate_left
            · show Act.put _ (some 24) _ = _
              simp only [Act.put, List.setIfInBounds_toArray, List.set_cons_zero, List.set_cons_succ, i64_w, i32_w]
              rfl
            refine pure_ (i := 6) (N := some 25) (v := ?_) (a' := ?_) #[true, true, true, true, true, true, true, false, false] rfl rfl (any_of HT_.out (by kernel_rfl)) (fun _ _ _ h => h) (Or.inl ⟨by rfl, ?_⟩) ?_ ?_
            rotate_left
            · intro w'
              go_simp
              with_reducible rfl
            rotate_left
            · simp only [Act.put, List.setIfInBounds_toArray, List.set_cons_zero, List.set_cons_succ, i64_w, i32_w]
              rfl
            refine pure_ (i := 7) (N := some 26) (v := ?_) (a' := ?_) #[true, true, true, true, true, true, true, true, false] rfl rfl (any_of HT_.out (by kernel_rfl)) (fun _ _ _ h => h) (Or.inl ⟨by rfl, ?_⟩) ?_ ?_
            rotate_left
            · intro w'
              go_simp
              with_reducible rfl
            rotate_left
            · simp only [Act.put, List.setIfInBounds_toArray, List.set_cons_zero, List.set_cons_succ, i64_w, i32_w]
              rfl
            refine last_ (i := 8) (N := none) #[true, true, true, true, true, true, true, true, true] rfl rfl (one_of HT_.out (by kernel_rfl)) (by decide) (fun K hK => ?_)
            have hs40 : w39.cell? ⟨gb293, 1, none⟩ = some (.string a0_1) := (blk_cell BK293.out 1).trans rfl
            have hfs40 := blk_frozen BK293.out 1
            have hns40_1 := NB294_293.out
            have hns40_2 := NB295_293.out
            have hms40_1 := NB293_294.out
            have hms40_2 := NB293_295.out
            refine skip_ (w1 := ?_) (by rfl) rfl ?_ ?_
            rotate_left
            · go_simp
              rfl
            refine hK.out _ _ ?_
            clear hK K
            refine done_ (done_of HT_.out (by kernel_rfl)) ?_
            have hcz41_0 : w39.cell? ⟨gb293, 0, none⟩ = some (.string a0_0) := (blk_cell BK293.out 0).trans rfl
            have hcz41_1 : w39.cell? ⟨gb293, 1, none⟩ = some (.string a0_1) := (blk_cell BK293.out 1).trans rfl
            have hcz41_2 : w39.cell? ⟨gb293, 2, none⟩ = some (.int .i64 a0_2) := (blk_cell BK293.out 2).trans rfl
            have hfz41_0 := blk_frozen BK293.out 0
            have hfz41_1 := blk_frozen BK293.out 1
            have hfz41_2 := blk_frozen BK293.out 2
            have hnb42 := NB295_294.out
            have hnc42 := NB294_295.out
            have hcz43_0 : w39.cell? ⟨gb295, 0, none⟩ = some (.string (⟨#[]⟩ : ByteArray)) := (blk_cell BK295.out 0).trans rfl
            have hcz43_1 : w39.cell? ⟨gb295, 1, none⟩ = some (.string (⟨#[]⟩ : ByteArray)) := (blk_cell BK295.out 1).trans rfl
            have hcz43_2 : w39.cell? ⟨gb295, 2, none⟩ = some (.int .i64 0) := (blk_cell BK295.out 2).trans rfl
            have hfz43_0 := blk_frozen BK295.out 0
            have hfz43_1 := blk_frozen BK295.out 1
            have hfz43_2 := blk_frozen BK295.out 2
            try go_wp2
            refine bodyPost_ret (results_ct rfl _ _ gb295 42 #[.string a0_0, .string (a0_1 ++ t298), .int .i64 (wrap64 (a0_2 + 1))] (0, 0) _ rfl (by (with_reducible repeat (first | refine blk_drewN ?_ _ | refine blk_drew ?_ | refine blk_alloc ?_ _)); refine blk_put (cs := #[.string a0_0, .string (a0_1 ++ t298), .int .i64 0]) ?_ 2 _ rfl; (with_reducible repeat (first | refine blk_drewN ?_ _ | refine blk_drew ?_ | refine blk_alloc ?_ _)); refine blk_put (cs := #[.string a0_0, .string (⟨#[]⟩ : ByteArray), .int .i64 0]) ?_ 1 _ rfl; (with_reducible repeat (first | refine blk_drewN ?_ _ | refine blk_drew ?_ | refine blk_alloc ?_ _)); refine blk_put (cs := #[.string (⟨#[]⟩ : ByteArray), .string (⟨#[]⟩ : ByteArray), .int .i64 0]) ?_ 0 _ rfl; (with_reducible repeat (first | refine blk_drewN ?_ _ | refine blk_drew ?_ | refine blk_alloc ?_ _)); refine blk_far ?_ NB295_293.out _; (with_reducible repeat (first | refine blk_drewN ?_ _ | refine blk_drew ?_ | refine blk_alloc ?_ _)); refine blk_far ?_ NB295_293.out _; (with_reducible repeat (first | refine blk_drewN ?_ _ | refine blk_drew ?_ | refine blk_alloc ?_ _)); exact BK295.out) Tryd.underlying42 rfl (by kernel_rfl)) rfl ?_
            exact ⟨by first | rfl | (simp [errW_none, errW_some] <;> rfl) | (simp [*, errW_none, errW_some] <;> rfl), z20_0⟩
          · rw [if_neg c34] at H
            exact absurd H (by simp)
end Go.Proofs.YtgclcjohnnpejaaDoor.Pr
end

section
namespace Go.Proofs.YtgclcjohnnpejaaDoor.Pr
open Go.RowKit Go.Proofs.YtgclcjohnnpejaaDoorW.PrintWords Go.Proofs.YtgclcjohnnpejaaDoorW.PrintLast Go.Proofs.YtgclcjohnnpejaaDoorW.PrintMore
attribute [local go_sem] max2_int min2_int max_two min_two max_three min_three max_four min_four
set_option linter.unusedVariables false
set_option linter.unusedSimpArgs false
theorem z21_0 {P : Prop} (h : P := by repeat (first | (with_reducible first | exact HB.out | apply below_alloc | apply pw_below_drewN | apply below_drew1 | refine below_set ?_ GE299.out | refine below_set ?_ GE300.out | refine below_set ?_ GE301.out) | exact HB.out)) : P := h
theorem z21_1 {P : Prop} (h : P := by (with_reducible repeat (first | refine blk_drewN ?_ _ | refine blk_drew ?_ | refine blk_alloc ?_ _)); exact BK299.out) : P := h
theorem z21_2 {P : Prop} (h : P := by repeat (first | (with_reducible first | exact HB.out | apply below_alloc | apply pw_below_drewN | apply below_drew1 | refine below_set ?_ GE331.out) | exact HB.out)) : P := h
theorem z21_3 {P : Prop} (h : P := by repeat (first | (with_reducible first | exact HB.out | apply below_alloc | apply pw_below_drewN | apply below_drew1) | exact HB.out)) : P := h
theorem z21_4 {P : Prop} (h : P := by (with_reducible repeat (first | refine blk_drewN ?_ _ | refine blk_drew ?_ | refine blk_alloc ?_ _)); exact BK300.out) : P := h
theorem z21_5 {P : Prop} (h : P := by (with_reducible repeat (first | refine blk_drewN ?_ _ | refine blk_drew ?_ | refine blk_alloc ?_ _)); refine blk_put (cs := #[.string a0_0, .string a0_1, .int .i64 0]) ?_ 2 _ rfl; (with_reducible repeat (first | refine blk_drewN ?_ _ | refine blk_drew ?_ | refine blk_alloc ?_ _)); refine blk_put (cs := #[.string a0_0, .string (⟨#[]⟩ : ByteArray), .int .i64 0]) ?_ 1 _ rfl; (with_reducible repeat (first | refine blk_drewN ?_ _ | refine blk_drew ?_ | refine blk_alloc ?_ _)); refine blk_put (cs := #[.string (⟨#[]⟩ : ByteArray), .string (⟨#[]⟩ : ByteArray), .int .i64 0]) ?_ 0 _ rfl; (with_reducible repeat (first | refine blk_drewN ?_ _ | refine blk_drew ?_ | refine blk_alloc ?_ _)); exact BK301.out) : P := h
theorem z21_6 {P : Prop} (h : P := by (try simp only [List.map_toArray, List.map_cons, List.map_nil]); first | done | rfl | (simp only [List.length_drop, List.length_take]; rfl)) : P := h
theorem z21_7 {P : Prop} (h : P := by (with_reducible repeat (first | refine blk_drewN ?_ _ | refine blk_drew ?_ | refine blk_alloc ?_ _)); exact BK301.out) : P := h
theorem z21_8 {P : Prop} (h : P := by repeat (first | (with_reducible first | exact HB.out | apply below_alloc | apply pw_below_drewN | apply below_drew1 | refine below_set ?_ GE299.out | refine below_set ?_ GE300.out) | exact HB.out)) : P := h
theorem z21_9 {P : Prop} (h : P := by first | rfl | (simp [errW_none, errW_some] <;> rfl) | (simp [*, errW_none, errW_some] <;> rfl)) : P := h
theorem z21_10 {P : Prop} (h : P := by (with_reducible repeat (first | refine blk_drewN ?_ _ | refine blk_drew ?_ | refine blk_alloc ?_ _)); exact BK331.out) : P := h
theorem z21_11 {P : Prop} (h : P := by repeat (first | (with_reducible first | exact HB.out | apply below_alloc | apply pw_below_drewN | apply below_drew1 | refine below_set ?_ GE299.out) | exact HB.out)) : P := h
def impl_AppendRecord.j0 : Nat → Bool → ByteArray → ByteArray → Int → ByteArray → ByteArray → Option (ByteArray × ByteArray × Int × Int)
  | 0, _, _, _, _, _, _ => none
  | k + 1, x8, x300000, x300001, x300002, x301000, x301001 => if x8 = true then (some (x300000, x300001, x300002, 1)) else (if x300002 = 60 then (some (x300000, x300001, x300002, 2)) else ((impl_EncodeRecord.f k x300002 x301000 x301001).bind fun bt304 => (if x300001.size + bt304.1.size ≤ 9223372036854775807 then (some (x300000, x300001 ++ bt304.1, wrap64 (x300002 + 1), 0)) else (none))))
def impl_AppendRecord.f (k : Nat) (a0_0 : ByteArray) (a0_1 : ByteArray) (a0_2 : Int) (a1_0 : ByteArray) (a1_1 : ByteArray) : Option (ByteArray × ByteArray × Int × Int) := (impl_IsValidLog.f k a0_0 a0_1 a0_2).bind fun t302 => (if t302 = true then ((impl_IsValidRecord.f k a1_0 a1_1).bind fun t303 => (impl_AppendRecord.j0 k (!t303) a0_0 a0_1 a0_2 a1_0 a1_1)) else (impl_AppendRecord.j0 k true a0_0 a0_1 a0_2 a1_0 a1_1))
theorem impl_AppendRecord.mono_l : ∀ k, (∀ y0 y1 y2 y3 y4 y5, LeO (impl_AppendRecord.j0 k y0 y1 y2 y3 y4 y5) (impl_AppendRecord.j0 (k + 1) y0 y1 y2 y3 y4 y5))
  | 0 => fun _ _ _ _ _ _ r h => by simp [impl_AppendRecord.j0] at h
  | k + 1 => by
    have ih0 := impl_AppendRecord.mono_l k
    · intro y0 y1 y2 y3 y4 y5
      unfold impl_AppendRecord.j0
      repeat' first
      | (with_reducible exact ih0 _ _ _ _ _ _)
      | (with_reducible exact impl_EncodeRecord.mono _ _ _ _)
      | (with_reducible exact impl_IsValidLog.mono _ _ _ _)
      | (with_reducible exact impl_IsValidRecord.mono _ _ _)
      | (with_reducible exact LeO.refl _)
      | (with_reducible exact LeO.none _)
      | (with_reducible refine LeO.ite ?_ ?_)
      | (with_reducible refine LeO.bind ?_ (fun _ => ?_))
      | exact ih0 _ _ _ _ _ _
      | exact impl_EncodeRecord.mono _ _ _ _
      | exact impl_IsValidLog.mono _ _ _ _
      | exact impl_IsValidRecord.mono _ _ _
      | exact LeO.none _
      | refine LeO.ite ?_ ?_
      | refine LeO.bind ?_ (fun _ => ?_)
theorem impl_AppendRecord.mono : ∀ a0 a1 a2 a3 a4 k, LeO (impl_AppendRecord.f k a0 a1 a2 a3 a4) (impl_AppendRecord.f (k + 1) a0 a1 a2 a3 a4) := by
  intro a0 a1 a2 a3 a4 k
  have ih0 := impl_AppendRecord.mono_l k
  unfold impl_AppendRecord.f
  repeat' first
      | (with_reducible exact ih0 _ _ _ _ _ _)
      | (with_reducible exact impl_EncodeRecord.mono _ _ _ _)
      | (with_reducible exact impl_IsValidLog.mono _ _ _ _)
      | (with_reducible exact impl_IsValidRecord.mono _ _ _)
      | (with_reducible exact LeO.refl _)
      | (with_reducible exact LeO.none _)
      | (with_reducible refine LeO.ite ?_ ?_)
      | (with_reducible refine LeO.bind ?_ (fun _ => ?_))
      | exact ih0 _ _ _ _ _ _
      | exact impl_EncodeRecord.mono _ _ _ _
      | exact impl_IsValidLog.mono _ _ _ _
      | exact impl_IsValidRecord.mono _ _ _
      | exact LeO.none _
      | refine LeO.ite ?_ ?_
      | refine LeO.bind ?_ (fun _ => ?_)
set_option maxHeartbeats 8000000 in
set_option maxRecDepth 100000 in
theorem impl_AppendRecord.calls (k : Nat) (a0_0 : ByteArray) (a0_1 : ByteArray) (a0_2 : Int) (a1_0 : ByteArray) (a1_1 : ByteArray) (r1 : ByteArray) (r2 : ByteArray) (r3 : Int) (r4 : Int) (w : World) (hgl : Glob w) (h : impl_AppendRecord.f k a0_0 a0_1 a0_2 a1_0 a1_1 = some (r1, r2, r3, r4)) :
    Calls Tryd.prog 39 #[.agg #[.string a0_0, .string a0_1, .int .i64 a0_2], .agg #[.string a1_0, .string a1_1]] w fun e w' => e = .returned (.tuple #[.agg #[.string r1, .string r2, .int .i64 r3], .int .i64 r4]) ∧ Below w.heap.size w w' := by
  have hu42 := Tryd.underlying42
  have hu38 := Tryd.underlying38
  have HB := Aside0.mk (Below.refl w.heap.size w)
  have HGL := Aside0.mk hgl
  clear hgl
  have H : ((impl_IsValidLog.f k a0_0 a0_1 a0_2).bind fun t302 => (if t302 = true then ((impl_IsValidRecord.f k a1_0 a1_1).bind fun t303 => (impl_AppendRecord.j0 k (!t303) a0_0 a0_1 a0_2 a1_0 a1_1)) else (impl_AppendRecord.j0 k true a0_0 a0_1 a0_2 a1_0 a1_1))) = some (r1, r2, r3, r4) := h
  clear h
  have HC3 := Aside0.mk H
  clear H
  go_enter Tryd.func39, Tryd.ntmps39
  go_upto_region 1 with (first | ((with_reducible refine gate_dst (N := 2) rfl ?_); refine box_event ?hg (N := 2) ?hd (cs := #[.string a0_0, .string a0_1, .int .i64 a0_2]) (t := 42) ?hr ?_; (case hd => rfl); (case hg => rfl); (case hr => first | (go_simp; done) | (go_simp; rfl)); intro gb299 hg w4 hbox hb; have n0_ := Aside0.mk (below_step z21_3 hb); have n1_ := Aside0.mk (hbox); have n2_ := Aside0.mk ((by rw [hg]; exact (below_size z21_3) : w.heap.size ≤ gb299)); have n3_ := Aside0.mk ((by rw [hg]; exact (below_size z21_3) : w.heap.size ≤ gb299)); clear HB; have HB := n0_; have BK299 := n1_; have GW299 := n2_; have GE299 := n3_; clear n0_ n1_ n2_ n3_; clear hb hbox hg) | ((with_reducible refine gate_dst (N := 3) rfl ?_); refine box_event ?hg (N := 3) ?hd (cs := #[.string a1_0, .string a1_1]) (t := 38) ?hr ?_; (case hd => rfl); (case hg => rfl); (case hr => first | (go_simp; done) | (go_simp; rfl)); intro gb300 hg w5 hbox hb; have n0_ := Aside0.mk (blk_below (g := gb299) (o := .cells #[.string a0_0, .string a0_1, .int .i64 a0_2] 42 (0, 0)) z21_1 hb); have n1_ := Aside0.mk (below_step z21_11 hb); have n2_ := Aside0.mk (hbox); have n3_ := Aside0.mk ((by rw [hg]; exact (below_size z21_11) : w.heap.size ≤ gb300)); have n4_ := Aside0.mk ((by rw [hg]; exact (below_size z21_11) : w.heap.size ≤ gb300)); have n5_ := Aside0.mk ((by rw [hg]; exact Nat.ne_of_lt (blk_lt (g := gb299) (o := .cells #[.string a0_0, .string a0_1, .int .i64 a0_2] 42 (0, 0)) z21_1) : gb299 ≠ gb300)); have n6_ := Aside0.mk ((by rw [hg]; exact Nat.ne_of_gt (blk_lt (g := gb299) (o := .cells #[.string a0_0, .string a0_1, .int .i64 a0_2] 42 (0, 0)) z21_1) : gb300 ≠ gb299)); clear BK299; clear HB; have BK299 := n0_; have HB := n1_; have BK300 := n2_; have GW300 := n3_; have GE300 := n4_; have NB299_300 := n5_; have NB300_299 := n6_; clear n0_ n1_ n2_ n3_ n4_ n5_ n6_; clear hb hbox hg) | ((with_reducible refine gate_dst (N := 4) rfl ?_); refine box_event ?hg (N := 4) ?hd (cs := #[.string (⟨#[]⟩ : ByteArray), .string (⟨#[]⟩ : ByteArray), .int .i64 0]) (t := 42) ?hr ?_; (case hd => rfl); (case hg => rfl); (case hr => first | (go_simp; done) | (go_simp; rfl)); intro gb301 hg w6 hbox hb; have n0_ := Aside0.mk (blk_below (g := gb299) (o := .cells #[.string a0_0, .string a0_1, .int .i64 a0_2] 42 (0, 0)) z21_1 hb); have n1_ := Aside0.mk (blk_below (g := gb300) (o := .cells #[.string a1_0, .string a1_1] 38 (0, 0)) z21_4 hb); have n2_ := Aside0.mk (below_step z21_8 hb); have n3_ := Aside0.mk (hbox); have n4_ := Aside0.mk ((by rw [hg]; exact (below_size z21_8) : w.heap.size ≤ gb301)); have n5_ := Aside0.mk ((by rw [hg]; exact (below_size z21_8) : w.heap.size ≤ gb301)); have n6_ := Aside0.mk ((by rw [hg]; exact Nat.ne_of_lt (blk_lt (g := gb299) (o := .cells #[.string a0_0, .string a0_1, .int .i64 a0_2] 42 (0, 0)) z21_1) : gb299 ≠ gb301)); have n7_ := Aside0.mk ((by rw [hg]; exact Nat.ne_of_gt (blk_lt (g := gb299) (o := .cells #[.string a0_0, .string a0_1, .int .i64 a0_2] 42 (0, 0)) z21_1) : gb301 ≠ gb299)); have n8_ := Aside0.mk ((by rw [hg]; exact Nat.ne_of_lt (blk_lt (g := gb300) (o := .cells #[.string a1_0, .string a1_1] 38 (0, 0)) z21_4) : gb300 ≠ gb301)); have n9_ := Aside0.mk ((by rw [hg]; exact Nat.ne_of_gt (blk_lt (g := gb300) (o := .cells #[.string a1_0, .string a1_1] 38 (0, 0)) z21_4) : gb301 ≠ gb300)); clear BK299; clear BK300; clear HB; have BK299 := n0_; have BK300 := n1_; have HB := n2_; have BK301 := n3_; have GW301 := n4_; have GE301 := n5_; have NB299_301 := n6_; have NB301_299 := n7_; have NB300_301 := n8_; have NB301_300 := n9_; clear n0_ n1_ n2_ n3_ n4_ n5_ n6_ n7_ n8_ n9_; clear hb hbox hg))
  (try simp only [Act.put, List.setIfInBounds_toArray, List.set_cons_zero, List.set_cons_succ])
  go_cut [8] (fun v8 wc => ∃ (kq : Nat) (x8_2 : Bool), v8 = .bool x8_2 ∧ Aside0 (impl_AppendRecord.j0 kq x8_2 a0_0 a0_1 a0_2 a1_0 a1_1 = some (r1, r2, r3, r4)) ∧ Aside0 (kq ≤ k) ∧ Aside0 (wc.heap[gb299]? = some (.cells #[.string a0_0, .string a0_1, .int .i64 a0_2] 42 (0, 0))) ∧ Aside0 (wc.heap[gb300]? = some (.cells #[.string a1_0, .string a1_1] 38 (0, 0))) ∧ Aside0 (wc.heap[gb301]? = some (.cells #[.string (⟨#[]⟩ : ByteArray), .string (⟨#[]⟩ : ByteArray), .int .i64 0] 42 (0, 0))) ∧ Aside0 (Below w.heap.size w wc))
  case first =>
    have H := HC3.out
    clear HC3
    replace H := Option.bind_eq_some_iff.mp H
    obtain ⟨t302, A70, H⟩ := H
    replace H : (if t302 = true then ((impl_IsValidRecord.f k a1_0 a1_1).bind fun t303 => (impl_AppendRecord.j0 k (!t303) a0_0 a0_1 a0_2 a1_0 a1_1)) else (impl_AppendRecord.j0 k true a0_0 a0_1 a0_2 a1_0 a1_1)) = some (r1, r2, r3, r4) := H
    have A7 := Aside0.mk A70
    clear A70
    by_cases c8 : t302 = true
    · subst c8
      have H1 : ((impl_IsValidRecord.f k a1_0 a1_1).bind fun t303 => (impl_AppendRecord.j0 k (!t303) a0_0 a0_1 a0_2 a1_0 a1_1)) = some (r1, r2, r3, r4) := by rw [if_pos rfl] at H; exact H
      clear H
      have H := H1
      clear H1
      replace H := Option.bind_eq_some_iff.mp H
      obtain ⟨t303, A90, H⟩ := H
      replace H : (impl_AppendRecord.j0 k (!t303) a0_0 a0_1 a0_2 a1_0 a1_1) = some (r1, r2, r3, r4) := H
      have A9 := Aside0.mk A90
      clear A90
      have H' := Aside0.mk H
      clear H
      have hnb10 := NB299_300.out
      have hnc10 := NB300_299.out
      have hnb11 := NB299_301.out
      have hnc11 := NB301_299.out
      have hcz12_0 : w6.cell? ⟨gb299, 0, none⟩ = some (.string a0_0) := (blk_cell BK299.out 0).trans rfl
      have hcz12_1 : w6.cell? ⟨gb299, 1, none⟩ = some (.string a0_1) := (blk_cell BK299.out 1).trans rfl
      have hcz12_2 : w6.cell? ⟨gb299, 2, none⟩ = some (.int .i64 a0_2) := (blk_cell BK299.out 2).trans rfl
      have hfz12_0 := blk_frozen BK299.out 0
      have hfz12_1 := blk_frozen BK299.out 1
      have hfz12_2 := blk_frozen BK299.out 2
      go_wp2_with (first | ((with_reducible refine gate_callee (f := 33) rfl ?_); refine goesL_ (some 10) rfl rfl Tryd.func33 (by kernel_rfl) rfl #[.agg #[.string a0_0, .string a0_1, .int .i64 a0_2]] rfl z21_6 ?_; (with_reducible refine (impl_IsValidLog.calls k a0_0 a0_1 a0_2 true _ ?side1 A7.out).mono ?_); (case side1 => exact Glob.below HGL.out z21_0); rintro e w13 ⟨rfl, hb⟩; refine ⟨_, rfl, ?_⟩; have n0_ := Aside0.mk (blk_below (g := gb299) (o := .cells #[.string a0_0, .string a0_1, .int .i64 a0_2] 42 (0, 0)) z21_1 hb); have n1_ := Aside0.mk (blk_below (g := gb300) (o := .cells #[.string a1_0, .string a1_1] 38 (0, 0)) z21_4 hb); have n2_ := Aside0.mk (blk_below (g := gb301) (o := .cells #[.string (⟨#[]⟩ : ByteArray), .string (⟨#[]⟩ : ByteArray), .int .i64 0] 42 (0, 0)) z21_7 hb); have n3_ := Aside0.mk (below_step z21_0 hb); clear BK299; clear BK300; clear BK301; clear HB; have BK299 := n0_; have BK300 := n1_; have BK301 := n2_; have HB := n3_; clear n0_ n1_ n2_ n3_; (try clear hb); (try clear hb2); (try clear hk); (try clear hi); have hnb14 := NB300_301.out; have hnc14 := NB301_300.out; have hcz15_0 : w13.cell? ⟨gb300, 0, none⟩ = some (.string a1_0) := (blk_cell BK300.out 0).trans rfl; have hcz15_1 : w13.cell? ⟨gb300, 1, none⟩ = some (.string a1_1) := (blk_cell BK300.out 1).trans rfl; have hfz15_0 := blk_frozen BK300.out 0; have hfz15_1 := blk_frozen BK300.out 1) | (go_at_call 50; (with_reducible refine (impl_IsValidRecord.calls k a1_0 a1_1 t303 _ A9.out).mono ?_); rintro e w16 ⟨rfl, hb⟩; have n0_ := Aside0.mk (blk_below (g := gb299) (o := .cells #[.string a0_0, .string a0_1, .int .i64 a0_2] 42 (0, 0)) z21_1 hb); have n1_ := Aside0.mk (blk_below (g := gb300) (o := .cells #[.string a1_0, .string a1_1] 38 (0, 0)) z21_4 hb); have n2_ := Aside0.mk (blk_below (g := gb301) (o := .cells #[.string (⟨#[]⟩ : ByteArray), .string (⟨#[]⟩ : ByteArray), .int .i64 0] 42 (0, 0)) z21_7 hb); have n3_ := Aside0.mk (below_step z21_0 hb); clear BK299; clear BK300; clear BK301; clear HB; have BK299 := n0_; have BK300 := n1_; have BK301 := n2_; have HB := n3_; clear n0_ n1_ n2_ n3_; (try clear hb); (try clear hb2); (try clear hk); (try clear hi)))
      go_meet
      case rel => exact ⟨_, (!t303), (by first | rfl | (simp; done) | (simp [*]; done)), H', ⟨by first | omega | exact Nat.le_refl _⟩, ⟨z21_1⟩, ⟨z21_4⟩, ⟨z21_7⟩, ⟨z21_0⟩⟩
    · replace c8 := Bool.eq_false_iff.mpr c8
      subst c8
      have H1 : (impl_AppendRecord.j0 k true a0_0 a0_1 a0_2 a1_0 a1_1) = some (r1, r2, r3, r4) := by rw [if_neg (show ¬ (false = true) by decide)] at H; exact H
      clear H
      have H := H1
      clear H1
      have H' := Aside0.mk H
      clear H
      have hnb17 := NB299_300.out
      have hnc17 := NB300_299.out
      have hnb18 := NB299_301.out
      have hnc18 := NB301_299.out
      have hcz19_0 : w6.cell? ⟨gb299, 0, none⟩ = some (.string a0_0) := (blk_cell BK299.out 0).trans rfl
      have hcz19_1 : w6.cell? ⟨gb299, 1, none⟩ = some (.string a0_1) := (blk_cell BK299.out 1).trans rfl
      have hcz19_2 : w6.cell? ⟨gb299, 2, none⟩ = some (.int .i64 a0_2) := (blk_cell BK299.out 2).trans rfl
      have hfz19_0 := blk_frozen BK299.out 0
      have hfz19_1 := blk_frozen BK299.out 1
      have hfz19_2 := blk_frozen BK299.out 2
      go_wp2_with (first | ((with_reducible refine gate_callee (f := 33) rfl ?_); refine goesL_ (some 10) rfl rfl Tryd.func33 (by kernel_rfl) rfl #[.agg #[.string a0_0, .string a0_1, .int .i64 a0_2]] rfl z21_6 ?_; (with_reducible refine (impl_IsValidLog.calls k a0_0 a0_1 a0_2 false _ ?side1 A7.out).mono ?_); (case side1 => exact Glob.below HGL.out z21_0); rintro e w20 ⟨rfl, hb⟩; refine ⟨_, rfl, ?_⟩; have n0_ := Aside0.mk (blk_below (g := gb299) (o := .cells #[.string a0_0, .string a0_1, .int .i64 a0_2] 42 (0, 0)) z21_1 hb); have n1_ := Aside0.mk (blk_below (g := gb300) (o := .cells #[.string a1_0, .string a1_1] 38 (0, 0)) z21_4 hb); have n2_ := Aside0.mk (blk_below (g := gb301) (o := .cells #[.string (⟨#[]⟩ : ByteArray), .string (⟨#[]⟩ : ByteArray), .int .i64 0] 42 (0, 0)) z21_7 hb); have n3_ := Aside0.mk (below_step z21_0 hb); clear BK299; clear BK300; clear BK301; clear HB; have BK299 := n0_; have BK300 := n1_; have BK301 := n2_; have HB := n3_; clear n0_ n1_ n2_ n3_; (try clear hb); (try clear hb2); (try clear hk); (try clear hi)))
      go_meet
      case rel => exact ⟨_, (true), (by first | rfl | (simp; done) | (simp [*]; done)), H', ⟨by first | omega | exact Nat.le_refl _⟩, ⟨z21_1⟩, ⟨z21_4⟩, ⟨z21_7⟩, ⟨z21_0⟩⟩
  case rest =>
    clear HC3
    try clear c1
    try clear p2
    try clear c3
    try clear c8
    try clear c10
    try clear c11
    try clear c14
    try clear c17
    try clear c18
    try clear hcz12_0
    try clear hcz12_1
    try clear hcz12_2
    try clear hcz15_0
    try clear hcz15_1
    try clear hcz19_0
    try clear hcz19_1
    try clear hcz19_2
    try clear hfz12_0
    try clear hfz12_1
    try clear hfz12_2
    try clear hfz15_0
    try clear hfz15_1
    try clear hfz19_0
    try clear hfz19_1
    try clear hfz19_2
    obtain ⟨kq, x8_2, rfl, HA, HJ2, BK299, BK300, BK301, HB⟩ := hcut
    cases kq with
    | zero => exact absurd HA.out (by simp [impl_AppendRecord.j0])
    | succ kj2 =>
      have H := HA.out
      clear HA
      simp only [impl_AppendRecord.j0] at H
      by_cases c21 : x8_2 = true
      · subst c21
        have H1 : (some (a0_0, a0_1, a0_2, 1)) = some (r1, r2, r3, r4) := by rw [if_pos rfl] at H; exact H
        clear H
        have H := H1
        clear H1
        simp only [Option.some.injEq, Prod.mk.injEq] at H
        obtain ⟨rfl, rfl, rfl, rfl⟩ := H
        have hnb22 := NB299_300.out
        have hnc22 := NB300_299.out
        have hnb23 := NB299_301.out
        have hnc23 := NB301_299.out
        have hcz24_0 : wc.cell? ⟨gb299, 0, none⟩ = some (.string a0_0) := (blk_cell BK299.out 0).trans rfl
        have hcz24_1 : wc.cell? ⟨gb299, 1, none⟩ = some (.string a0_1) := (blk_cell BK299.out 1).trans rfl
        have hcz24_2 : wc.cell? ⟨gb299, 2, none⟩ = some (.int .i64 a0_2) := (blk_cell BK299.out 2).trans rfl
        have hfz24_0 := blk_frozen BK299.out 0
        have hfz24_1 := blk_frozen BK299.out 1
        have hfz24_2 := blk_frozen BK299.out 2
        have hnb25 := NB301_300.out
        have hnc25 := NB300_301.out
        have hcz26_0 : wc.cell? ⟨gb301, 0, none⟩ = some (.string (⟨#[]⟩ : ByteArray)) := (blk_cell BK301.out 0).trans rfl
        have hcz26_1 : wc.cell? ⟨gb301, 1, none⟩ = some (.string (⟨#[]⟩ : ByteArray)) := (blk_cell BK301.out 1).trans rfl
        have hcz26_2 : wc.cell? ⟨gb301, 2, none⟩ = some (.int .i64 0) := (blk_cell BK301.out 2).trans rfl
        have hfz26_0 := blk_frozen BK301.out 0
        have hfz26_1 := blk_frozen BK301.out 1
        have hfz26_2 := blk_frozen BK301.out 2
        go_wp2
        refine bodyPost_ret (results_ct rfl _ _ gb301 42 #[.string a0_0, .string a0_1, .int .i64 a0_2] (0, 0) _ rfl z21_5 Tryd.underlying42 rfl (by kernel_rfl)) rfl ?_
        exact ⟨z21_9, z21_0⟩
      · replace c21 := Bool.eq_false_iff.mpr c21
        subst c21
        have H1 : (if a0_2 = 60 then (some (a0_0, a0_1, a0_2, 2)) else ((impl_EncodeRecord.f kj2 a0_2 a1_0 a1_1).bind fun bt304 => (if a0_1.size + bt304.1.size ≤ 9223372036854775807 then (some (a0_0, a0_1 ++ bt304.1, wrap64 (a0_2 + 1), 0)) else (none)))) = some (r1, r2, r3, r4) := by rw [if_neg (show ¬ (false = true) by decide)] at H; exact H
        clear H
        have H := H1
        clear H1
        by_cases c27 : a0_2 = 60
        · rw [if_pos c27] at H
          have c27b0 : (a0_2 == 60) = true := beq_iff_eq.mpr c27
          have c27b1 : (a0_2 != 60) = false := bne_eq_false_iff_eq.mpr c27
          clear c27
          simp only [Option.some.injEq, Prod.mk.injEq] at H
          obtain ⟨rfl, rfl, rfl, rfl⟩ := H
          have hnb28 := NB299_300.out
          have hnc28 := NB300_299.out
          have hnb29 := NB299_301.out
          have hnc29 := NB301_299.out
          have hcz30_0 : wc.cell? ⟨gb299, 0, none⟩ = some (.string a0_0) := (blk_cell BK299.out 0).trans rfl
          have hcz30_1 : wc.cell? ⟨gb299, 1, none⟩ = some (.string a0_1) := (blk_cell BK299.out 1).trans rfl
          have hcz30_2 : wc.cell? ⟨gb299, 2, none⟩ = some (.int .i64 a0_2) := (blk_cell BK299.out 2).trans rfl
          have hfz30_0 := blk_frozen BK299.out 0
          have hfz30_1 := blk_frozen BK299.out 1
          have hfz30_2 := blk_frozen BK299.out 2
          have hnb31 := NB301_300.out
          have hnc31 := NB300_301.out
          have hcz32_0 : wc.cell? ⟨gb301, 0, none⟩ = some (.string (⟨#[]⟩ : ByteArray)) := (blk_cell BK301.out 0).trans rfl
          have hcz32_1 : wc.cell? ⟨gb301, 1, none⟩ = some (.string (⟨#[]⟩ : ByteArray)) := (blk_cell BK301.out 1).trans rfl
          have hcz32_2 : wc.cell? ⟨gb301, 2, none⟩ = some (.int .i64 0) := (blk_cell BK301.out 2).trans rfl
          have hfz32_0 := blk_frozen BK301.out 0
          have hfz32_1 := blk_frozen BK301.out 1
          have hfz32_2 := blk_frozen BK301.out 2
          go_wp2
          refine bodyPost_ret (results_ct rfl _ _ gb301 42 #[.string a0_0, .string a0_1, .int .i64 a0_2] (0, 0) _ rfl z21_5 Tryd.underlying42 rfl (by kernel_rfl)) rfl ?_
          exact ⟨z21_9, z21_0⟩
        · rw [if_neg c27] at H
          have c27b0 : (a0_2 == 60) = false := beq_eq_false_iff_ne.mpr c27
          have c27b1 : (a0_2 != 60) = true := bne_iff_ne.mpr c27
          replace H := Option.bind_eq_some_iff.mp H
          obtain ⟨⟨t304, t305⟩, A330, H⟩ := H
          replace H : (if a0_1.size + t304.size ≤ 9223372036854775807 then (some (a0_0, a0_1 ++ t304, wrap64 (a0_2 + 1), 0)) else (none)) = some (r1, r2, r3, r4) := H
          have A33 := Aside0.mk A330
          clear A330
          by_cases c34 : a0_1.size + t304.size ≤ 9223372036854775807
          · rw [if_pos c34] at H
            have c34b0 := eq_true c34
            have c34b1 : decide (a0_1.size + t304.size ≤ 9223372036854775807) = true := decide_eq_true c34
            try have c34b2 : (9223372036854775807 < a0_1.size + t304.size) = False := eq_false (Nat.not_lt.2 c34)
            simp only [Option.some.injEq, Prod.mk.injEq] at H
            obtain ⟨rfl, rfl, rfl, rfl⟩ := H
            have hnb35 := NB299_300.out
            have hnc35 := NB300_299.out
            have hnb36 := NB299_301.out
            have hnc36 := NB301_299.out
            have hcz37_0 : wc.cell? ⟨gb299, 0, none⟩ = some (.string a0_0) := (blk_cell BK299.out 0).trans rfl
            have hcz37_1 : wc.cell? ⟨gb299, 1, none⟩ = some (.string a0_1) := (blk_cell BK299.out 1).trans rfl
            have hcz37_2 : wc.cell? ⟨gb299, 2, none⟩ = some (.int .i64 a0_2) := (blk_cell BK299.out 2).trans rfl
            have hfz37_0 := blk_frozen BK299.out 0
            have hfz37_1 := blk_frozen BK299.out 1
            have hfz37_2 := blk_frozen BK299.out 2
            have hnb38 := NB300_301.out
            have hnc38 := NB301_300.out
            have hcz39_0 : wc.cell? ⟨gb300, 0, none⟩ = some (.string a1_0) := (blk_cell BK300.out 0).trans rfl
            have hcz39_1 : wc.cell? ⟨gb300, 1, none⟩ = some (.string a1_1) := (blk_cell BK300.out 1).trans rfl
            have hfz39_0 := blk_frozen BK300.out 0
            have hfz39_1 := blk_frozen BK300.out 1
            go_wp2_with (first | ((with_reducible refine gate_callee (f := 26) rfl ?_); refine goesL_ (some 27) rfl rfl Tryd.func26 (by kernel_rfl) rfl #[.int .i64 a0_2, .agg #[.string a1_0, .string a1_1]] rfl z21_6 ?_; (with_reducible refine (impl_EncodeRecord.calls kj2 a0_2 a1_0 a1_1 t304 t305 _ ?side1 A33.out).mono ?_); (case side1 => exact Glob.below HGL.out z21_0); rintro e w40 ⟨rfl, hb⟩; refine ⟨_, rfl, ?_⟩; have n0_ := Aside0.mk (blk_below (g := gb299) (o := .cells #[.string a0_0, .string a0_1, .int .i64 a0_2] 42 (0, 0)) z21_1 hb); have n1_ := Aside0.mk (blk_below (g := gb300) (o := .cells #[.string a1_0, .string a1_1] 38 (0, 0)) z21_4 hb); have n2_ := Aside0.mk (blk_below (g := gb301) (o := .cells #[.string (⟨#[]⟩ : ByteArray), .string (⟨#[]⟩ : ByteArray), .int .i64 0] 42 (0, 0)) z21_7 hb); have n3_ := Aside0.mk (below_step z21_0 hb); clear BK299; clear BK300; clear BK301; clear HB; have BK299 := n0_; have BK300 := n1_; have BK301 := n2_; have HB := n3_; clear n0_ n1_ n2_ n3_; (try clear hb); (try clear hb2); (try clear hk); (try clear hi); have hcz41_0 : w40.cell? ⟨gb299, 0, none⟩ = some (.string a0_0) := (blk_cell BK299.out 0).trans rfl; have hcz41_1 : w40.cell? ⟨gb299, 1, none⟩ = some (.string a0_1) := (blk_cell BK299.out 1).trans rfl; have hcz41_2 : w40.cell? ⟨gb299, 2, none⟩ = some (.int .i64 a0_2) := (blk_cell BK299.out 2).trans rfl; have hfz41_0 := blk_frozen BK299.out 0; have hfz41_1 := blk_frozen BK299.out 1; have hfz41_2 := blk_frozen BK299.out 2; have hcz42_0 : w40.cell? ⟨gb301, 0, none⟩ = some (.string (⟨#[]⟩ : ByteArray)) := (blk_cell BK301.out 0).trans rfl; have hcz42_1 : w40.cell? ⟨gb301, 1, none⟩ = some (.string (⟨#[]⟩ : ByteArray)) := (blk_cell BK301.out 1).trans rfl; have hcz42_2 : w40.cell? ⟨gb301, 2, none⟩ = some (.int .i64 0) := (blk_cell BK301.out 2).trans rfl; have hfz42_0 := blk_frozen BK301.out 0; have hfz42_1 := blk_frozen BK301.out 1; have hfz42_2 := blk_frozen BK301.out 2))
            refine bodyPost_ret (results_ct rfl _ _ gb301 42 #[.string a0_0, .string (a0_1 ++ t304), .int .i64 (wrap64 (a0_2 + 1))] (0, 0) _ rfl (by (with_reducible repeat (first | refine blk_drewN ?_ _ | refine blk_drew ?_ | refine blk_alloc ?_ _)); refine blk_put (cs := #[.string a0_0, .string (a0_1 ++ t304), .int .i64 0]) ?_ 2 _ rfl; (with_reducible repeat (first | refine blk_drewN ?_ _ | refine blk_drew ?_ | refine blk_alloc ?_ _)); refine blk_put (cs := #[.string a0_0, .string (⟨#[]⟩ : ByteArray), .int .i64 0]) ?_ 1 _ rfl; (with_reducible repeat (first | refine blk_drewN ?_ _ | refine blk_drew ?_ | refine blk_alloc ?_ _)); refine blk_put (cs := #[.string (⟨#[]⟩ : ByteArray), .string (⟨#[]⟩ : ByteArray), .int .i64 0]) ?_ 0 _ rfl; (with_reducible repeat (first | refine blk_drewN ?_ _ | refine blk_drew ?_ | refine blk_alloc ?_ _)); exact BK301.out) Tryd.underlying42 rfl (by kernel_rfl)) rfl ?_
            exact ⟨z21_9, z21_0⟩
          · rw [if_neg c34] at H
            exact absurd H (by simp)
def spec_LogRecords.f (k : Nat) (a0_0 : ByteArray) (a0_1 : ByteArray) (a0_2 : Int) : Option ((List (S38)) × Bool) := (spec_l12Valid.f k a0_0 a0_1 a0_2).bind fun t332 => (if t332 = true then (if a0_0.size + a0_1.size ≤ 9223372036854775807 then ((spec_l12Open.f k (a0_0 ++ a0_1)).bind fun bt333 => (some (bt333.1, true))) else (none)) else (some ((([] : List (S38))), false)))
theorem spec_LogRecords.mono : ∀ a0 a1 a2 k, LeO (spec_LogRecords.f k a0 a1 a2) (spec_LogRecords.f (k + 1) a0 a1 a2) := by
  intro a0 a1 a2 k
  unfold spec_LogRecords.f
  repeat' first
      | (with_reducible exact spec_l12Open.mono _ _)
      | (with_reducible exact spec_l12Valid.mono _ _ _ _)
      | (with_reducible exact LeO.refl _)
      | (with_reducible exact LeO.none _)
      | (with_reducible refine LeO.ite ?_ ?_)
      | (with_reducible refine LeO.bind ?_ (fun _ => ?_))
      | exact spec_l12Open.mono _ _
      | exact spec_l12Valid.mono _ _ _ _
      | exact LeO.none _
      | refine LeO.ite ?_ ?_
      | refine LeO.bind ?_ (fun _ => ?_)
set_option maxHeartbeats 8000000 in
set_option maxRecDepth 100000 in
theorem spec_LogRecords.calls (k : Nat) (a0_0 : ByteArray) (a0_1 : ByteArray) (a0_2 : Int) (r1 : List (S38)) (r2 : Bool) (w : World) (h : spec_LogRecords.f k a0_0 a0_1 a0_2 = some (r1, r2)) :
    Calls Tryd.prog 40 #[.agg #[.string a0_0, .string a0_1, .int .i64 a0_2]] w fun e w' => ∃ v0_ : Value, e = .returned (.tuple #[v0_, .bool r2]) ∧ Kd.R k38 38 w' w.heap.size (fun _ => True) v0_ r1 ∧ Below w.heap.size w w' := by
  have hu42 := Tryd.underlying42
  have HB := Aside0.mk (Below.refl w.heap.size w)
  have H : ((spec_l12Valid.f k a0_0 a0_1 a0_2).bind fun t332 => (if t332 = true then (if a0_0.size + a0_1.size ≤ 9223372036854775807 then ((spec_l12Open.f k (a0_0 ++ a0_1)).bind fun bt333 => (some (bt333.1, true))) else (none)) else (some ((([] : List (S38))), false)))) = some (r1, r2) := h
  clear h
  replace H := Option.bind_eq_some_iff.mp H
  obtain ⟨t332, A20, H⟩ := H
  replace H : (if t332 = true then (if a0_0.size + a0_1.size ≤ 9223372036854775807 then ((spec_l12Open.f k (a0_0 ++ a0_1)).bind fun bt333 => (some (bt333.1, true))) else (none)) else (some ((([] : List (S38))), false))) = some (r1, r2) := H
  have A2 := Aside0.mk A20
  clear A20
  by_cases c3 : t332 = true
  · subst c3
    have H1 : (if a0_0.size + a0_1.size ≤ 9223372036854775807 then ((spec_l12Open.f k (a0_0 ++ a0_1)).bind fun bt333 => (some (bt333.1, true))) else (none)) = some (r1, r2) := by rw [if_pos rfl] at H; exact H
    clear H
    have H := H1
    clear H1
    by_cases c4 : a0_0.size + a0_1.size ≤ 9223372036854775807
    · rw [if_pos c4] at H
      have c4b0 := eq_true c4
      have c4b1 : decide (a0_0.size + a0_1.size ≤ 9223372036854775807) = true := decide_eq_true c4
      try have c4b2 : (9223372036854775807 < a0_0.size + a0_1.size) = False := eq_false (Nat.not_lt.2 c4)
      replace H := Option.bind_eq_some_iff.mp H
      obtain ⟨⟨t333, t334⟩, A50, H⟩ := H
      replace H : (some (t333, true)) = some (r1, r2) := H
      have A5 := Aside0.mk A50
      clear A50
      simp only [Option.some.injEq, Prod.mk.injEq] at H
      obtain ⟨rfl, rfl⟩ := H
      go_enter Tryd.func40, Tryd.ntmps40
      go_wp2_with (first | ((with_reducible refine gate_dst (N := 1) rfl ?_); refine box_event ?hg (N := 1) ?hd (cs := #[.string a0_0, .string a0_1, .int .i64 a0_2]) (t := 42) ?hr ?_; (case hd => rfl); (case hg => rfl); (case hr => first | (go_simp; done) | (go_simp; rfl)); intro gb331 hg w6 hbox hb; have n0_ := Aside0.mk (below_step z21_3 hb); have n1_ := Aside0.mk (hbox); have n2_ := Aside0.mk ((by rw [hg]; exact (below_size z21_3) : w.heap.size ≤ gb331)); have n3_ := Aside0.mk ((by rw [hg]; exact (below_size z21_3) : w.heap.size ≤ gb331)); clear HB; have HB := n0_; have BK331 := n1_; have GW331 := n2_; have GE331 := n3_; clear n0_ n1_ n2_ n3_; clear hb hbox hg; have hcz7_0 : w6.cell? ⟨gb331, 0, none⟩ = some (.string a0_0) := (blk_cell BK331.out 0).trans rfl; have hcz7_1 : w6.cell? ⟨gb331, 1, none⟩ = some (.string a0_1) := (blk_cell BK331.out 1).trans rfl; have hcz7_2 : w6.cell? ⟨gb331, 2, none⟩ = some (.int .i64 a0_2) := (blk_cell BK331.out 2).trans rfl; have hfz7_0 := blk_frozen BK331.out 0; have hfz7_1 := blk_frozen BK331.out 1; have hfz7_2 := blk_frozen BK331.out 2) | ((with_reducible refine gate_callee (f := 81) rfl ?_); refine goesL_ (some 7) rfl rfl Tryd.func81 (by kernel_rfl) rfl #[.agg #[.string a0_0, .string a0_1, .int .i64 a0_2]] rfl z21_6 ?_; (with_reducible refine (spec_l12Valid.calls k a0_0 a0_1 a0_2 true _ A2.out).mono ?_); rintro e w8 ⟨rfl, hb⟩; refine ⟨_, rfl, ?_⟩; have n0_ := Aside0.mk (blk_below (g := gb331) (o := .cells #[.string a0_0, .string a0_1, .int .i64 a0_2] 42 (0, 0)) z21_10 hb); have n1_ := Aside0.mk (below_step z21_2 hb); clear BK331; clear HB; have BK331 := n0_; have HB := n1_; clear n0_ n1_; (try clear hb); (try clear hb2); (try clear hk); (try clear hi); have hcz9_0 : w8.cell? ⟨gb331, 0, none⟩ = some (.string a0_0) := (blk_cell BK331.out 0).trans rfl; have hcz9_1 : w8.cell? ⟨gb331, 1, none⟩ = some (.string a0_1) := (blk_cell BK331.out 1).trans rfl; have hcz9_2 : w8.cell? ⟨gb331, 2, none⟩ = some (.int .i64 a0_2) := (blk_cell BK331.out 2).trans rfl; have hfz9_0 := blk_frozen BK331.out 0; have hfz9_1 := blk_frozen BK331.out 1; have hfz9_2 := blk_frozen BK331.out 2) | ((with_reducible refine gate_callee (f := 79) rfl ?_); refine goesL_ (some 16) rfl rfl Tryd.func79 (by kernel_rfl) rfl #[.string (a0_0 ++ a0_1)] rfl z21_6 ?_; (with_reducible refine (spec_l12Open.calls k (a0_0 ++ a0_1) t333 t334 _ A5.out).mono ?_); rintro e w10 ⟨v335, rfl, ho0, hb⟩; refine ⟨_, rfl, ?_⟩; have n0_ := Aside0.mk (Kd.R_lower ho0 (below_size z21_2)); have n1_ := Aside0.mk (blk_below (g := gb331) (o := .cells #[.string a0_0, .string a0_1, .int .i64 a0_2] 42 (0, 0)) z21_10 hb); have n2_ := Aside0.mk (below_step z21_2 hb); clear BK331; clear HB; have HO336 := n0_; have BK331 := n1_; have HB := n2_; clear n0_ n1_ n2_; (try clear hb); (try clear hb2); (try clear hk); (try clear hi); (try clear ho0)))
      go_ret2
      exact ⟨_, z21_9, by (with_reducible repeat (first | apply Kd.R_alloc | apply Kd.R_drewN | apply Kd.R_drew)); exact HO336.out, z21_2⟩
    · rw [if_neg c4] at H
      exact absurd H (by simp)
  · replace c3 := Bool.eq_false_iff.mpr c3
    subst c3
    have H1 : (some ((([] : List (S38))), false)) = some (r1, r2) := by rw [if_neg (show ¬ (false = true) by decide)] at H; exact H
    clear H
    have H := H1
    clear H1
    obtain ⟨y337, hy337⟩ : ∃ y_ : List (S38), y_ = (([] : List (S38))) := ⟨_, rfl⟩
    replace H : (some (y337, false)) = some (r1, r2) := by first | (rw [hy337]; with_reducible exact H) | (have H2_ := (Option.bind_some _ _).symm.trans H; rw [hy337]; with_reducible exact H2_) | (have H2_ := (Option.bind_some _ _).symm.trans H; with_reducible exact H2_) | with_reducible exact H | (rw [hy337]; exact H) | exact H
    have Ny337 := Aside0.mk hy337
    clear hy337
    simp only [Option.some.injEq, Prod.mk.injEq] at H
    obtain ⟨rfl, rfl⟩ := H
    go_enter Tryd.func40, Tryd.ntmps40
    go_wp2_with (first | ((with_reducible refine gate_dst (N := 1) rfl ?_); refine box_event ?hg (N := 1) ?hd (cs := #[.string a0_0, .string a0_1, .int .i64 a0_2]) (t := 42) ?hr ?_; (case hd => rfl); (case hg => rfl); (case hr => first | (go_simp; done) | (go_simp; rfl)); intro gb331 hg w11 hbox hb; have n0_ := Aside0.mk (below_step z21_3 hb); have n1_ := Aside0.mk (hbox); have n2_ := Aside0.mk ((by rw [hg]; exact (below_size z21_3) : w.heap.size ≤ gb331)); have n3_ := Aside0.mk ((by rw [hg]; exact (below_size z21_3) : w.heap.size ≤ gb331)); clear HB; have HB := n0_; have BK331 := n1_; have GW331 := n2_; have GE331 := n3_; clear n0_ n1_ n2_ n3_; clear hb hbox hg; have hcz12_0 : w11.cell? ⟨gb331, 0, none⟩ = some (.string a0_0) := (blk_cell BK331.out 0).trans rfl; have hcz12_1 : w11.cell? ⟨gb331, 1, none⟩ = some (.string a0_1) := (blk_cell BK331.out 1).trans rfl; have hcz12_2 : w11.cell? ⟨gb331, 2, none⟩ = some (.int .i64 a0_2) := (blk_cell BK331.out 2).trans rfl; have hfz12_0 := blk_frozen BK331.out 0; have hfz12_1 := blk_frozen BK331.out 1; have hfz12_2 := blk_frozen BK331.out 2) | ((with_reducible refine gate_callee (f := 81) rfl ?_); refine goesL_ (some 7) rfl rfl Tryd.func81 (by kernel_rfl) rfl #[.agg #[.string a0_0, .string a0_1, .int .i64 a0_2]] rfl z21_6 ?_; (with_reducible refine (spec_l12Valid.calls k a0_0 a0_1 a0_2 false _ A2.out).mono ?_); rintro e w13 ⟨rfl, hb⟩; refine ⟨_, rfl, ?_⟩; have n0_ := Aside0.mk (blk_below (g := gb331) (o := .cells #[.string a0_0, .string a0_1, .int .i64 a0_2] 42 (0, 0)) z21_10 hb); have n1_ := Aside0.mk (below_step z21_2 hb); clear BK331; clear HB; have BK331 := n0_; have HB := n1_; clear n0_ n1_; (try clear hb); (try clear hb2); (try clear hk); (try clear hi)) | ((with_reducible refine gate_dst (N := 9) rfl ?_); refine Kd.R_lit k38 _ 38 ?hg (N := 9) ?hd (xs := ([] : List (S38))) (inner := []) (ok := fun _ => True) (okp := fun _ => True) ?hr ?hp (fun _ hk => hk) trivial (Below.refl _ _) (Nat.le_refl _) (by simp) ?_; (case hd => rfl); (case hg => rfl); (case hr => first | (go_simp; done) | (go_simp; rfl)); (case hp => exact (Reps.none _ _)); intro v338 w14 ho15 hb hg_ hnew_; clear hg_ hnew_; (first | rw [← Ny337.out] at ho15 | (simp only [Int.reduceToNat] at ho15; rw [← Ny337.out] at ho15)); have n0_ := Aside0.mk (Kd.R_lower ho15 (below_size z21_2)); have n1_ := Aside0.mk (blk_below (g := gb331) (o := .cells #[.string a0_0, .string a0_1, .int .i64 a0_2] 42 (0, 0)) z21_10 hb); have n2_ := Aside0.mk (below_step z21_2 hb); clear BK331; clear HB; have HO339 := n0_; have BK331 := n1_; have HB := n2_; clear n0_ n1_ n2_; clear hb ho15))
    go_ret2
    exact ⟨_, z21_9, by (with_reducible repeat (first | apply Kd.R_alloc | apply Kd.R_drewN | apply Kd.R_drew)); exact HO339.out, z21_2⟩
end Go.Proofs.YtgclcjohnnpejaaDoor.Pr
end
