-- texts of this session, and of the kit's print, cut to what the claim leans on
import Derived.Test.YtgclcjohnnpejaaDoorMl4
import Derived.Test.YtgclcjohnnpejaaDoorMl5
import Derived.Test.YtgclcjohnnpejaaDoorMl2
section
namespace Go.Proofs.YtgclcjohnnpejaaDoor.Pr
open Go.RowKit Go.Proofs.YtgclcjohnnpejaaDoorW.PrintWords Go.Proofs.YtgclcjohnnpejaaDoorW.PrintLast Go.Proofs.YtgclcjohnnpejaaDoorW.PrintMore
attribute [local go_sem] max2_int min2_int max_two min_two max_three min_three max_four min_four
set_option linter.unusedVariables false
set_option linter.unusedSimpArgs false
theorem z25_0 {P : Prop} (h : P := by repeat (first | (with_reducible first | exact HB.out | apply below_alloc | apply pw_below_drewN | apply below_drew1) | exact HB.out)) : P := h
theorem z25_1 {P : Prop} (h : P := by (try simp only [List.map_toArray, List.map_cons, List.map_nil]); first | done | rfl | (simp only [List.length_drop, List.length_take]; rfl)) : P := h
theorem z25_2 {P : Prop} (h : P := by kernel_rfl) : P := h
theorem z25_3 {P : Prop} (h : P := by first | (with_reducible assumption) | assumption) : P := h
def laws_heldLogRecordS.l0 : Nat → List (S38) → Int → Int → Option (Int)
  | 0, _, _, _ => none
  | k + 1, x0, x1, x5 => if x5 < (x0.length : Int) then (if 0 ≤ x5 then ((laws_markText.f k x1).bind fun t358 => (if ((rd_T38 x0 x5).f0).toList = t358.toList then ((laws_markText.f k (wrap64 (x1 + 1))).bind fun t360 => (if ((rd_T38 x0 x5).f1).toList = t360.toList then (laws_heldLogRecordS.l0 k x0 (wrap64 ((wrap64 (x1 + 1)) + 1)) (wrap64 (x5 + 1))) else (some (-1)))) else (some (-1)))) else (none)) else (some x1)
def laws_heldLogRecordS.f (k : Nat) (l0 : List (S38)) (a1 : Int) : Option (Int) := laws_heldLogRecordS.l0 k l0 a1 0
theorem laws_heldLogRecordS.mono_l : ∀ k, (∀ y0 y1 y2, LeO (laws_heldLogRecordS.l0 k y0 y1 y2) (laws_heldLogRecordS.l0 (k + 1) y0 y1 y2))
  | 0 => fun _ _ _ r h => by simp [laws_heldLogRecordS.l0] at h
  | k + 1 => by
    have ih0 := laws_heldLogRecordS.mono_l k
    · intro y0 y1 y2
      unfold laws_heldLogRecordS.l0
      repeat' first
      | (with_reducible exact ih0 _ _ _)
      | (with_reducible exact laws_markText.mono _ _)
      | (with_reducible exact LeO.refl _)
      | (with_reducible exact LeO.none _)
      | (with_reducible refine LeO.ite ?_ ?_)
      | (with_reducible refine LeO.bind ?_ (fun _ => ?_))
      | exact ih0 _ _ _
      | exact laws_markText.mono _ _
      | exact LeO.none _
      | refine LeO.ite ?_ ?_
      | refine LeO.bind ?_ (fun _ => ?_)
theorem laws_heldLogRecordS.mono : ∀ a0 a1 k, LeO (laws_heldLogRecordS.f k a0 a1) (laws_heldLogRecordS.f (k + 1) a0 a1) := by
  intro a0 a1 k
  have ih0 := laws_heldLogRecordS.mono_l k
  unfold laws_heldLogRecordS.f
  repeat' first
      | (with_reducible exact ih0 _ _ _)
      | (with_reducible exact laws_markText.mono _ _)
      | (with_reducible exact LeO.refl _)
      | (with_reducible exact LeO.none _)
      | (with_reducible refine LeO.ite ?_ ?_)
      | (with_reducible refine LeO.bind ?_ (fun _ => ?_))
      | exact ih0 _ _ _
      | exact laws_markText.mono _ _
      | exact LeO.none _
      | refine LeO.ite ?_ ?_
      | refine LeO.bind ?_ (fun _ => ?_)
def laws_heldLogRecordS.T4 : Bool × List (List Nat × List Nat) := (true, [([], []), ([], []), ([0, 1], [0, 1]), ([2], [2]), ([3], [3]), ([], []), ([5], [5]), ([4, 6], [4, 6])])
def laws_heldLogRecordS.B4 : List Nat := [0, 0, 3, 7, 15, 0, 32, 127]
theorem laws_heldLogRecordS.tab4 : rtab .any (opsOf Tryd.f44 4) = laws_heldLogRecordS.T4 := by kernel_rfl
theorem laws_heldLogRecordS.bits4 : waitsOk laws_heldLogRecordS.T4.2 laws_heldLogRecordS.B4 = true := by kernel_rfl
def laws_heldLogRecordS.T7 : Bool × List (List Nat × List Nat) := (true, [([], []), ([], []), ([0, 1], [0, 1]), ([2], [2]), ([3], [3]), ([], []), ([5], [5]), ([4, 6], [4, 6])])
def laws_heldLogRecordS.B7 : List Nat := [0, 0, 3, 7, 15, 0, 32, 127]
theorem laws_heldLogRecordS.tab7 : rtab .any (opsOf Tryd.f44 7) = laws_heldLogRecordS.T7 := by kernel_rfl
theorem laws_heldLogRecordS.bits7 : waitsOk laws_heldLogRecordS.T7.2 laws_heldLogRecordS.B7 = true := by kernel_rfl
set_option maxHeartbeats 8000000 in
set_option maxRecDepth 100000 in
theorem laws_heldLogRecordS.calls (k : Nat) (A0 : Option Addr) (c0 : Nat) (l0 : List (S38)) (a1 : Int) (r : Int) (w : World) (hr0 : Kd.C k38 w A0 l0.length l0) (hc0 : l0.length ≤ c0) (h : laws_heldLogRecordS.f k l0 a1 = some r) :
    Calls Tryd.prog 44 #[.slice A0 l0.length c0, .int .i64 a1] w fun e w' => e = .returned (.int .i64 r) ∧ Below w.heap.size w w' := by
  have HR0 := Aside0.mk hr0
  have HC0 := Aside0.mk hc0
  clear hr0 hc0
  have HB := Aside0.mk (Below.refl w.heap.size w)
  have H : (laws_heldLogRecordS.l0 k l0 a1 0) = some r := h
  clear h
  have H' := Aside0.mk H
  clear H
  go_enter Tryd.func44, Tryd.ntmps44
  go_wp2
  go_loopg [1, 5] k (fun kq v1 v5 w' => ∃ (x1_1 : Int) (x5_1 : Int), v1 = .int .i64 x1_1 ∧ v5 = .int .i64 x5_1 ∧ Aside0 (laws_heldLogRecordS.l0 kq l0 x1_1 x5_1 = some r) ∧ Aside0 (kq ≤ k) ∧ Aside0 (Below w.heap.size w w'))
  case atStart => exact ⟨(a1), (0), (by first | rfl | (simp; done) | (simp [*]; done)), (by first | rfl | (simp; done) | (simp [*]; done)), H', ⟨Nat.le_refl _⟩, ⟨z25_0⟩⟩
  case round =>
    clear H'
    try clear p2
    obtain ⟨x1_1, x5_1, rfl, rfl, HA, HK1, HB⟩ := hrel
    cases gk with
    | zero => exact absurd HA.out (by simp [laws_heldLogRecordS.l0])
    | succ k1 =>
      have H := HA.out
      clear HA
      simp only [laws_heldLogRecordS.l0] at H
      by_cases c3 : x5_1 < (l0.length : Int)
      · rw [if_pos c3] at H
        have c3b0 : decide (x5_1 < (l0.length : Int)) = true := decide_eq_true c3
        clear c3
        by_cases c4 : 0 ≤ x5_1
        · rw [if_pos c4] at H
          have c4b0 : decide (0 ≤ x5_1) = true := decide_eq_true c4
          clear c4
          replace H := Option.bind_eq_some_iff.mp H
          obtain ⟨t358, A50, H⟩ := H
          replace H : (if ((rd_T38 l0 x5_1).f0).toList = t358.toList then ((laws_markText.f k1 (wrap64 (x1_1 + 1))).bind fun t360 => (if ((rd_T38 l0 x5_1).f1).toList = t360.toList then (laws_heldLogRecordS.l0 k1 l0 (wrap64 ((wrap64 (x1_1 + 1)) + 1)) (wrap64 (x5_1 + 1))) else (some (-1)))) else (some (-1))) = some r := H
          have A5 := Aside0.mk A50
          clear A50
          by_cases c6 : ((rd_T38 l0 x5_1).f0).toList = t358.toList
          · rw [if_pos c6] at H
            have c6b0 : (((rd_T38 l0 x5_1).f0).toList == t358.toList) = true := beq_iff_eq.mpr c6
            have c6b1 : (((rd_T38 l0 x5_1).f0).toList != t358.toList) = false := bne_eq_false_iff_eq.mpr c6
            clear c6
            replace H := Option.bind_eq_some_iff.mp H
            obtain ⟨t360, A70, H⟩ := H
            replace H : (if ((rd_T38 l0 x5_1).f1).toList = t360.toList then (laws_heldLogRecordS.l0 k1 l0 (wrap64 ((wrap64 (x1_1 + 1)) + 1)) (wrap64 (x5_1 + 1))) else (some (-1))) = some r := H
            have A7 := Aside0.mk A70
            clear A70
            by_cases c8 : ((rd_T38 l0 x5_1).f1).toList = t360.toList
            · rw [if_pos c8] at H
              have c8b0 : (((rd_T38 l0 x5_1).f1).toList == t360.toList) = true := beq_iff_eq.mpr c8
              have c8b1 : (((rd_T38 l0 x5_1).f1).toList != t360.toList) = false := bne_eq_false_iff_eq.mpr c8
              clear c8
              have H' := Aside0.mk H
              clear H
              try go_wp2
              have n0_ := Aside0.mk (below_drew1 HB.out)
              clear HB
              have HB := n0_
              clear n0_
              have p357 : 0 ≤ (x5_1 : Int) := of_decide_eq_true z25_3
              have q357 : x5_1 < (l0.length : Int) := of_decide_eq_true z25_3
              obtain ⟨ad357, e357, hx357_0, hx357_1⟩ := at_T38 HR0.out x5_1 p357 q357
              have hw357_1 := hx357_1
              have hw357_0 := hx357_0
              cases e357
              replace hx357_0 := (HB.out.cell (World.block_lt_of_cell? w _ hx357_0)).trans hx357_0
              replace hx357_1 := (HB.out.cell (World.block_lt_of_cell? w _ hx357_1)).trans hx357_1
              replace p357 := eq_true p357
              replace q357 := eq_true q357
              refine start_ (n := 8) (S := fun w' => w'.cell? (ad357.add ((x5_1).toNat * 2)) = some (.string ((rd_T38 l0 x5_1).f0)) ∧ w'.cell? ⟨(ad357.add ((x5_1).toNat * 2)).block, (ad357.add ((x5_1).toNat * 2)).off + 1, none⟩ = some (.string ((rd_T38 l0 x5_1).f1))) (ds := []) #[false, false, false, false, false, false, false, false] z25_2 rfl rfl ⟨((HB.out.cell (World.block_lt_of_cell? w _ hw357_0)).trans hw357_0), ((HB.out.cell (World.block_lt_of_cell? w _ hw357_1)).trans hw357_1)⟩ (fun hHeld => ?_); refine with_tabW laws_heldLogRecordS.tab4 laws_heldLogRecordS.bits4 (fun HT_ HW_ => ?_)
              generalize wr.drew = w9 at HB hx357_0 hx357_1 hHeld ⊢
              refine pure_ (i := 0) (N := some 12) (v := ?_) (a' := ?_) #[true, false, false, false, false, false, false, false] rfl rfl (any_of HT_.out z25_2) (fun _ _ _ h => h) (Or.inl ⟨by rfl, ?_⟩) ?_ ?_
              rotate_left
              · intro w'
                go_simp
                with_reducible rfl
              rotate_left
              · simp only [Act.put, List.setIfInBounds_toArray, List.set_cons_zero, List.set_cons_succ, i64_w, i32_w]
                rfl
              refine pure_ (i := 1) (N := some 13) (v := ?_) (a' := ?_) #[true, true, false, false, false, false, false, false] rfl rfl (any_of HT_.out z25_2) (fun _ _ _ h => h) (Or.inl ⟨by rfl, ?_⟩) ?_ ?_
              rotate_left
              · intro w'
                go_simp
                with_reducible rfl
              rotate_left
              · simp only [Act.put, List.setIfInBounds_toArray, List.set_cons_zero, List.set_cons_succ, i64_w, i32_w]
                rfl
              refine pure_ (i := 2) (N := some 14) (v := ?_) (a' := ?_) #[true, true, true, false, false, false, false, false] rfl rfl (any_of HT_.out z25_2) (fun _ _ _ h => h) (Or.inl ⟨by rfl, ?_⟩) ?_ ?_
              rotate_left
              · intro w'
                go_simp
                with_reducible rfl
              rotate_left
              · simp only [Act.put, List.setIfInBounds_toArray, List.set_cons_zero, List.set_cons_succ, i64_w, i32_w]
                rfl
              refine pure_ (i := 3) (N := some 15) (v := ?_) (a' := ?_) #[true, true, true, true, false, false, false, false] rfl rfl (any_of HT_.out z25_2) (fun _ _ _ h => h) (Or.inl ⟨by rfl, ?_⟩) ?_ ?_
              rotate_left
              · intro w'
                go_simp
                with_reducible rfl
              rotate_left
              · simp only [Act.put, List.setIfInBounds_toArray, List.set_cons_zero, List.set_cons_succ, i64_w, i32_w]
                rfl
              refine pure_ (i := 5) (N := some 17) (v := ?_) (a' := ?_) #[true, true, true, true, false, true, false, false] rfl rfl (any_of HT_.out z25_2) (fun _ _ _ h => h) (Or.inl ⟨by rfl, ?_⟩) ?_ ?_
              rotate_left
              · intro w'
                go_simp
                with_reducible rfl
              rotate_left
              · simp only [Act.put, List.setIfInBounds_toArray, List.set_cons_zero, List.set_cons_succ, i64_w, i32_w]
                rfl
              refine take_ (i := 4) (N := some 16) (v := ?_) (a' := ?_) #[true, true, true, true, true, true, false, false] rfl rfl (take_ofW HT_.out HW_.out z25_2) (fun _ _ _ h => h) (Or.inl ⟨by rfl, ?_⟩) hHeld ?_ ?_
              rotate_left
              · rintro w' ⟨s0, s1⟩
                go_simp
                with_reducible rfl
              rotate_left
              · simp only [Act.put, List.setIfInBounds_toArray, List.set_cons_zero, List.set_cons_succ, i64_w, i32_w]
                rfl
              refine one_ (i := 6) (N := some 18) #[true, true, true, true, true, true, true, false] rfl rfl (one_of HT_.out z25_2) (by decide) (fun K hK => ?_)
              refine goes_ Tryd.func84 z25_2 rfl #[.int .i64 x1_1] (by rfl) rfl rfl z25_1 ?_
              with_reducible refine (laws_markText.calls k1 x1_1 t358 _ A5.out).mono ?_
              rintro e w10 ⟨rfl, hb⟩
              refine ⟨_, rfl, ?_⟩
              have n0_ := Aside0.mk (below_step z25_0 hb)
              clear HB
              have HB := n0_
              clear n0_
              (try clear hb)
              (try clear hb2)
              (try clear hk)
              (try clear hi)
              refine hK.out _ _ ⟨((HB.out.cell (World.block_lt_of_cell? w _ hw357_0)).trans hw357_0), ((HB.out.cell (World.block_lt_of_cell? w _ hw357_1)).trans hw357_1)⟩ (fun hHeld => ?_)
              clear hK K
              refine norm_ (a' := ?_) ?_ ?_
              rotate_left
              · show Act.put _ (some 18) _ = _
                simp only [Act.put, List.setIfInBounds_toArray, List.set_cons_zero, List.set_cons_succ, i64_w, i32_w]
                rfl
              refine pure_ (i := 7) (N := some 19) (v := ?_) (a' := ?_) #[true, true, true, true, true, true, true, true] rfl rfl (any_of HT_.out z25_2) (fun _ _ _ h => h) (Or.inl ⟨by rfl, ?_⟩) ?_ ?_
              rotate_left
              · intro w'
                go_simp
                with_reducible rfl
              rotate_left
              · simp only [Act.put, List.setIfInBounds_toArray, List.set_cons_zero, List.set_cons_succ, i64_w, i32_w]
                rfl
              refine done_ (done_of HT_.out z25_2) ?_
              try go_wp2
              have n0_ := Aside0.mk (below_drew1 HB.out)
              clear HB
              have HB := n0_
              clear n0_
              have p359 : 0 ≤ (x5_1 : Int) := of_decide_eq_true z25_3
              have q359 : x5_1 < (l0.length : Int) := of_decide_eq_true z25_3
              obtain ⟨ad359, e359, hx359_0, hx359_1⟩ := at_T38 HR0.out x5_1 p359 q359
              have hw359_1 := hx359_1
              have hw359_0 := hx359_0
              obtain rfl : ad357 = ad359 := (by injection e359)
              replace hx359_0 := (HB.out.cell (World.block_lt_of_cell? w _ hx359_0)).trans hx359_0
              replace hx359_1 := (HB.out.cell (World.block_lt_of_cell? w _ hx359_1)).trans hx359_1
              replace p359 := eq_true p359
              replace q359 := eq_true q359
              refine start_ (n := 8) (S := fun w' => w'.cell? (ad357.add ((x5_1).toNat * 2)) = some (.string ((rd_T38 l0 x5_1).f0)) ∧ w'.cell? ⟨(ad357.add ((x5_1).toNat * 2)).block, (ad357.add ((x5_1).toNat * 2)).off + 1, none⟩ = some (.string ((rd_T38 l0 x5_1).f1))) (ds := []) #[false, false, false, false, false, false, false, false] z25_2 rfl rfl ⟨((HB.out.cell (World.block_lt_of_cell? w _ hw359_0)).trans hw359_0), ((HB.out.cell (World.block_lt_of_cell? w _ hw359_1)).trans hw359_1)⟩ (fun hHeld => ?_); refine with_tabW laws_heldLogRecordS.tab7 laws_heldLogRecordS.bits7 (fun HT_ HW_ => ?_)
              generalize w10.drew = w11 at HB hx359_0 hx359_1 hHeld ⊢
              refine pure_ (i := 0) (N := some 22) (v := ?_) (a' := ?_) #[true, false, false, false, false, false, false, false] rfl rfl (any_of HT_.out z25_2) (fun _ _ _ h => h) (Or.inl ⟨by rfl, ?_⟩) ?_ ?_
              rotate_left
              · intro w'
                go_simp
                with_reducible rfl
              rotate_left
              · simp only [Act.put, List.setIfInBounds_toArray, List.set_cons_zero, List.set_cons_succ, i64_w, i32_w]
                rfl
              refine pure_ (i := 1) (N := some 23) (v := ?_) (a' := ?_) #[true, true, false, false, false, false, false, false] rfl rfl (any_of HT_.out z25_2) (fun _ _ _ h => h) (Or.inl ⟨by rfl, ?_⟩) ?_ ?_
              rotate_left
              · intro w'
                go_simp
                with_reducible rfl
              rotate_left
              · simp only [Act.put, List.setIfInBounds_toArray, List.set_cons_zero, List.set_cons_succ, i64_w, i32_w]
                rfl
              refine pure_ (i := 2) (N := some 24) (v := ?_) (a' := ?_) #[true, true, true, false, false, false, false, false] rfl rfl (any_of HT_.out z25_2) (fun _ _ _ h => h) (Or.inl ⟨by rfl, ?_⟩) ?_ ?_
              rotate_left
              · intro w'
                go_simp
                with_reducible rfl
              rotate_left
              · simp only [Act.put, List.setIfInBounds_toArray, List.set_cons_zero, List.set_cons_succ, i64_w, i32_w]
                rfl
              refine pure_ (i := 3) (N := some 25) (v := ?_) (a' := ?_) #[true, true, true, true, false, false, false, false] rfl rfl (any_of HT_.out z25_2) (fun _ _ _ h => h) (Or.inl ⟨by rfl, ?_⟩) ?_ ?_
              rotate_left
              · intro w'
                go_simp
                with_reducible rfl
              rotate_left
              · simp only [Act.put, List.setIfInBounds_toArray, List.set_cons_zero, List.set_cons_succ, i64_w, i32_w]
                rfl
              refine pure_ (i := 5) (N := some 27) (v := ?_) (a' := ?_) #[true, true, true, true, false, true, false, false] rfl rfl (any_of HT_.out z25_2) (fun _ _ _ h => h) (Or.inl ⟨by rfl, ?_⟩) ?_ ?_
              rotate_left
              · intro w'
                go_simp
                with_reducible rfl
              rotate_left
              · simp only [Act.put, List.setIfInBounds_toArray, List.set_cons_zero, List.set_cons_succ, i64_w, i32_w]
                rfl
              refine take_ (i := 4) (N := some 26) (v := ?_) (a' := ?_) #[true, true, true, true, true, true, false, false] rfl rfl (take_ofW HT_.out HW_.out z25_2) (fun _ _ _ h => h) (Or.inl ⟨by rfl, ?_⟩) hHeld ?_ ?_
              rotate_left
              · rintro w' ⟨s0, s1⟩
                go_simp
                with_reducible rfl
              rotate_left
              · simp only [Act.put, List.setIfInBounds_toArray, List.set_cons_zero, List.set_cons_succ, i64_w, i32_w]
                rfl
              refine one_ (i := 6) (N := some 28) #[true, true, true, true, true, true, true, false] rfl rfl (one_of HT_.out z25_2) (by decide) (fun K hK => ?_)
              refine goes_ Tryd.func84 z25_2 rfl #[.int .i64 (wrap64 (x1_1 + 1))] (by rfl) rfl rfl z25_1 ?_
              with_reducible refine (laws_markText.calls k1 (wrap64 (x1_1 + 1)) t360 _ A7.out).mono ?_
              rintro e w12 ⟨rfl, hb⟩
              refine ⟨_, rfl, ?_⟩
              have n0_ := Aside0.mk (below_step z25_0 hb)
              clear HB
              have HB := n0_
              clear n0_
              (try clear hb)
              (try clear hb2)
              (try clear hk)
              (try clear hi)
              refine hK.out _ _ ⟨((HB.out.cell (World.block_lt_of_cell? w _ hw359_0)).trans hw359_0), ((HB.out.cell (World.block_lt_of_cell? w _ hw359_1)).trans hw359_1)⟩ (fun hHeld => ?_)
              clear hK K
              refine norm_ (a' := ?_) ?_ ?_
              rotate_left
              · show Act.put _ (some 28) _ = _
                simp only [Act.put, List.setIfInBounds_toArray, List.set_cons_zero, List.set_cons_succ, i64_w, i32_w]
                rfl
              refine pure_ (i := 7) (N := some 29) (v := ?_) (a' := ?_) #[true, true, true, true, true, true, true, true] rfl rfl (any_of HT_.out z25_2) (fun _ _ _ h => h) (Or.inl ⟨by rfl, ?_⟩) ?_ ?_
              rotate_left
              · intro w'
                go_simp
                with_reducible rfl
              rotate_left
              · simp only [Act.put, List.setIfInBounds_toArray, List.set_cons_zero, List.set_cons_succ, i64_w, i32_w]
                rfl
              refine done_ (done_of HT_.out z25_2) ?_
              try go_wp2
              go_roundg k1
              case measure => have := HK1.out; omega
              case rel => exact ⟨(wrap64 ((wrap64 (x1_1 + 1)) + 1)), (wrap64 (x5_1 + 1)), (by first | rfl | (simp; done) | (simp [*]; done)), (by first | rfl | (simp; done) | (simp [*]; done)), H', ⟨by have := HK1.out; omega⟩, ⟨z25_0⟩⟩
            · rw [if_neg c8] at H
              have c8b0 : (((rd_T38 l0 x5_1).f1).toList == t360.toList) = false := beq_eq_false_iff_ne.mpr c8
              have c8b1 : (((rd_T38 l0 x5_1).f1).toList != t360.toList) = true := bne_iff_ne.mpr c8
              obtain rfl := Option.some.inj H
              try go_wp2
              have n0_ := Aside0.mk (below_drew1 HB.out)
              clear HB
              have HB := n0_
              clear n0_
              have p357 : 0 ≤ (x5_1 : Int) := of_decide_eq_true z25_3
              have q357 : x5_1 < (l0.length : Int) := of_decide_eq_true z25_3
              obtain ⟨ad357, e357, hx357_0, hx357_1⟩ := at_T38 HR0.out x5_1 p357 q357
              have hw357_1 := hx357_1
              have hw357_0 := hx357_0
              cases e357
              replace hx357_0 := (HB.out.cell (World.block_lt_of_cell? w _ hx357_0)).trans hx357_0
              replace hx357_1 := (HB.out.cell (World.block_lt_of_cell? w _ hx357_1)).trans hx357_1
              replace p357 := eq_true p357
              replace q357 := eq_true q357
              refine start_ (n := 8) (S := fun w' => w'.cell? (ad357.add ((x5_1).toNat * 2)) = some (.string ((rd_T38 l0 x5_1).f0)) ∧ w'.cell? ⟨(ad357.add ((x5_1).toNat * 2)).block, (ad357.add ((x5_1).toNat * 2)).off + 1, none⟩ = some (.string ((rd_T38 l0 x5_1).f1))) (ds := []) #[false, false, false, false, false, false, false, false] z25_2 rfl rfl ⟨((HB.out.cell (World.block_lt_of_cell? w _ hw357_0)).trans hw357_0), ((HB.out.cell (World.block_lt_of_cell? w _ hw357_1)).trans hw357_1)⟩ (fun hHeld => ?_); refine with_tabW laws_heldLogRecordS.tab4 laws_heldLogRecordS.bits4 (fun HT_ HW_ => ?_)
              generalize wr.drew = w13 at HB hx357_0 hx357_1 hHeld ⊢
              refine pure_ (i := 0) (N := some 12) (v := ?_) (a' := ?_) #[true, false, false, false, false, false, false, false] rfl rfl (any_of HT_.out z25_2) (fun _ _ _ h => h) (Or.inl ⟨by rfl, ?_⟩) ?_ ?_
              rotate_left
              · intro w'
                go_simp
                with_reducible rfl
              rotate_left
              · simp only [Act.put, List.setIfInBounds_toArray, List.set_cons_zero, List.set_cons_succ, i64_w, i32_w]
                rfl
              refine pure_ (i := 1) (N := some 13) (v := ?_) (a' := ?_) #[true, true, false, false, false, false, false, false] rfl rfl (any_of HT_.out z25_2) (fun _ _ _ h => h) (Or.inl ⟨by rfl, ?_⟩) ?_ ?_
              rotate_left
              · intro w'
                go_simp
                with_reducible rfl
              rotate_left
              · simp only [Act.put, List.setIfInBounds_toArray, List.set_cons_zero, List.set_cons_succ, i64_w, i32_w]
                rfl
              refine pure_ (i := 2) (N := some 14) (v := ?_) (a' := ?_) #[true, true, true, false, false, false, false, false] rfl rfl (any_of HT_.out z25_2) (fun _ _ _ h => h) (Or.inl ⟨by rfl, ?_⟩) ?_ ?_
              rotate_left
              · intro w'
                go_simp
                with_reducible rfl
              rotate_left
              · simp only [Act.put, List.setIfInBounds_toArray, List.set_cons_zero, List.set_cons_succ, i64_w, i32_w]
                rfl
              refine pure_ (i := 3) (N := some 15) (v := ?_) (a' := ?_) #[true, true, true, true, false, false, false, false] rfl rfl (any_of HT_.out z25_2) (fun _ _ _ h => h) (Or.inl ⟨by rfl, ?_⟩) ?_ ?_
              rotate_left
              · intro w'
                go_simp
                with_reducible rfl
              rotate_left
              · simp only [Act.put, List.setIfInBounds_toArray, List.set_cons_zero, List.set_cons_succ, i64_w, i32_w]
                rfl
              refine pure_ (i := 5) (N := some 17) (v := ?_) (a' := ?_) #[true, true, true, true, false, true, false, false] rfl rfl (any_of HT_.out z25_2) (fun _ _ _ h => h) (Or.inl ⟨by rfl, ?_⟩) ?_ ?_
              rotate_left
              · intro w'
                go_simp
                with_reducible rfl
              rotate_left
              · simp only [Act.put, List.setIfInBounds_toArray, List.set_cons_zero, List.set_cons_succ, i64_w, i32_w]
                rfl
              refine take_ (i := 4) (N := some 16) (v := ?_) (a' := ?_) #[true, true, true, true, true, true, false, false] rfl rfl (take_ofW HT_.out HW_.out z25_2) (fun _ _ _ h => h) (Or.inl ⟨by rfl, ?_⟩) hHeld ?_ ?_
              rotate_left
              · rintro w' ⟨s0, s1⟩
                go_simp
                with_reducible rfl
              rotate_left
              · simp only [Act.put, List.setIfInBounds_toArray, List.set_cons_zero, List.set_cons_succ, i64_w, i32_w]
                rfl
              refine one_ (i := 6) (N := some 18) #[true, true, true, true, true, true, true, false] rfl rfl (one_of HT_.out z25_2) (by decide) (fun K hK => ?_)
              refine goes_ Tryd.func84 z25_2 rfl #[.int .i64 x1_1] (by rfl) rfl rfl z25_1 ?_
              with_reducible refine (laws_markText.calls k1 x1_1 t358 _ A5.out).mono ?_
              rintro e w14 ⟨rfl, hb⟩
              refine ⟨_, rfl, ?_⟩
              have n0_ := Aside0.mk (below_step z25_0 hb)
              clear HB
              have HB := n0_
              clear n0_
              (try clear hb)
              (try clear hb2)
              (try clear hk)
              (try clear hi)
              refine hK.out _ _ ⟨((HB.out.cell (World.block_lt_of_cell? w _ hw357_0)).trans hw357_0), ((HB.out.cell (World.block_lt_of_cell? w _ hw357_1)).trans hw357_1)⟩ (fun hHeld => ?_)
              clear hK K
              refine norm_ (a' := ?_) ?_ ?_
              rotate_left
              · show Act.put _ (some 18) _ = _
                simp only [Act.put, List.setIfInBounds_toArray, List.set_cons_zero, List.set_cons_succ, i64_w, i32_w]
                rfl
              refine pure_ (i := 7) (N := some 19) (v := ?_) (a' := ?_) #[true, true, true, true, true, true, true, true] rfl rfl (any_of HT_.out z25_2) (fun _ _ _ h => h) (Or.inl ⟨by rfl, ?_⟩) ?_ ?_
              rotate_left
              · intro w'
                go_simp
                with_reducible rfl
              rotate_left
              · simp only [Act.put, List.setIfInBounds_toArray, List.set_cons_zero, List.set_cons_succ, i64_w, i32_w]
                rfl
              refine done_ (done_of HT_.out z25_2) ?_
              try go_wp2
              have n0_ := Aside0.mk (below_drew1 HB.out)
              clear HB
              have HB := n0_
              clear n0_
              have p359 : 0 ≤ (x5_1 : Int) := of_decide_eq_true z25_3
              have q359 : x5_1 < (l0.length : Int) := of_decide_eq_true z25_3
              obtain ⟨ad359, e359, hx359_0, hx359_1⟩ := at_T38 HR0.out x5_1 p359 q359
              have hw359_1 := hx359_1
              have hw359_0 := hx359_0
              obtain rfl : ad357 = ad359 := (by injection e359)
              replace hx359_0 := (HB.out.cell (World.block_lt_of_cell? w _ hx359_0)).trans hx359_0
              replace hx359_1 := (HB.out.cell (World.block_lt_of_cell? w _ hx359_1)).trans hx359_1
              replace p359 := eq_true p359
              replace q359 := eq_true q359
              refine start_ (n := 8) (S := fun w' => w'.cell? (ad357.add ((x5_1).toNat * 2)) = some (.string ((rd_T38 l0 x5_1).f0)) ∧ w'.cell? ⟨(ad357.add ((x5_1).toNat * 2)).block, (ad357.add ((x5_1).toNat * 2)).off + 1, none⟩ = some (.string ((rd_T38 l0 x5_1).f1))) (ds := []) #[false, false, false, false, false, false, false, false] z25_2 rfl rfl ⟨((HB.out.cell (World.block_lt_of_cell? w _ hw359_0)).trans hw359_0), ((HB.out.cell (World.block_lt_of_cell? w _ hw359_1)).trans hw359_1)⟩ (fun hHeld => ?_); refine with_tabW laws_heldLogRecordS.tab7 laws_heldLogRecordS.bits7 (fun HT_ HW_ => ?_)
              generalize w14.drew = w15 at HB hx359_0 hx359_1 hHeld ⊢
              refine pure_ (i := 0) (N := some 22) (v := ?_) (a' := ?_) #[true, false, false, false, false, false, false, false] rfl rfl (any_of HT_.out z25_2) (fun _ _ _ h => h) (Or.inl ⟨by rfl, ?_⟩) ?_ ?_
              rotate_left
              · intro w'
                go_simp
                with_reducible rfl
              rotate_left
              · simp only [Act.put, List.setIfInBounds_toArray, List.set_cons_zero, List.set_cons_succ, i64_w, i32_w]
                rfl
              refine pure_ (i := 1) (N := some 23) (v := ?_) (a' := ?_) #[true, true, false, false, false, false, false, false] rfl rfl (any_of HT_.out z25_2) (fun _ _ _ h => h) (Or.inl ⟨by rfl, ?_⟩) ?_ ?_
              rotate_left
              · intro w'
                go_simp
                with_reducible rfl
              rotate_left
              · simp only [Act.put, List.setIfInBounds_toArray, List.set_cons_zero, List.set_cons_succ, i64_w, i32_w]
                rfl
              refine pure_ (i := 2) (N := some 24) (v := ?_) (a' := ?_) #[true, true, true, false, false, false, false, false] rfl rfl (any_of HT_.out z25_2) (fun _ _ _ h => h) (Or.inl ⟨by rfl, ?_⟩) ?_ ?_
              rotate_left
              · intro w'
                go_simp
                with_reducible rfl
              rotate_left
              · simp only [Act.put, List.setIfInBounds_toArray, List.set_cons_zero, List.set_cons_succ, i64_w, i32_w]
                rfl
              refine pure_ (i := 3) (N := some 25) (v := ?_) (a' := ?_) #[true, true, true, true, false, false, false, false] rfl rfl (any_of HT_.out z25_2) (fun _ _ _ h => h) (Or.inl ⟨by rfl, ?_⟩) ?_ ?_
              rotate_left
              · intro w'
                go_simp
                with_reducible rfl
              rotate_left
              · simp only [Act.put, List.setIfInBounds_toArray, List.set_cons_zero, List.set_cons_succ, i64_w, i32_w]
                rfl
              refine pure_ (i := 5) (N := some 27) (v := ?_) (a' := ?_) #[true, true, true, true, false, true, false, false] rfl rfl (any_of HT_.out z25_2) (fun _ _ _ h => h) (Or.inl ⟨by rfl, ?_⟩) ?_ ?_
              rotate_left
              · intro w'
                go_simp
                with_reducible rfl
              rotate_left
              · simp only [Act.put, List.setIfInBounds_toArray, List.set_cons_zero, List.set_cons_succ, i64_w, i32_w]
                rfl
              refine take_ (i := 4) (N := some 26) (v := ?_) (a' := ?_) #[true, true, true, true, true, true, false, false] rfl rfl (take_ofW HT_.out HW_.out z25_2) (fun _ _ _ h => h) (Or.inl ⟨by rfl, ?_⟩) hHeld ?_ ?_
              rotate_left
              · rintro w' ⟨s0, s1⟩
                go_simp
                with_reducible rfl
              rotate_left
              · simp only [Act.put, List.setIfInBounds_toArray, List.set_cons_zero, List.set_cons_succ, i64_w, i32_w]
                rfl
              refine one_ (i := 6) (N := some 28) #[true, true, true, true, true, true, true, false] rfl rfl (one_of HT_.out z25_2) (by decide) (fun K hK => ?_)
              refine goes_ Tryd.func84 z25_2 rfl #[.int .i64 (wrap64 (x1_1 + 1))] (by rfl) rfl rfl z25_1 ?_
              with_reducible refine (laws_markText.calls k1 (wrap64 (x1_1 + 1)) t360 _ A7.out).mono ?_
              rintro e w16 ⟨rfl, hb⟩
              refine ⟨_, rfl, ?_⟩
              have n0_ := Aside0.mk (below_step z25_0 hb)
              clear HB
              have HB := n0_
              clear n0_
              (try clear hb)
              (try clear hb2)
              (try clear hk)
              (try clear hi)
              refine hK.out _ _ ⟨((HB.out.cell (World.block_lt_of_cell? w _ hw359_0)).trans hw359_0), ((HB.out.cell (World.block_lt_of_cell? w _ hw359_1)).trans hw359_1)⟩ (fun hHeld => ?_)
              clear hK K
              refine norm_ (a' := ?_) ?_ ?_
              rotate_left
              · show Act.put _ (some 28) _ = _
                simp only [Act.put, List.setIfInBounds_toArray, List.set_cons_zero, List.set_cons_succ, i64_w, i32_w]
                rfl
              refine pure_ (i := 7) (N := some 29) (v := ?_) (a' := ?_) #[true, true, true, true, true, true, true, true] rfl rfl (any_of HT_.out z25_2) (fun _ _ _ h => h) (Or.inl ⟨by rfl, ?_⟩) ?_ ?_
              rotate_left
              · intro w'
                go_simp
                with_reducible rfl
              rotate_left
              · simp only [Act.put, List.setIfInBounds_toArray, List.set_cons_zero, List.set_cons_succ, i64_w, i32_w]
                rfl
              refine done_ (done_of HT_.out z25_2) ?_
              try go_wp2
              go_ret
              exact ⟨by first | rfl | (simp [errW_none, errW_some] <;> rfl) | (simp [*, errW_none, errW_some] <;> rfl), z25_0⟩
          · rw [if_neg c6] at H
            have c6b0 : (((rd_T38 l0 x5_1).f0).toList == t358.toList) = false := beq_eq_false_iff_ne.mpr c6
            have c6b1 : (((rd_T38 l0 x5_1).f0).toList != t358.toList) = true := bne_iff_ne.mpr c6
            obtain rfl := Option.some.inj H
            try go_wp2
            have n0_ := Aside0.mk (below_drew1 HB.out)
            clear HB
            have HB := n0_
            clear n0_
            have p357 : 0 ≤ (x5_1 : Int) := of_decide_eq_true z25_3
            have q357 : x5_1 < (l0.length : Int) := of_decide_eq_true z25_3
            obtain ⟨ad357, e357, hx357_0, hx357_1⟩ := at_T38 HR0.out x5_1 p357 q357
            have hw357_1 := hx357_1
            have hw357_0 := hx357_0
            cases e357
            replace hx357_0 := (HB.out.cell (World.block_lt_of_cell? w _ hx357_0)).trans hx357_0
            replace hx357_1 := (HB.out.cell (World.block_lt_of_cell? w _ hx357_1)).trans hx357_1
            replace p357 := eq_true p357
            replace q357 := eq_true q357
            refine start_ (n := 8) (S := fun w' => w'.cell? (ad357.add ((x5_1).toNat * 2)) = some (.string ((rd_T38 l0 x5_1).f0)) ∧ w'.cell? ⟨(ad357.add ((x5_1).toNat * 2)).block, (ad357.add ((x5_1).toNat * 2)).off + 1, none⟩ = some (.string ((rd_T38 l0 x5_1).f1))) (ds := []) #[false, false, false, false, false, false, false, false] z25_2 rfl rfl ⟨((HB.out.cell (World.block_lt_of_cell? w _ hw357_0)).trans hw357_0), ((HB.out.cell (World.block_lt_of_cell? w _ hw357_1)).trans hw357_1)⟩ (fun hHeld => ?_); refine with_tabW laws_heldLogRecordS.tab4 laws_heldLogRecordS.bits4 (fun HT_ HW_ => ?_)
            generalize wr.drew = w17 at HB hx357_0 hx357_1 hHeld ⊢
            refine pure_ (i := 0) (N := some 12) (v := ?_) (a' := ?_) #[true, false, false, false, false, false, false, false] rfl rfl (any_of HT_.out z25_2) (fun _ _ _ h => h) (Or.inl ⟨by rfl, ?_⟩) ?_ ?_
            rotate_left
            · intro w'
              go_simp
              with_reducible rfl
            rotate_left
            · simp only [Act.put, List.setIfInBounds_toArray, List.set_cons_zero, List.set_cons_succ, i64_w, i32_w]
              rfl
            refine pure_ (i := 1) (N := some 13) (v := ?_) (a' := ?_) #[true, true, false, false, false, false, false, false] rfl rfl (any_of HT_.out z25_2) (fun _ _ _ h => h) (Or.inl ⟨by rfl, ?_⟩) ?_ ?_
            rotate_left
            · intro w'
              go_simp
              with_reducible rfl
            rotate_left
            · simp only [Act.put, List.setIfInBounds_toArray, List.set_cons_zero, List.set_cons_succ, i64_w, i32_w]
              rfl
            refine pure_ (i := 2) (N := some 14) (v := ?_) (a' := ?_) #[true, true, true, false, false, false, false, false] rfl rfl (any_of HT_.out z25_2) (fun _ _ _ h => h) (Or.inl ⟨by rfl, ?_⟩) ?_ ?_
            rotate_left
            · intro w'
              go_simp
              with_reducible rfl
            rotate_left
            · simp only [Act.put, List.setIfInBounds_toArray, List.set_cons_zero, List.set_cons_succ, i64_w, i32_w]
              rfl
            refine pure_ (i := 3) (N := some 15) (v := ?_) (a' := ?_) #[true, true, true, true, false, false, false, false] rfl rfl (any_of HT_.out z25_2) (fun _ _ _ h => h) (Or.inl ⟨by rfl, ?_⟩) ?_ ?_
            rotate_left
            · intro w'
              go_simp
              with_reducible rfl
            rotate_left
            · simp only [Act.put, List.setIfInBounds_toArray, List.set_cons_zero, List.set_cons_succ, i64_w, i32_w]
              rfl
            refine pure_ (i := 5) (N := some 17) (v := ?_) (a' := ?_) #[true, true, true, true, false, true, false, false] rfl rfl (any_of HT_.out z25_2) (fun _ _ _ h => h) (Or.inl ⟨by rfl, ?_⟩) ?_ ?_
            rotate_left
            · intro w'
              go_simp
              with_reducible rfl
            rotate_left
            · simp only [Act.put, List.setIfInBounds_toArray, List.set_cons_zero, List.set_cons_succ, i64_w, i32_w]
              rfl
            refine take_ (i := 4) (N := some 16) (v := ?_) (a' := ?_) #[true, true, true, true, true, true, false, false] rfl rfl (take_ofW HT_.out HW_.out z25_2) (fun _ _ _ h => h) (Or.inl ⟨by rfl, ?_⟩) hHeld ?_ ?_
            rotate_left
            · rintro w' ⟨s0, s1⟩
              go_simp
              with_reducible rfl
            rotate_left
            · simp only [Act.put, List.setIfInBounds_toArray, List.set_cons_zero, List.set_cons_succ, i64_w, i32_w]
              rfl
            refine one_ (i := 6) (N := some 18) #[true, true, true, true, true, true, true, false] rfl rfl (one_of HT_.out z25_2) (by decide) (fun K hK => ?_)
            refine goes_ Tryd.func84 z25_2 rfl #[.int .i64 x1_1] (by rfl) rfl rfl z25_1 ?_
            with_reducible refine (laws_markText.calls k1 x1_1 t358 _ A5.out).mono ?_
            rintro e w18 ⟨rfl, hb⟩
            refine ⟨_, rfl, ?_⟩
            have n0_ := Aside0.mk (below_step z25_0 hb)
            clear HB
            have HB := n0_
            clear n0_
            (try clear hb)
            (try clear hb2)
            (try clear hk)
            (try clear hi)
            refine hK.out _ _ ⟨((HB.out.cell (World.block_lt_of_cell? w _ hw357_0)).trans hw357_0), ((HB.out.cell (World.block_lt_of_cell? w _ hw357_1)).trans hw357_1)⟩ (fun hHeld => ?_)
            clear hK K
            refine norm_ (a' := ?_) ?_ ?_
            rotate_left
            · show Act.put _ (some 18) _ = _
              simp only [Act.put, List.setIfInBounds_toArray, List.set_cons_zero, List.set_cons_succ, i64_w, i32_w]
              rfl
            refine pure_ (i := 7) (N := some 19) (v := ?_) (a' := ?_) #[true, true, true, true, true, true, true, true] rfl rfl (any_of HT_.out z25_2) (fun _ _ _ h => h) (Or.inl ⟨by rfl, ?_⟩) ?_ ?_
            rotate_left
            · intro w'
              go_simp
              with_reducible rfl
            rotate_left
            · simp only [Act.put, List.setIfInBounds_toArray, List.set_cons_zero, List.set_cons_succ, i64_w, i32_w]
              rfl
            refine done_ (done_of HT_.out z25_2) ?_
            try go_wp2
            go_ret
            exact ⟨by first | rfl | (simp [errW_none, errW_some] <;> rfl) | (simp [*, errW_none, errW_some] <;> rfl), z25_0⟩
        · rw [if_neg c4] at H
          exact absurd H (by simp)
      · rw [if_neg c3] at H
        have c3b0 : decide (x5_1 < (l0.length : Int)) = false := decide_eq_false c3
        clear c3
        obtain rfl := Option.some.inj H
        go_wp2
        go_ret
        exact ⟨by first | rfl | (simp [errW_none, errW_some] <;> rfl) | (simp [*, errW_none, errW_some] <;> rfl), z25_0⟩
end Go.Proofs.YtgclcjohnnpejaaDoor.Pr
end

section
namespace Go.Proofs.YtgclcjohnnpejaaDoor.Pr
open Go.RowKit Go.Proofs.YtgclcjohnnpejaaDoorW.PrintWords Go.Proofs.YtgclcjohnnpejaaDoorW.PrintLast Go.Proofs.YtgclcjohnnpejaaDoorW.PrintMore
attribute [local go_sem] max2_int min2_int max_two min_two max_three min_three max_four min_four
set_option linter.unusedVariables false
set_option linter.unusedSimpArgs false
theorem zL_0 {P : Prop} (h : P := by repeat (first | (with_reducible first | exact HB.out | apply below_alloc | apply pw_below_drewN | apply below_drew1 | refine below_set ?_ GE238.out) | exact HB.out)) : P := h
theorem zL_1 {P : Prop} (h : P := by (with_reducible repeat (first | refine blk_drewN ?_ _ | refine blk_drew ?_ | refine blk_alloc ?_ _)); exact BK238.out) : P := h
theorem zL_2 {P : Prop} (h : P := by (try simp only [List.map_toArray, List.map_cons, List.map_nil]); first | done | rfl | (simp only [List.length_drop, List.length_take]; rfl)) : P := h
theorem zL_3 {P : Prop} (h : P := by repeat (first | (with_reducible first | exact HB.out | apply below_alloc | apply pw_below_drewN | apply below_drew1) | exact HB.out)) : P := h
theorem zL_4 {P : Prop} (h : P := by (with_reducible repeat (first | apply Kd.R_alloc | apply Kd.R_drewN | apply Kd.R_drew)); exact HO_6.out) : P := h
theorem zL_5 {P : Prop} (h : P := by (with_reducible repeat (first | apply Kd.R_alloc | apply Kd.R_drewN | apply Kd.R_drew)); exact HO_4.out) : P := h
theorem zL_6 {P : Prop} (h : P := by (with_reducible repeat (first | apply Kd.R_alloc | apply Kd.R_drewN | apply Kd.R_drew)); exact HO245.out) : P := h
mutual
def laws_FnExactLogRecords.j0 : Nat → List (S38) → Bool → List (S38) → Bool → ByteArray → ByteArray → Int → Option (Bool)
  | 0, _, _, _, _, _, _, _ => none
  | k + 1, x4, x5, x6, x37, x239000, x239001, x239002 => if x37 = true then (some false) else ((laws_markLogRecordS.f k x6 1).bind fun bt255 => ((laws_heldLogRecordS.f k bt255.2 1).bind fun t257 => (if t257 < 0 then (some false) else (if t257 = bt255.1 then ((laws_toLog.f x239000 x239001 x239002).bind fun bt258 => ((impl_LogRecords.f k bt258.1 bt258.2.1 bt258.2.2).bind fun bt261 => ((laws_eqLogRecordS.f k bt261.1 x4).bind fun t265 => (if t265 = true then (laws_FnExactLogRecords.j1 k bt255.2 bt255.1 (bt261.2 != x5)) else (laws_FnExactLogRecords.j1 k bt255.2 bt255.1 true))))) else (some false)))))
def laws_FnExactLogRecords.j1 : Nat → List (S38) → Int → Bool → Option (Bool)
  | 0, _, _, _ => none
  | k + 1, x6, x8, x63 => if x63 = true then (some false) else ((laws_heldLogRecordS.f k x6 1).bind fun t266 => (if t266 < 0 then (some false) else (if t266 = x8 then (some true) else (some false))))
end
def laws_FnExactLogRecords.f (k : Nat) (a0_0 : ByteArray) (a0_1 : ByteArray) (a0_2 : Int) : Option (Bool) := (laws_szLog.f a0_0 a0_1 a0_2 1048576).bind fun t239 => (if t239 < 0 then (some true) else ((laws_toLog.f a0_0 a0_1 a0_2).bind fun bt240 => ((spec_LogRecords.f k bt240.1 bt240.2.1 bt240.2.2).bind fun bt243 => ((laws_toLog.f a0_0 a0_1 a0_2).bind fun bt247 => ((impl_LogRecords.f k bt247.1 bt247.2.1 bt247.2.2).bind fun bt250 => ((laws_eqLogRecordS.f k bt250.1 bt243.1).bind fun t254 => (if t254 = true then (laws_FnExactLogRecords.j0 k bt243.1 bt243.2 bt250.1 (bt250.2 != bt243.2) a0_0 a0_1 a0_2) else (laws_FnExactLogRecords.j0 k bt243.1 bt243.2 bt250.1 true a0_0 a0_1 a0_2))))))))
theorem laws_FnExactLogRecords.mono_l : ∀ k, (∀ y0 y1 y2 y3 y4 y5 y6, LeO (laws_FnExactLogRecords.j0 k y0 y1 y2 y3 y4 y5 y6) (laws_FnExactLogRecords.j0 (k + 1) y0 y1 y2 y3 y4 y5 y6)) ∧ (∀ y0 y1 y2, LeO (laws_FnExactLogRecords.j1 k y0 y1 y2) (laws_FnExactLogRecords.j1 (k + 1) y0 y1 y2))
  | 0 => ⟨fun _ _ _ _ _ _ _ r h => by simp [laws_FnExactLogRecords.j0] at h, fun _ _ _ r h => by simp [laws_FnExactLogRecords.j1] at h⟩
  | k + 1 => by
    obtain ⟨ih0, ih1⟩ := laws_FnExactLogRecords.mono_l k
    refine ⟨?_, ?_⟩
    · intro y0 y1 y2 y3 y4 y5 y6
      unfold laws_FnExactLogRecords.j0
      repeat' first
      | (with_reducible exact ih0 _ _ _ _ _ _ _)
      | (with_reducible exact ih1 _ _ _)
      | (with_reducible exact impl_LogRecords.mono _ _ _ _)
      | (with_reducible exact laws_eqLogRecordS.mono _ _ _)
      | (with_reducible exact laws_heldLogRecordS.mono _ _ _)
      | (with_reducible exact laws_markLogRecordS.mono _ _ _)
      | (with_reducible exact spec_LogRecords.mono _ _ _ _)
      | (with_reducible exact LeO.refl _)
      | (with_reducible exact LeO.none _)
      | (with_reducible refine LeO.ite ?_ ?_)
      | (with_reducible refine LeO.bind ?_ (fun _ => ?_))
      | exact ih0 _ _ _ _ _ _ _
      | exact ih1 _ _ _
      | exact impl_LogRecords.mono _ _ _ _
      | exact laws_eqLogRecordS.mono _ _ _
      | exact laws_heldLogRecordS.mono _ _ _
      | exact laws_markLogRecordS.mono _ _ _
      | exact spec_LogRecords.mono _ _ _ _
      | exact LeO.none _
      | refine LeO.ite ?_ ?_
      | refine LeO.bind ?_ (fun _ => ?_)
    · intro y0 y1 y2
      unfold laws_FnExactLogRecords.j1
      repeat' first
      | (with_reducible exact ih0 _ _ _ _ _ _ _)
      | (with_reducible exact ih1 _ _ _)
      | (with_reducible exact impl_LogRecords.mono _ _ _ _)
      | (with_reducible exact laws_eqLogRecordS.mono _ _ _)
      | (with_reducible exact laws_heldLogRecordS.mono _ _ _)
      | (with_reducible exact laws_markLogRecordS.mono _ _ _)
      | (with_reducible exact spec_LogRecords.mono _ _ _ _)
      | (with_reducible exact LeO.refl _)
      | (with_reducible exact LeO.none _)
      | (with_reducible refine LeO.ite ?_ ?_)
      | (with_reducible refine LeO.bind ?_ (fun _ => ?_))
      | exact ih0 _ _ _ _ _ _ _
      | exact ih1 _ _ _
      | exact impl_LogRecords.mono _ _ _ _
      | exact laws_eqLogRecordS.mono _ _ _
      | exact laws_heldLogRecordS.mono _ _ _
      | exact laws_markLogRecordS.mono _ _ _
      | exact spec_LogRecords.mono _ _ _ _
      | exact LeO.none _
      | refine LeO.ite ?_ ?_
      | refine LeO.bind ?_ (fun _ => ?_)
theorem laws_FnExactLogRecords.mono : ∀ a0 a1 a2 k, LeO (laws_FnExactLogRecords.f k a0 a1 a2) (laws_FnExactLogRecords.f (k + 1) a0 a1 a2) := by
  intro a0 a1 a2 k
  obtain ⟨ih0, ih1⟩ := laws_FnExactLogRecords.mono_l k
  unfold laws_FnExactLogRecords.f
  repeat' first
      | (with_reducible exact ih0 _ _ _ _ _ _ _)
      | (with_reducible exact ih1 _ _ _)
      | (with_reducible exact impl_LogRecords.mono _ _ _ _)
      | (with_reducible exact laws_eqLogRecordS.mono _ _ _)
      | (with_reducible exact laws_heldLogRecordS.mono _ _ _)
      | (with_reducible exact laws_markLogRecordS.mono _ _ _)
      | (with_reducible exact spec_LogRecords.mono _ _ _ _)
      | (with_reducible exact LeO.refl _)
      | (with_reducible exact LeO.none _)
      | (with_reducible refine LeO.ite ?_ ?_)
      | (with_reducible refine LeO.bind ?_ (fun _ => ?_))
      | exact ih0 _ _ _ _ _ _ _
      | exact ih1 _ _ _
      | exact impl_LogRecords.mono _ _ _ _
      | exact laws_eqLogRecordS.mono _ _ _
      | exact laws_heldLogRecordS.mono _ _ _
      | exact laws_markLogRecordS.mono _ _ _
      | exact spec_LogRecords.mono _ _ _ _
      | exact LeO.none _
      | refine LeO.ite ?_ ?_
      | refine LeO.bind ?_ (fun _ => ?_)
set_option maxHeartbeats 8000000 in
set_option maxRecDepth 100000 in
theorem laws_FnExactLogRecords.calls (k : Nat) (a0_0 : ByteArray) (a0_1 : ByteArray) (a0_2 : Int) (r : Bool) (w : World) (hgl : Glob w) (hr : r = true) (h : laws_FnExactLogRecords.f k a0_0 a0_1 a0_2 = some r) :
    Calls Tryd.prog 10 #[.agg #[.string a0_0, .string a0_1, .int .i64 a0_2]] w fun e w' => e = .returned (.bool r) ∧ Below w.heap.size w w' := by
  have hu47 := Tryd.underlying47
  have HB := Aside0.mk (Below.refl w.heap.size w)
  have HGL := Aside0.mk hgl
  clear hgl
  have H : ((laws_szLog.f a0_0 a0_1 a0_2 1048576).bind fun t239 => (if t239 < 0 then (some true) else ((laws_toLog.f a0_0 a0_1 a0_2).bind fun bt240 => ((spec_LogRecords.f k bt240.1 bt240.2.1 bt240.2.2).bind fun bt243 => ((laws_toLog.f a0_0 a0_1 a0_2).bind fun bt247 => ((impl_LogRecords.f k bt247.1 bt247.2.1 bt247.2.2).bind fun bt250 => ((laws_eqLogRecordS.f k bt250.1 bt243.1).bind fun t254 => (if t254 = true then (laws_FnExactLogRecords.j0 k bt243.1 bt243.2 bt250.1 (bt250.2 != bt243.2) a0_0 a0_1 a0_2) else (laws_FnExactLogRecords.j0 k bt243.1 bt243.2 bt250.1 true a0_0 a0_1 a0_2))))))))) = some r := h
  clear h
  replace H := Option.bind_eq_some_iff.mp H
  obtain ⟨t239, A20, H⟩ := H
  replace H : (if t239 < 0 then (some true) else ((laws_toLog.f a0_0 a0_1 a0_2).bind fun bt240 => ((spec_LogRecords.f k bt240.1 bt240.2.1 bt240.2.2).bind fun bt243 => ((laws_toLog.f a0_0 a0_1 a0_2).bind fun bt247 => ((impl_LogRecords.f k bt247.1 bt247.2.1 bt247.2.2).bind fun bt250 => ((laws_eqLogRecordS.f k bt250.1 bt243.1).bind fun t254 => (if t254 = true then (laws_FnExactLogRecords.j0 k bt243.1 bt243.2 bt250.1 (bt250.2 != bt243.2) a0_0 a0_1 a0_2) else (laws_FnExactLogRecords.j0 k bt243.1 bt243.2 bt250.1 true a0_0 a0_1 a0_2)))))))) = some r := H
  have A2 := Aside0.mk A20
  clear A20
  by_cases c3 : t239 < 0
  · rw [if_pos c3] at H
    have c3b0 : decide (t239 < 0) = true := decide_eq_true c3
    clear c3
    obtain rfl := Option.some.inj H; clear hr
    go_enter Tryd.func10, Tryd.ntmps10
    go_wp2_with (first | ((with_reducible refine gate_dst (N := 1) rfl ?_); refine box_event ?hg (N := 1) ?hd (cs := #[.string a0_0, .string a0_1, .int .i64 a0_2]) (t := 47) ?hr ?_; (case hd => rfl); (case hg => rfl); (case hr => first | (go_simp; done) | (go_simp; rfl)); intro gb238 hg w4 hbox hb; have n0_ := Aside0.mk (below_step zL_3 hb); have n1_ := Aside0.mk (hbox); have n2_ := Aside0.mk ((by rw [hg]; exact (below_size zL_3) : w.heap.size ≤ gb238)); have n3_ := Aside0.mk ((by rw [hg]; exact (below_size zL_3) : w.heap.size ≤ gb238)); clear HB; have HB := n0_; have BK238 := n1_; have GW238 := n2_; have GE238 := n3_; clear n0_ n1_ n2_ n3_; clear hb hbox hg; have hcz5_0 : w4.cell? ⟨gb238, 0, none⟩ = some (.string a0_0) := (blk_cell BK238.out 0).trans rfl; have hcz5_1 : w4.cell? ⟨gb238, 1, none⟩ = some (.string a0_1) := (blk_cell BK238.out 1).trans rfl; have hcz5_2 : w4.cell? ⟨gb238, 2, none⟩ = some (.int .i64 a0_2) := (blk_cell BK238.out 2).trans rfl; have hfz5_0 := blk_frozen BK238.out 0; have hfz5_1 := blk_frozen BK238.out 1; have hfz5_2 := blk_frozen BK238.out 2) | ((with_reducible refine gate_callee (f := 30) rfl ?_); refine goesL_ (some 14) rfl rfl Tryd.func30 (by kernel_rfl) rfl #[.agg #[.string a0_0, .string a0_1, .int .i64 a0_2], .int .i64 1048576] rfl zL_2 ?_; (with_reducible refine (laws_szLog.calls a0_0 a0_1 a0_2 1048576 t239 _ A2.out).mono ?_); rintro e w6 ⟨rfl, hb⟩; refine ⟨_, rfl, ?_⟩; have n0_ := Aside0.mk (blk_below (g := gb238) (o := .cells #[.string a0_0, .string a0_1, .int .i64 a0_2] 47 (0, 0)) zL_1 hb); have n1_ := Aside0.mk (below_step zL_0 hb); clear BK238; clear HB; have BK238 := n0_; have HB := n1_; clear n0_ n1_; (try clear hb); (try clear hb2); (try clear hk); (try clear hi)))
    go_ret
    exact ⟨by first | rfl | (simp [errW_none, errW_some] <;> rfl) | (simp [*, errW_none, errW_some] <;> rfl), zL_0⟩
  · rw [if_neg c3] at H
    have c3b0 : decide (t239 < 0) = false := decide_eq_false c3
    clear c3
    replace H := Option.bind_eq_some_iff.mp H
    obtain ⟨⟨t240, t241, t242⟩, A70, H⟩ := H
    replace H : ((spec_LogRecords.f k t240 t241 t242).bind fun bt243 => ((laws_toLog.f a0_0 a0_1 a0_2).bind fun bt247 => ((impl_LogRecords.f k bt247.1 bt247.2.1 bt247.2.2).bind fun bt250 => ((laws_eqLogRecordS.f k bt250.1 bt243.1).bind fun t254 => (if t254 = true then (laws_FnExactLogRecords.j0 k bt243.1 bt243.2 bt250.1 (bt250.2 != bt243.2) a0_0 a0_1 a0_2) else (laws_FnExactLogRecords.j0 k bt243.1 bt243.2 bt250.1 true a0_0 a0_1 a0_2)))))) = some r := H
    have A7 := Aside0.mk A70
    clear A70
    replace H := Option.bind_eq_some_iff.mp H
    obtain ⟨⟨t243, t246⟩, A80, H⟩ := H
    replace H : ((laws_toLog.f a0_0 a0_1 a0_2).bind fun bt247 => ((impl_LogRecords.f k bt247.1 bt247.2.1 bt247.2.2).bind fun bt250 => ((laws_eqLogRecordS.f k bt250.1 t243).bind fun t254 => (if t254 = true then (laws_FnExactLogRecords.j0 k t243 t246 bt250.1 (bt250.2 != t246) a0_0 a0_1 a0_2) else (laws_FnExactLogRecords.j0 k t243 t246 bt250.1 true a0_0 a0_1 a0_2))))) = some r := H
    have A8 := Aside0.mk A80
    clear A80
    replace H := Option.bind_eq_some_iff.mp H
    obtain ⟨⟨t247, t248, t249⟩, A90, H⟩ := H
    replace H : ((impl_LogRecords.f k t247 t248 t249).bind fun bt250 => ((laws_eqLogRecordS.f k bt250.1 t243).bind fun t254 => (if t254 = true then (laws_FnExactLogRecords.j0 k t243 t246 bt250.1 (bt250.2 != t246) a0_0 a0_1 a0_2) else (laws_FnExactLogRecords.j0 k t243 t246 bt250.1 true a0_0 a0_1 a0_2)))) = some r := H
    have A9 := Aside0.mk A90
    clear A90
    replace H := Option.bind_eq_some_iff.mp H
    obtain ⟨⟨t250, t253⟩, A100, H⟩ := H
    replace H : ((laws_eqLogRecordS.f k t250 t243).bind fun t254 => (if t254 = true then (laws_FnExactLogRecords.j0 k t243 t246 t250 (t253 != t246) a0_0 a0_1 a0_2) else (laws_FnExactLogRecords.j0 k t243 t246 t250 true a0_0 a0_1 a0_2))) = some r := H
    have A10 := Aside0.mk A100
    clear A100
    have HC11 := Aside0.mk H
    clear H
    go_enter Tryd.func10, Tryd.ntmps10
    go_upto_region 7 with (first | ((with_reducible refine gate_dst (N := 1) rfl ?_); refine box_event ?hg (N := 1) ?hd (cs := #[.string a0_0, .string a0_1, .int .i64 a0_2]) (t := 47) ?hr ?_; (case hd => rfl); (case hg => rfl); (case hr => first | (go_simp; done) | (go_simp; rfl)); intro gb238 hg w12 hbox hb; have n0_ := Aside0.mk (below_step zL_3 hb); have n1_ := Aside0.mk (hbox); have n2_ := Aside0.mk ((by rw [hg]; exact (below_size zL_3) : w.heap.size ≤ gb238)); have n3_ := Aside0.mk ((by rw [hg]; exact (below_size zL_3) : w.heap.size ≤ gb238)); clear HB; have HB := n0_; have BK238 := n1_; have GW238 := n2_; have GE238 := n3_; clear n0_ n1_ n2_ n3_; clear hb hbox hg; have hcz13_0 : w12.cell? ⟨gb238, 0, none⟩ = some (.string a0_0) := (blk_cell BK238.out 0).trans rfl; have hcz13_1 : w12.cell? ⟨gb238, 1, none⟩ = some (.string a0_1) := (blk_cell BK238.out 1).trans rfl; have hcz13_2 : w12.cell? ⟨gb238, 2, none⟩ = some (.int .i64 a0_2) := (blk_cell BK238.out 2).trans rfl; have hfz13_0 := blk_frozen BK238.out 0; have hfz13_1 := blk_frozen BK238.out 1; have hfz13_2 := blk_frozen BK238.out 2) | ((with_reducible refine gate_callee (f := 30) rfl ?_); refine goesL_ (some 14) rfl rfl Tryd.func30 (by kernel_rfl) rfl #[.agg #[.string a0_0, .string a0_1, .int .i64 a0_2], .int .i64 1048576] rfl zL_2 ?_; (with_reducible refine (laws_szLog.calls a0_0 a0_1 a0_2 1048576 t239 _ A2.out).mono ?_); rintro e w14 ⟨rfl, hb⟩; refine ⟨_, rfl, ?_⟩; have n0_ := Aside0.mk (blk_below (g := gb238) (o := .cells #[.string a0_0, .string a0_1, .int .i64 a0_2] 47 (0, 0)) zL_1 hb); have n1_ := Aside0.mk (below_step zL_0 hb); clear BK238; clear HB; have BK238 := n0_; have HB := n1_; clear n0_ n1_; (try clear hb); (try clear hb2); (try clear hk); (try clear hi); have hcz15_0 : w14.cell? ⟨gb238, 0, none⟩ = some (.string a0_0) := (blk_cell BK238.out 0).trans rfl; have hcz15_1 : w14.cell? ⟨gb238, 1, none⟩ = some (.string a0_1) := (blk_cell BK238.out 1).trans rfl; have hcz15_2 : w14.cell? ⟨gb238, 2, none⟩ = some (.int .i64 a0_2) := (blk_cell BK238.out 2).trans rfl; have hfz15_0 := blk_frozen BK238.out 0; have hfz15_1 := blk_frozen BK238.out 1; have hfz15_2 := blk_frozen BK238.out 2) | ((with_reducible refine gate_callee (f := 32) rfl ?_); refine goesL_ (some 19) rfl rfl Tryd.func32 (by kernel_rfl) rfl #[.agg #[.string a0_0, .string a0_1, .int .i64 a0_2]] rfl zL_2 ?_; (with_reducible refine (laws_toLog.calls a0_0 a0_1 a0_2 t240 t241 t242 _ A7.out).mono ?_); rintro e w16 ⟨rfl, hb⟩; refine ⟨_, rfl, ?_⟩; have n0_ := Aside0.mk (blk_below (g := gb238) (o := .cells #[.string a0_0, .string a0_1, .int .i64 a0_2] 47 (0, 0)) zL_1 hb); have n1_ := Aside0.mk (below_step zL_0 hb); clear BK238; clear HB; have BK238 := n0_; have HB := n1_; clear n0_ n1_; (try clear hb); (try clear hb2); (try clear hk); (try clear hi)) | ((with_reducible refine gate_callee (f := 40) rfl ?_); refine goesL_ (some 20) rfl rfl Tryd.func40 (by kernel_rfl) rfl #[.agg #[.string t240, .string t241, .int .i64 t242]] rfl zL_2 ?_; (with_reducible refine (spec_LogRecords.calls k t240 t241 t242 t243 t246 _ A8.out).mono ?_); rintro e w17 ⟨v244, rfl, ho0, hb⟩; refine ⟨_, rfl, ?_⟩; have n0_ := Aside0.mk (Kd.R_lower ho0 (below_size zL_0)); have n1_ := Aside0.mk (blk_below (g := gb238) (o := .cells #[.string a0_0, .string a0_1, .int .i64 a0_2] 47 (0, 0)) zL_1 hb); have n2_ := Aside0.mk (below_step zL_0 hb); clear BK238; clear HB; have HO245 := n0_; have BK238 := n1_; have HB := n2_; clear n0_ n1_ n2_; (try clear hb); (try clear hb2); (try clear hk); (try clear hi); (try clear ho0); have hcz18_0 : w17.cell? ⟨gb238, 0, none⟩ = some (.string a0_0) := (blk_cell BK238.out 0).trans rfl; have hcz18_1 : w17.cell? ⟨gb238, 1, none⟩ = some (.string a0_1) := (blk_cell BK238.out 1).trans rfl; have hcz18_2 : w17.cell? ⟨gb238, 2, none⟩ = some (.int .i64 a0_2) := (blk_cell BK238.out 2).trans rfl; have hfz18_0 := blk_frozen BK238.out 0; have hfz18_1 := blk_frozen BK238.out 1; have hfz18_2 := blk_frozen BK238.out 2) | ((with_reducible refine gate_callee (f := 32) rfl ?_); refine goesL_ (some 25) rfl rfl Tryd.func32 (by kernel_rfl) rfl #[.agg #[.string a0_0, .string a0_1, .int .i64 a0_2]] rfl zL_2 ?_; (with_reducible refine (laws_toLog.calls a0_0 a0_1 a0_2 t247 t248 t249 _ A9.out).mono ?_); rintro e w19 ⟨rfl, hb⟩; refine ⟨_, rfl, ?_⟩; have n0_ := Aside0.mk (Kd.R_below zL_6 hb); have n1_ := Aside0.mk (blk_below (g := gb238) (o := .cells #[.string a0_0, .string a0_1, .int .i64 a0_2] 47 (0, 0)) zL_1 hb); have n2_ := Aside0.mk (below_step zL_0 hb); clear HO245; clear BK238; clear HB; have HO245 := n0_; have BK238 := n1_; have HB := n2_; clear n0_ n1_ n2_; (try clear hb); (try clear hb2); (try clear hk); (try clear hi)) | ((with_reducible refine gate_callee (f := 41) rfl ?_); refine goesL_ (some 26) rfl rfl Tryd.func41 (by kernel_rfl) rfl #[.agg #[.string t247, .string t248, .int .i64 t249]] rfl zL_2 ?_; (with_reducible refine (impl_LogRecords.calls k t247 t248 t249 t250 t253 _ ?side1 A10.out).mono ?_); (case side1 => exact Glob.below HGL.out zL_0); rintro e w20 ⟨v251, rfl, ho0, hb⟩; refine ⟨_, rfl, ?_⟩; have n0_ := Aside0.mk (Kd.R_elder' zL_6 (Kd.R_base ho0) hb); have n1_ := Aside0.mk (Kd.R_lower (Kd.R_new' ho0 (Kd.R_lt zL_6)) (below_size zL_0)); have n2_ := Aside0.mk (blk_below (g := gb238) (o := .cells #[.string a0_0, .string a0_1, .int .i64 a0_2] 47 (0, 0)) zL_1 hb); have n3_ := Aside0.mk (below_step zL_0 hb); clear HO245; clear BK238; clear HB; have HO245 := n0_; have HO252 := n1_; have BK238 := n2_; have HB := n3_; clear n0_ n1_ n2_ n3_; (try clear hb); (try clear hb2); (try clear hk); (try clear hi); (try clear ho0)))
    (try simp only [Act.put, List.setIfInBounds_toArray, List.set_cons_zero, List.set_cons_succ])
    go_cut [37] (fun v37 wc => ∃ (kq : Nat) (x37_10 : Bool), v37 = .bool x37_10 ∧ Aside0 (laws_FnExactLogRecords.j0 kq t243 t246 t250 x37_10 a0_0 a0_1 a0_2 = some r) ∧ Aside0 (kq ≤ k) ∧ Aside0 (Kd.R k38 38 wc w.heap.size (fun k_ => some k_ ≠ (v251 : Value).ownBlock) v244 t243) ∧ Aside0 (Kd.R k38 38 wc w.heap.size (fun k_ => some k_ ≠ (v244 : Value).ownBlock) v251 t250) ∧ Aside0 (wc.heap[gb238]? = some (.cells #[.string a0_0, .string a0_1, .int .i64 a0_2] 47 (0, 0))) ∧ Aside0 (Below w.heap.size w wc))
    case first =>
      have H := HC11.out
      clear HC11
      replace H := Option.bind_eq_some_iff.mp H
      obtain ⟨t254, A210, H⟩ := H
      replace H : (if t254 = true then (laws_FnExactLogRecords.j0 k t243 t246 t250 (t253 != t246) a0_0 a0_1 a0_2) else (laws_FnExactLogRecords.j0 k t243 t246 t250 true a0_0 a0_1 a0_2)) = some r := H
      have A21 := Aside0.mk A210
      clear A210
      by_cases c22 : t254 = true
      · subst c22
        have H1 : (laws_FnExactLogRecords.j0 k t243 t246 t250 (t253 != t246) a0_0 a0_1 a0_2) = some r := by rw [if_pos rfl] at H; exact H
        clear H
        have H := H1
        clear H1
        have H' := Aside0.mk H
        clear H
        obtain ⟨Ao23, co23, eo23⟩ := Kd.R_slice HO252.out
        subst eo23
        obtain ⟨Ao24, co24, eo24⟩ := Kd.R_slice HO245.out
        subst eo24
        go_wp2_with (first | ((with_reducible refine gate_callee (f := 42) rfl ?_); refine goesL_ (some 31) rfl rfl Tryd.func42 (by kernel_rfl) rfl #[.slice Ao23 t250.length co23, .slice Ao24 t243.length co24] rfl zL_2 ?_; (with_reducible refine (laws_eqLogRecordS.calls k _ _ t250 _ _ t243 true _ ?side1 ?side2 ?side3 ?side4 A21.out).mono ?_); (case side1 => repeat (first | exact (Kd.R_reads' HO252.out).2.2 | (with_reducible refine Kd.C_alloc ?_ _) | (with_reducible refine Kd.C_drewN ?_ _) | (with_reducible refine Kd.C_drew ?_))); (case side2 => exact (Kd.R_reads' HO252.out).2.1); (case side3 => repeat (first | exact (Kd.R_reads' HO245.out).2.2 | (with_reducible refine Kd.C_alloc ?_ _) | (with_reducible refine Kd.C_drewN ?_ _) | (with_reducible refine Kd.C_drew ?_))); (case side4 => exact (Kd.R_reads' HO245.out).2.1); rintro e w25 ⟨rfl, hb⟩; refine ⟨_, rfl, ?_⟩; have n0_ := Aside0.mk (Kd.R_below zL_6 hb); have n1_ := Aside0.mk (Kd.R_below (by (with_reducible repeat (first | apply Kd.R_alloc | apply Kd.R_drewN | apply Kd.R_drew)); exact HO252.out) hb); have n2_ := Aside0.mk (blk_below (g := gb238) (o := .cells #[.string a0_0, .string a0_1, .int .i64 a0_2] 47 (0, 0)) zL_1 hb); have n3_ := Aside0.mk (below_step zL_0 hb); clear HO245; clear HO252; clear BK238; clear HB; have HO245 := n0_; have HO252 := n1_; have BK238 := n2_; have HB := n3_; clear n0_ n1_ n2_ n3_; (try clear hb); (try clear hb2); (try clear hk); (try clear hi)))
        go_meet
        case rel => exact ⟨_, ((t253 != t246)), (by first | rfl | (simp; done) | (simp [*]; done)), H', ⟨by first | omega | exact Nat.le_refl _⟩, ⟨by (with_reducible repeat (first | apply Kd.R_alloc | apply Kd.R_drewN | apply Kd.R_drew)); exact Kd.R_mono HO245.out (fun _ hk => hk.2)⟩, ⟨by (with_reducible repeat (first | apply Kd.R_alloc | apply Kd.R_drewN | apply Kd.R_drew)); exact Kd.R_mono HO252.out (fun _ hk => hk.2)⟩, ⟨zL_1⟩, ⟨zL_0⟩⟩
      · replace c22 := Bool.eq_false_iff.mpr c22
        subst c22
        have H1 : (laws_FnExactLogRecords.j0 k t243 t246 t250 true a0_0 a0_1 a0_2) = some r := by rw [if_neg (show ¬ (false = true) by decide)] at H; exact H
        clear H
        have H := H1
        clear H1
        exact absurd H (by rw [hr]; cases k <;> simp [laws_FnExactLogRecords.j0])
    case rest =>
      clear HC11
      try clear c1
      try clear c2
      try clear p2
      try clear c3
      try clear c3b0
      try clear c4
      try clear c10
      try clear c22
      try clear hcz13_0
      try clear hcz13_1
      try clear hcz13_2
      try clear hcz15_0
      try clear hcz15_1
      try clear hcz15_2
      try clear hcz18_0
      try clear hcz18_1
      try clear hcz18_2
      try clear hcz5_0
      try clear hcz5_1
      try clear hcz5_2
      try clear hfz13_0
      try clear hfz13_1
      try clear hfz13_2
      try clear hfz15_0
      try clear hfz15_1
      try clear hfz15_2
      try clear hfz18_0
      try clear hfz18_1
      try clear hfz18_2
      try clear hfz5_0
      try clear hfz5_1
      try clear hfz5_2
      obtain ⟨kq, x37_10, rfl, HA, HJ10, HO_4, HO_6, BK238, HB⟩ := hcut
      cases kq with
      | zero => exact absurd HA.out (by simp [laws_FnExactLogRecords.j0])
      | succ kj10 =>
        have H := HA.out
        clear HA
        simp only [laws_FnExactLogRecords.j0] at H
        by_cases c29 : x37_10 = true
        · subst c29
          have H1 : (some false) = some r := by rw [if_pos rfl] at H; exact H
          clear H
          have H := H1
          clear H1
          exact absurd (Option.some.inj H) (by rw [hr]; decide)
        · replace c29 := Bool.eq_false_iff.mpr c29
          subst c29
          have H1 : ((laws_markLogRecordS.f kj10 t250 1).bind fun bt255 => ((laws_heldLogRecordS.f kj10 bt255.2 1).bind fun t257 => (if t257 < 0 then (some false) else (if t257 = bt255.1 then ((laws_toLog.f a0_0 a0_1 a0_2).bind fun bt258 => ((impl_LogRecords.f kj10 bt258.1 bt258.2.1 bt258.2.2).bind fun bt261 => ((laws_eqLogRecordS.f kj10 bt261.1 t243).bind fun t265 => (if t265 = true then (laws_FnExactLogRecords.j1 kj10 bt255.2 bt255.1 (bt261.2 != t246)) else (laws_FnExactLogRecords.j1 kj10 bt255.2 bt255.1 true))))) else (some false))))) = some r := by rw [if_neg (show ¬ (false = true) by decide)] at H; exact H
          clear H
          have H := H1
          clear H1
          replace H := Option.bind_eq_some_iff.mp H
          obtain ⟨⟨t255, t256⟩, A300, H⟩ := H
          replace H : ((laws_heldLogRecordS.f kj10 t256 1).bind fun t257 => (if t257 < 0 then (some false) else (if t257 = t255 then ((laws_toLog.f a0_0 a0_1 a0_2).bind fun bt258 => ((impl_LogRecords.f kj10 bt258.1 bt258.2.1 bt258.2.2).bind fun bt261 => ((laws_eqLogRecordS.f kj10 bt261.1 t243).bind fun t265 => (if t265 = true then (laws_FnExactLogRecords.j1 kj10 t256 t255 (bt261.2 != t246)) else (laws_FnExactLogRecords.j1 kj10 t256 t255 true))))) else (some false)))) = some r := H
          have A30 := Aside0.mk A300
          clear A300
          replace H := Option.bind_eq_some_iff.mp H
          obtain ⟨t257, A310, H⟩ := H
          replace H : (if t257 < 0 then (some false) else (if t257 = t255 then ((laws_toLog.f a0_0 a0_1 a0_2).bind fun bt258 => ((impl_LogRecords.f kj10 bt258.1 bt258.2.1 bt258.2.2).bind fun bt261 => ((laws_eqLogRecordS.f kj10 bt261.1 t243).bind fun t265 => (if t265 = true then (laws_FnExactLogRecords.j1 kj10 t256 t255 (bt261.2 != t246)) else (laws_FnExactLogRecords.j1 kj10 t256 t255 true))))) else (some false))) = some r := H
          have A31 := Aside0.mk A310
          clear A310
          by_cases c32 : t257 < 0
          · rw [if_pos c32] at H
            have c32b0 : decide (t257 < 0) = true := decide_eq_true c32
            clear c32
            exact absurd (Option.some.inj H) (by rw [hr]; decide)
          · rw [if_neg c32] at H
            have c32b0 : decide (t257 < 0) = false := decide_eq_false c32
            clear c32
            by_cases c36 : t257 = t255
            · rw [if_pos c36] at H
              have c36b0 : (t257 == t255) = true := beq_iff_eq.mpr c36
              have c36b1 : (t257 != t255) = false := bne_eq_false_iff_eq.mpr c36
              clear c36
              replace H := Option.bind_eq_some_iff.mp H
              obtain ⟨⟨t258, t259, t260⟩, A370, H⟩ := H
              replace H : ((impl_LogRecords.f kj10 t258 t259 t260).bind fun bt261 => ((laws_eqLogRecordS.f kj10 bt261.1 t243).bind fun t265 => (if t265 = true then (laws_FnExactLogRecords.j1 kj10 t256 t255 (bt261.2 != t246)) else (laws_FnExactLogRecords.j1 kj10 t256 t255 true)))) = some r := H
              have A37 := Aside0.mk A370
              clear A370
              replace H := Option.bind_eq_some_iff.mp H
              obtain ⟨⟨t261, t264⟩, A380, H⟩ := H
              replace H : ((laws_eqLogRecordS.f kj10 t261 t243).bind fun t265 => (if t265 = true then (laws_FnExactLogRecords.j1 kj10 t256 t255 (t264 != t246)) else (laws_FnExactLogRecords.j1 kj10 t256 t255 true))) = some r := H
              have A38 := Aside0.mk A380
              clear A380
              have HC39 := Aside0.mk H
              clear H
              obtain ⟨Ao40, co40, eo40⟩ := Kd.R_slice HO_6.out
              subst eo40
              go_upto_region 18 with (first | ((with_reducible refine gate_callee (f := 43) rfl ?_); refine goesL_ (some 40) rfl rfl Tryd.func43 (by kernel_rfl) rfl #[.slice Ao40 t250.length co40, .int .i64 1] rfl zL_2 ?_; (with_reducible refine (laws_markLogRecordS.calls kj10 (fun k_ => some k_ = (.slice Ao40 t250.length co40 : Value).ownBlock) (.slice Ao40 t250.length co40) t250 1 t255 t256 w _ ?side1 ?side2 A30.out).mono ?_); (case side1 => repeat (first | (with_reducible first | exact HB.out | apply below_alloc | apply pw_below_drewN | apply below_drew1 | refine below_set ?_ GE238.out) | exact HB.out)); (case side2 => exact Kd.R_tight rfl HO_6.out); rintro e w41 ⟨rfl, hy0, hb, hkp⟩; refine ⟨_, rfl, ?_⟩; have n0_ := Aside0.mk (Kd.R_mono (ok' := fun k_ => some k_ ≠ (.slice Ao40 t250.length co40 : Value).ownBlock) (Kd.R_keptB (HO_4.out) hkp (fun k_ hk_ hs_ => (hk_) hs_)) (fun k_ hk_ => hk_.1)); have n1_ := Aside0.mk (Kd.R_reok rfl hy0 (fun k_ e_ => HO_6.out.1 k_ e_)); have n2_ := Aside0.mk (blk_kept zL_1 hkp (fun hs_ => (fun e_ => (Kd.R_ne HO_6.out BK238.out (by decide)) e_) hs_)); have n3_ := Aside0.mk (hb); clear HO_4; clear HO_6; clear BK238; clear HB; have HO_4 := n0_; have HO_6 := n1_; have BK238 := n2_; have HB := n3_; clear n0_ n1_ n2_ n3_; (try clear hb); (try clear hkp); (try clear hy0)) | ((with_reducible refine gate_callee (f := 44) rfl ?_); refine goesL_ (some 43) rfl rfl Tryd.func44 (by kernel_rfl) rfl #[.slice Ao40 t256.length co40, .int .i64 1] rfl (by (try simp only [List.map_toArray, List.map_cons, List.map_nil]); first | done | (rw [show t256.length = t250.length from (Kd.R_reads' HO_6.out).1.symm] <;> rfl) | rfl | (simp only [List.length_drop, List.length_take]; rfl)) ?_; (with_reducible refine (laws_heldLogRecordS.calls kj10 _ _ t256 1 t257 _ ?side1 ?side2 A31.out).mono ?_); (case side1 => repeat (first | exact (Kd.R_reads' HO_6.out).2.2 | (with_reducible refine Kd.C_alloc ?_ _) | (with_reducible refine Kd.C_drewN ?_ _) | (with_reducible refine Kd.C_drew ?_))); (case side2 => rw [show t256.length = t250.length from (Kd.R_reads' HO_6.out).1.symm]; exact (Kd.R_reads' HO_6.out).2.1); rintro e w42 ⟨rfl, hb⟩; refine ⟨_, rfl, ?_⟩; have n0_ := Aside0.mk (Kd.R_below zL_5 hb); have n1_ := Aside0.mk (Kd.R_below zL_4 hb); have n2_ := Aside0.mk (blk_below (g := gb238) (o := .cells #[.string a0_0, .string a0_1, .int .i64 a0_2] 47 (0, 0)) zL_1 hb); have n3_ := Aside0.mk (below_step zL_0 hb); clear HO_4; clear HO_6; clear BK238; clear HB; have HO_4 := n0_; have HO_6 := n1_; have BK238 := n2_; have HB := n3_; clear n0_ n1_ n2_ n3_; (try clear hb); (try clear hb2); (try clear hk); (try clear hi); have hcz43_0 : w42.cell? ⟨gb238, 0, none⟩ = some (.string a0_0) := (blk_cell BK238.out 0).trans rfl; have hcz43_1 : w42.cell? ⟨gb238, 1, none⟩ = some (.string a0_1) := (blk_cell BK238.out 1).trans rfl; have hcz43_2 : w42.cell? ⟨gb238, 2, none⟩ = some (.int .i64 a0_2) := (blk_cell BK238.out 2).trans rfl; have hfz43_0 := blk_frozen BK238.out 0; have hfz43_1 := blk_frozen BK238.out 1; have hfz43_2 := blk_frozen BK238.out 2) | ((with_reducible refine gate_callee (f := 32) rfl ?_); refine goesL_ (some 51) rfl rfl Tryd.func32 (by kernel_rfl) rfl #[.agg #[.string a0_0, .string a0_1, .int .i64 a0_2]] rfl zL_2 ?_; (with_reducible refine (laws_toLog.calls a0_0 a0_1 a0_2 t258 t259 t260 _ A37.out).mono ?_); rintro e w44 ⟨rfl, hb⟩; refine ⟨_, rfl, ?_⟩; have n0_ := Aside0.mk (Kd.R_below zL_5 hb); have n1_ := Aside0.mk (Kd.R_below zL_4 hb); have n2_ := Aside0.mk (blk_below (g := gb238) (o := .cells #[.string a0_0, .string a0_1, .int .i64 a0_2] 47 (0, 0)) zL_1 hb); have n3_ := Aside0.mk (below_step zL_0 hb); clear HO_4; clear HO_6; clear BK238; clear HB; have HO_4 := n0_; have HO_6 := n1_; have BK238 := n2_; have HB := n3_; clear n0_ n1_ n2_ n3_; (try clear hb); (try clear hb2); (try clear hk); (try clear hi)) | ((with_reducible refine gate_callee (f := 41) rfl ?_); refine goesL_ (some 52) rfl rfl Tryd.func41 (by kernel_rfl) rfl #[.agg #[.string t258, .string t259, .int .i64 t260]] rfl zL_2 ?_; (with_reducible refine (impl_LogRecords.calls kj10 t258 t259 t260 t261 t264 _ ?side1 A38.out).mono ?_); (case side1 => exact Glob.below HGL.out zL_0); rintro e w45 ⟨v262, rfl, ho0, hb⟩; refine ⟨_, rfl, ?_⟩; have n0_ := Aside0.mk (Kd.R_elder' zL_5 (Kd.R_base ho0) hb); have n1_ := Aside0.mk (Kd.R_elder' zL_4 (Kd.R_base ho0) hb); have n2_ := Aside0.mk (Kd.R_lower (Kd.R_new' (Kd.R_new' ho0 (Kd.R_lt zL_5)) (Kd.R_lt zL_4)) (below_size zL_0)); have n3_ := Aside0.mk (blk_below (g := gb238) (o := .cells #[.string a0_0, .string a0_1, .int .i64 a0_2] 47 (0, 0)) zL_1 hb); have n4_ := Aside0.mk (below_step zL_0 hb); clear HO_4; clear HO_6; clear BK238; clear HB; have HO_4 := n0_; have HO_6 := n1_; have HO263 := n2_; have BK238 := n3_; have HB := n4_; clear n0_ n1_ n2_ n3_ n4_; (try clear hb); (try clear hb2); (try clear hk); (try clear hi); (try clear ho0)))
              (try simp only [Act.put, List.setIfInBounds_toArray, List.set_cons_zero, List.set_cons_succ])
              go_cut [63] (fun v63 wc => ∃ (kq : Nat) (x63_38 : Bool), v63 = .bool x63_38 ∧ Aside0 (laws_FnExactLogRecords.j1 kq t256 t255 x63_38 = some r) ∧ Aside0 (kq ≤ kj10) ∧ Aside0 (Kd.R k38 38 wc w.heap.size (fun _ => True) (.slice Ao40 t250.length co40) t256) ∧ Aside0 (wc.heap[gb238]? = some (.cells #[.string a0_0, .string a0_1, .int .i64 a0_2] 47 (0, 0))) ∧ Aside0 (Below w.heap.size w wc))
              case first =>
                have H := HC39.out
                clear HC39
                replace H := Option.bind_eq_some_iff.mp H
                obtain ⟨t265, A460, H⟩ := H
                replace H : (if t265 = true then (laws_FnExactLogRecords.j1 kj10 t256 t255 (t264 != t246)) else (laws_FnExactLogRecords.j1 kj10 t256 t255 true)) = some r := H
                have A46 := Aside0.mk A460
                clear A460
                by_cases c47 : t265 = true
                · subst c47
                  have H1 : (laws_FnExactLogRecords.j1 kj10 t256 t255 (t264 != t246)) = some r := by rw [if_pos rfl] at H; exact H
                  clear H
                  have H := H1
                  clear H1
                  have H' := Aside0.mk H
                  clear H
                  obtain ⟨Ao48, co48, eo48⟩ := Kd.R_slice HO263.out
                  subst eo48
                  obtain ⟨Ao49, co49, eo49⟩ := Kd.R_slice HO_4.out
                  subst eo49
                  go_wp2_with (first | ((with_reducible refine gate_callee (f := 42) rfl ?_); refine goesL_ (some 57) rfl rfl Tryd.func42 (by kernel_rfl) rfl #[.slice Ao48 t261.length co48, .slice Ao49 t243.length co49] rfl zL_2 ?_; (with_reducible refine (laws_eqLogRecordS.calls kj10 _ _ t261 _ _ t243 true _ ?side1 ?side2 ?side3 ?side4 A46.out).mono ?_); (case side1 => repeat (first | exact (Kd.R_reads' HO263.out).2.2 | (with_reducible refine Kd.C_alloc ?_ _) | (with_reducible refine Kd.C_drewN ?_ _) | (with_reducible refine Kd.C_drew ?_))); (case side2 => exact (Kd.R_reads' HO263.out).2.1); (case side3 => repeat (first | exact (Kd.R_reads' HO_4.out).2.2 | (with_reducible refine Kd.C_alloc ?_ _) | (with_reducible refine Kd.C_drewN ?_ _) | (with_reducible refine Kd.C_drew ?_))); (case side4 => exact (Kd.R_reads' HO_4.out).2.1); rintro e w50 ⟨rfl, hb⟩; refine ⟨_, rfl, ?_⟩; have n0_ := Aside0.mk (Kd.R_below zL_5 hb); have n1_ := Aside0.mk (Kd.R_below zL_4 hb); have n2_ := Aside0.mk (Kd.R_below (by (with_reducible repeat (first | apply Kd.R_alloc | apply Kd.R_drewN | apply Kd.R_drew)); exact HO263.out) hb); have n3_ := Aside0.mk (blk_below (g := gb238) (o := .cells #[.string a0_0, .string a0_1, .int .i64 a0_2] 47 (0, 0)) zL_1 hb); have n4_ := Aside0.mk (below_step zL_0 hb); clear HO_4; clear HO_6; clear HO263; clear BK238; clear HB; have HO_4 := n0_; have HO_6 := n1_; have HO263 := n2_; have BK238 := n3_; have HB := n4_; clear n0_ n1_ n2_ n3_ n4_; (try clear hb); (try clear hb2); (try clear hk); (try clear hi)))
                  go_meet
                  case rel => exact ⟨_, ((t264 != t246)), (by first | rfl | (simp; done) | (simp [*]; done)), H', ⟨by have := HJ10.out; first | omega | exact Nat.le_refl _⟩, ⟨by (with_reducible repeat (first | apply Kd.R_alloc | apply Kd.R_drewN | apply Kd.R_drew)); exact Kd.R_mono HO_6.out (fun _ hk => trivial)⟩, ⟨zL_1⟩, ⟨zL_0⟩⟩
                · replace c47 := Bool.eq_false_iff.mpr c47
                  subst c47
                  have H1 : (laws_FnExactLogRecords.j1 kj10 t256 t255 true) = some r := by rw [if_neg (show ¬ (false = true) by decide)] at H; exact H
                  clear H
                  have H := H1
                  clear H1
                  exact absurd H (by rw [hr]; cases kj10 <;> simp [laws_FnExactLogRecords.j1])
              case rest =>
                clear HC39
                try clear c1
                try clear c2
                try clear p2
                try clear c3
                try clear c3b0
                try clear c4
                try clear c10
                try clear c22
                try clear c29
                try clear c30
                try clear c32
                try clear c32b0
                try clear c36
                try clear c36b0
                try clear c36b1
                try clear c40
                try clear c41
                try clear c42
                try clear c43
                try clear c44
                try clear c47
                try clear hcz13_0
                try clear hcz13_1
                try clear hcz13_2
                try clear hcz15_0
                try clear hcz15_1
                try clear hcz15_2
                try clear hcz18_0
                try clear hcz18_1
                try clear hcz18_2
                try clear hcz43_0
                try clear hcz43_1
                try clear hcz43_2
                try clear hcz5_0
                try clear hcz5_1
                try clear hcz5_2
                try clear hfz13_0
                try clear hfz13_1
                try clear hfz13_2
                try clear hfz15_0
                try clear hfz15_1
                try clear hfz15_2
                try clear hfz18_0
                try clear hfz18_1
                try clear hfz18_2
                try clear hfz43_0
                try clear hfz43_1
                try clear hfz43_2
                try clear hfz5_0
                try clear hfz5_1
                try clear hfz5_2
                try clear p2
                obtain ⟨kq, x63_38, rfl, HA, HJ38, HO_6, BK238, HB⟩ := hcut
                have hl6_38 := (Kd.R_reads' HO_6.out).1
                rw [hl6_38] at HO_6
                (try simp only [hl6_38])
                (try simp only [hl6_38] at BK238)
                cases kq with
                | zero => exact absurd HA.out (by simp [laws_FnExactLogRecords.j1])
                | succ kj38 =>
                  have H := HA.out
                  clear HA
                  simp only [laws_FnExactLogRecords.j1] at H
                  by_cases c54 : x63_38 = true
                  · subst c54
                    have H1 : (some false) = some r := by rw [if_pos rfl] at H; exact H
                    clear H
                    have H := H1
                    clear H1
                    exact absurd (Option.some.inj H) (by rw [hr]; decide)
                  · replace c54 := Bool.eq_false_iff.mpr c54
                    subst c54
                    have H1 : ((laws_heldLogRecordS.f kj38 t256 1).bind fun t266 => (if t266 < 0 then (some false) else (if t266 = t255 then (some true) else (some false)))) = some r := by rw [if_neg (show ¬ (false = true) by decide)] at H; exact H
                    clear H
                    have H := H1
                    clear H1
                    replace H := Option.bind_eq_some_iff.mp H
                    obtain ⟨t266, A550, H⟩ := H
                    replace H : (if t266 < 0 then (some false) else (if t266 = t255 then (some true) else (some false))) = some r := H
                    have A55 := Aside0.mk A550
                    clear A550
                    by_cases c56 : t266 < 0
                    · rw [if_pos c56] at H
                      have c56b0 : decide (t266 < 0) = true := decide_eq_true c56
                      clear c56
                      exact absurd (Option.some.inj H) (by rw [hr]; decide)
                    · rw [if_neg c56] at H
                      have c56b0 : decide (t266 < 0) = false := decide_eq_false c56
                      clear c56
                      by_cases c58 : t266 = t255
                      · rw [if_pos c58] at H
                        have c58b0 : (t266 == t255) = true := beq_iff_eq.mpr c58
                        have c58b1 : (t266 != t255) = false := bne_eq_false_iff_eq.mpr c58
                        clear c58
                        obtain rfl := Option.some.inj H; clear hr
                        go_wp2_with (first | ((with_reducible refine gate_callee (f := 44) rfl ?_); refine goesL_ (some 66) rfl rfl Tryd.func44 (by kernel_rfl) rfl #[.slice Ao40 t256.length co40, .int .i64 1] rfl zL_2 ?_; (with_reducible refine (laws_heldLogRecordS.calls kj38 _ _ t256 1 t266 _ ?side1 ?side2 A55.out).mono ?_); (case side1 => repeat (first | exact (Kd.R_reads' HO_6.out).2.2 | (with_reducible refine Kd.C_alloc ?_ _) | (with_reducible refine Kd.C_drewN ?_ _) | (with_reducible refine Kd.C_drew ?_))); (case side2 => exact (Kd.R_reads' HO_6.out).2.1); rintro e w59 ⟨rfl, hb⟩; refine ⟨_, rfl, ?_⟩; have n0_ := Aside0.mk (Kd.R_below zL_4 hb); have n1_ := Aside0.mk (blk_below (g := gb238) (o := .cells #[.string a0_0, .string a0_1, .int .i64 a0_2] 47 (0, 0)) zL_1 hb); have n2_ := Aside0.mk (below_step zL_0 hb); clear HO_6; clear BK238; clear HB; have HO_6 := n0_; have BK238 := n1_; have HB := n2_; clear n0_ n1_ n2_; (try clear hb); (try clear hb2); (try clear hk); (try clear hi)))
                        go_ret
                        exact ⟨by first | rfl | (simp [errW_none, errW_some] <;> rfl) | (simp [*, errW_none, errW_some] <;> rfl), zL_0⟩
                      · rw [if_neg c58] at H
                        have c58b0 : (t266 == t255) = false := beq_eq_false_iff_ne.mpr c58
                        have c58b1 : (t266 != t255) = true := bne_iff_ne.mpr c58
                        exact absurd (Option.some.inj H) (by rw [hr]; decide)
            · rw [if_neg c36] at H
              have c36b0 : (t257 == t255) = false := beq_eq_false_iff_ne.mpr c36
              have c36b1 : (t257 != t255) = true := bne_iff_ne.mpr c36
              exact absurd (Option.some.inj H) (by rw [hr]; decide)
end Go.Proofs.YtgclcjohnnpejaaDoor.Pr
end

section
namespace Go.Proofs.YtgclcjohnnpejaaDoor.PureL
open Go.RowKit Go.Proofs.YtgclcjohnnpejaaDoor.Pr Go.Proofs.YtgclcjohnnpejaaDoorW.PrintWords Go.Proofs.YtgclcjohnnpejaaDoorW.PrintLast
abbrev L (s : ByteArray) : List UInt8 := s.data.toList
theorem ext_L {a b : ByteArray} (h : L a = L b) : a = b := by
  obtain ⟨⟨la⟩⟩ := a
  obtain ⟨⟨lb⟩⟩ := b
  have : la = lb := h
  rw [this]
theorem size_L (s : ByteArray) : s.size = (L s).length := by simp only [L, Array.length_toList]; rfl
theorem L_append (a b : ByteArray) : L (a ++ b) = L a ++ L b := by
  simp [L]
theorem L_extract (s : ByteArray) (a b : Nat) : L (s.extract a b) = ((L s).drop a).take (b - a) := Lib.extract_data s a b
theorem L_toList (s : ByteArray) : s.toList = L s := Lib.toList_data s
theorem L_mk (l : List UInt8) : L ⟨l.toArray⟩ = l := rfl
theorem wrap_up {i : Int} {n : Nat} (h0 : 0 ≤ i) (h : i < (n : Int)) (hn : n ≤ 9223372036854775807) : wrap64 (i + 1) = i + 1 := by
  unfold wrap64
  omega
theorem wrap_in {i : Int} (h0 : -9223372036854775808 ≤ i) (h : i ≤ 9223372036854775807) : wrap64 i = i := by
  unfold wrap64
  omega
theorem bt_get (s : ByteArray) (i : Nat) (h : i < (L s).length) : bt s (i : Int) = (((L s)[i]'h).toNat : Int) := by
  have h' : i < s.size := by rw [size_L]; exact h
  unfold bt
  simp only [Int.toNat_natCast, h', dif_pos]
  rfl
theorem bt_drop {s : ByteArray} {i : Nat} {b : UInt8} {l : List UInt8} (h : (L s).drop i = b :: l) : bt s (i : Int) = (b.toNat : Int) ∧ (L s).drop (i + 1) = l ∧ i < s.size := by
  have hi : i < (L s).length := by
    apply Decidable.byContradiction
    intro hc
    rw [List.drop_eq_nil_of_le (by omega)] at h
    cases h
  have e := List.drop_eq_getElem_cons hi
  rw [h] at e
  injection e with e1 e2
  refine ⟨by rw [bt_get s i hi, e1], e2.symm, by rw [size_L]; exact hi⟩
theorem drop_nil_iff {s : ByteArray} {i : Nat} : (L s).drop i = [] ↔ s.size ≤ i := by rw [List.drop_eq_nil_iff, size_L]
theorem byte_eq (a b : UInt8) : ((a.toNat : Int) = (b.toNat : Int)) ↔ a = b := by
  constructor
  · intro h; exact UInt8.toNat_inj.1 (by omega)
  · rintro rfl; rfl
theorem stands_l0 (s : ByteArray) (c : UInt8) (hs : s.size ≤ 9223372036854775807) : ∀ (l : List UInt8) (i k : Nat), (L s).drop i = l → i ≤ s.size → l.length < k →
    spec_l1Stands.l0 k s (c.toNat : Int) (i : Int) = some (decide (c ∈ l))
  | [], i, k, h, hi, hk => by
    obtain ⟨k, rfl⟩ : ∃ m, k = m + 1 := ⟨k - 1, by omega⟩
    have := drop_nil_iff.1 h
    simp only [spec_l1Stands.l0]
    rw [if_neg (by omega)]
    simp
  | b :: l, i, k, h, hi, hk => by
    obtain ⟨k, rfl⟩ : ∃ m, k = m + 1 := ⟨k - 1, by omega⟩
    obtain ⟨h1, h2, h3⟩ := bt_drop h
    simp only [List.length_cons] at hk
    simp only [spec_l1Stands.l0]
    rw [if_pos (by omega), if_pos (by omega), h1]
    by_cases e : b = c
    · subst e; simp
    · rw [if_neg (fun h => e ((byte_eq _ _).1 h)), wrap_up (n := s.size) (by omega) (by omega) hs]
      have := stands_l0 s c hs l (i + 1) k h2 (by omega) (by omega)
      rw [show ((i : Int) + 1) = ((i + 1 : Nat) : Int) from by omega, this]
      simp [Ne.symm e]
theorem stands (s : ByteArray) (c : UInt8) (k : Nat) (hs : s.size ≤ 9223372036854775807) (hk : s.size < k) : spec_l1Stands.f k s (c.toNat : Int) = some (decide (c ∈ L s)) := by
  unfold spec_l1Stands.f
  exact stands_l0 s c hs (L s) 0 k rfl (by omega) (by rw [← size_L]; exact hk)
def okB (b : UInt8) : Bool := 32 ≤ b && b ≤ 126 && b != 35
theorem okB_iff (b : UInt8) : okB b = true ↔ 32 ≤ (b.toNat : Int) ∧ (b.toNat : Int) ≤ 126 ∧ (b.toNat : Int) ≠ 35 := by
  unfold okB
  simp only [Bool.and_eq_true, decide_eq_true_eq, bne_iff_ne, ne_eq, UInt8.le_iff_toNat_le]
  rw [show (35 : Int) = ((35 : UInt8).toNat : Int) from rfl, byte_eq]
  constructor
  · rintro ⟨⟨h1, h2⟩, h3⟩
    exact ⟨by have : (32 : UInt8).toNat = 32 := rfl; omega, by have : (126 : UInt8).toNat = 126 := rfl; omega, h3⟩
  · rintro ⟨h1, h2, h3⟩
    exact ⟨⟨by have : (32 : UInt8).toNat = 32 := rfl; omega, by have : (126 : UInt8).toNat = 126 := rfl; omega⟩, h3⟩
theorem bytes_l0 (s : ByteArray) (m : Int) (hs : s.size ≤ 9223372036854775807) : ∀ (l : List UInt8) (i k : Nat), (L s).drop i = l → i ≤ s.size → l.length < k →
    spec_l12Bytes.l0 k s m (i : Int) = some (l.all okB && decide ((s.size : Int) ≤ m))
  | [], i, k, h, hi, hk => by
    obtain ⟨k, rfl⟩ : ∃ m, k = m + 1 := ⟨k - 1, by omega⟩
    have := drop_nil_iff.1 h
    simp only [spec_l12Bytes.l0]
    rw [if_neg (by omega)]
    simp
  | b :: l, i, k, h, hi, hk => by
    obtain ⟨k, rfl⟩ : ∃ m, k = m + 1 := ⟨k - 1, by omega⟩
    obtain ⟨h1, h2, h3⟩ := bt_drop h
    simp only [List.length_cons] at hk
    have hb : b.toNat < 256 := b.toNat_lt
    simp only [spec_l12Bytes.l0]
    rw [if_pos (by omega), if_pos (by omega), h1, wrap_in (by omega) (by omega)]
    have ih := bytes_l0 s m hs l (i + 1) k h2 (by omega) (by omega)
    unfold spec_l1In.f
    simp only [List.all_cons]
    cases e : okB b with
    | true =>
      obtain ⟨e1, e2, e3⟩ := (okB_iff b).1 e
      rw [if_pos (by omega)]
      simp only [Option.bind_some, decide_eq_true_eq]
      rw [if_pos e2, if_neg e3, wrap_up (n := s.size) (by omega) (by omega) hs, show ((i : Int) + 1) = ((i + 1 : Nat) : Int) from by omega, ih]
      simp
    | false =>
      have e' : ¬ (32 ≤ (b.toNat : Int) ∧ (b.toNat : Int) ≤ 126 ∧ (b.toNat : Int) ≠ 35) := fun h => by rw [(okB_iff b).2 h] at e; cases e
      by_cases c1 : 32 ≤ (b.toNat : Int)
      · rw [if_pos c1]
        simp only [Option.bind_some, decide_eq_true_eq]
        by_cases c2 : (b.toNat : Int) ≤ 126
        · rw [if_pos c2, if_pos (by omega)]; simp
        · rw [if_neg c2]; simp
      · rw [if_neg c1]; simp
def printed (l : List UInt8) (m : Nat) : Bool := l.all okB && decide (l.length ≤ m)
theorem bytes (s : ByteArray) (m k : Nat) (hs : s.size ≤ 9223372036854775807) (hk : s.size < k) : spec_l12Bytes.f k s (m : Int) = some (printed (L s) m) := by
  unfold spec_l12Bytes.f
  rw [show (0 : Int) = ((0 : Nat) : Int) from rfl, bytes_l0 s m hs (L s) 0 k rfl (by omega) (by rw [← size_L]; exact hk)]
  unfold printed
  rw [size_L]
  congr 2
  exact decide_eq_decide.2 (by omega)
theorem isPrinted_l0 (s : ByteArray) (m : Int) (hs : s.size ≤ 9223372036854775807) : ∀ (l : List UInt8) (i k : Nat), (L s).drop i = l → i ≤ s.size → l.length < k →
    impl_isPrinted.l0 k s m (s.size : Int) (i : Int) = some (l.all okB && decide ((s.size : Int) ≤ m))
  | [], i, k, h, hi, hk => by
    obtain ⟨k, rfl⟩ : ∃ m, k = m + 1 := ⟨k - 1, by omega⟩
    have := drop_nil_iff.1 h
    simp only [impl_isPrinted.l0]
    rw [if_neg (by omega)]
    simp
  | b :: l, i, k, h, hi, hk => by
    obtain ⟨k, rfl⟩ : ∃ m, k = m + 1 := ⟨k - 1, by omega⟩
    obtain ⟨h1, h2, h3⟩ := bt_drop h
    simp only [List.length_cons] at hk
    simp only [impl_isPrinted.l0]
    rw [if_pos (by omega), if_pos (by omega), if_pos (by omega), h1]
    have ih := isPrinted_l0 s m hs l (i + 1) k h2 (by omega) (by omega)
    simp only [List.all_cons]
    cases e : okB b with
    | true =>
      obtain ⟨e1, e2, e3⟩ := (okB_iff b).1 e
      rw [if_neg (by omega), if_neg (by omega), if_neg e3, wrap_up (n := s.size) (by omega) (by omega) hs, show ((i : Int) + 1) = ((i + 1 : Nat) : Int) from by omega, ih]
      simp
    | false =>
      have e' : ¬ (32 ≤ (b.toNat : Int) ∧ (b.toNat : Int) ≤ 126 ∧ (b.toNat : Int) ≠ 35) := fun h => by rw [(okB_iff b).2 h] at e; cases e
      by_cases c1 : (b.toNat : Int) < 32
      · rw [if_pos c1]; simp
      · rw [if_neg c1]
        by_cases c2 : (b.toNat : Int) > 126
        · rw [if_pos c2]; simp
        · rw [if_neg c2, if_pos (by omega)]; simp
theorem isPrinted (s : ByteArray) (m k : Nat) (hs : s.size ≤ 9223372036854775807) (hk : s.size < k) : impl_isPrinted.f k s (m : Int) = some (printed (L s) m) := by
  unfold impl_isPrinted.f
  rw [show (0 : Int) = ((0 : Nat) : Int) from rfl, isPrinted_l0 s m hs (L s) 0 k rfl (by omega) (by rw [← size_L]; exact hk)]
  unfold printed
  rw [size_L]
  congr 2
  exact decide_eq_decide.2 (by omega)
def validRec (c r : List UInt8) : Bool := !c.isEmpty && printed c 160 && !decide ((64 : UInt8) ∈ c) && printed r 280
theorem spec_valid (c r : ByteArray) (k : Nat) (hc : c.size ≤ 9223372036854775807) (hr : r.size ≤ 9223372036854775807) (hk : c.size < k) (hk' : r.size < k) :
    spec_l12Record.f k c r = some (validRec (L c) (L r)) := by
  unfold spec_l12Record.f validRec
  rw [L_toList, show (160 : Int) = ((160 : Nat) : Int) from rfl, show (280 : Int) = ((280 : Nat) : Int) from rfl, show (64 : Int) = ((64 : UInt8).toNat : Int) from rfl, bytes c 160 k hc hk, bytes r 280 k hr hk', stands c 64 k hc hk]
  by_cases h0 : L c = []
  · rw [if_pos h0, h0]; simp
  · rw [if_neg h0]
    have h0' : (L c).isEmpty = false := by simpa using h0
    rw [h0']
    cases printed (L c) 160 <;> by_cases h2 : (64 : UInt8) ∈ L c <;> simp [h2]
theorem impl_valid (c r : ByteArray) (k : Nat) (hc : c.size ≤ 9223372036854775807) (hr : r.size ≤ 9223372036854775807) (hk : c.size < k) (hk' : r.size < k) :
    impl_IsValidRecord.f k c r = some (validRec (L c) (L r)) := by
  unfold impl_IsValidRecord.f impl_isCommand.f validRec strings_Contains.f
  rw [L_toList, show (160 : Int) = ((160 : Nat) : Int) from rfl, show (280 : Int) = ((280 : Nat) : Int) from rfl, isPrinted c 160 k hc hk, isPrinted r 280 k hr hk']
  by_cases h0 : L c = []
  · rw [if_pos h0, h0]; simp
  · rw [if_neg h0]
    have h0' : (L c).isEmpty = false := by simpa using h0
    rw [h0', if_pos (by rfl)]
    have h64 : ((⟨#[64]⟩ : ByteArray).data.toList.headD 0) = 64 := rfl
    rw [h64]
    cases printed (L c) 160 <;> by_cases h2 : (64 : UInt8) ∈ L c <;> simp [h2]
theorem dig_at (n : Nat) (h : n < 10) : L ((⟨#[48, 49, 50, 51, 52, 53, 54, 55, 56, 57]⟩ : ByteArray).extract n (n + 1)) = [UInt8.ofNat (48 + n)] := by
  rw [L_extract]
  match n, h with
  | 0, _ => rfl | 1, _ => rfl | 2, _ => rfl | 3, _ => rfl | 4, _ => rfl | 5, _ => rfl | 6, _ => rfl | 7, _ => rfl | 8, _ => rfl | 9, _ => rfl
theorem dec_len1 (m : Nat) : (Lib.decDigits m).length ≤ m + 1 := by
  induction m using Nat.strongRecOn with
  | _ m ih =>
    rw [Lib.decDigits]
    by_cases hm : m < 10
    · rw [dif_pos hm]; simp
    · rw [dif_neg hm]
      have := ih (m / 10) (by omega)
      simp only [List.length_append, List.length_cons, List.length_nil]
      omega
theorem num_nat (k : Nat) : ∀ n : Nat, n < k → n ≤ 9000000000000000000 → ∃ s, spec_l1Num.f k (n : Int) = some s ∧ L s = Lib.decDigits n := by
  induction k with
  | zero => intro n h; omega
  | succ k ih =>
    intro n h hn
    simp only [spec_l1Num.f]
    rw [if_neg (by omega)]
    by_cases h10 : n < 10
    · rw [if_pos (by omega), if_pos (by omega), wrap_in (by omega) (by omega), if_pos (by omega), if_pos (by omega)]
      refine ⟨_, rfl, ?_⟩
      rw [show ((n : Int) + 1).toNat = n + 1 from by omega, Int.toNat_natCast, dig_at n h10, Lib.decDigits, dif_pos h10]
    · have e1 : Int.tdiv (n : Int) 10 = ((n / 10 : Nat) : Int) := by
        rw [Int.tdiv_eq_ediv_of_nonneg (by omega)]; omega
      have e2 : Int.tmod (n : Int) 10 = ((n % 10 : Nat) : Int) := by
        rw [Int.tmod_eq_emod_of_nonneg (by omega)]; omega
      obtain ⟨s, hs, hL⟩ := ih (n / 10) (by omega) (by omega)
      have hlen : s.size ≤ n := by
        rw [size_L, hL]
        have := dec_len1 (n / 10)
        omega
      rw [if_neg (by omega), e1, e2, wrap_in (i := ((n / 10 : Nat) : Int)) (by omega) (by omega), hs, Option.bind_some]
      rw [if_pos (by omega), wrap_in (by omega) (by omega), if_pos (by omega), if_pos (by omega)]
      have e3 : (((n % 10 : Nat) : Int) + 1).toNat = n % 10 + 1 := by omega
      have hd := dig_at (n % 10) (by omega)
      rw [e3, Int.toNat_natCast]
      have hsz : ((⟨#[48, 49, 50, 51, 52, 53, 54, 55, 56, 57]⟩ : ByteArray).extract (n % 10) (n % 10 + 1)).size = 1 := by rw [size_L, hd]; rfl
      rw [hsz, if_pos (by omega)]
      refine ⟨_, rfl, ?_⟩
      rw [L_append, hL, hd]
      conv => rhs; rw [Lib.decDigits, dif_neg h10]
theorem num_any (n : Int) (k : Nat) (hk : n.natAbs + 1 < k) (h0 : -9000000000000000000 ≤ n) (h1 : n ≤ 9000000000000000000) : ∃ s, spec_l1Num.f k n = some s ∧ L s = Lib.itoa n := by
  by_cases hn : n < 0
  · obtain ⟨k, rfl⟩ : ∃ m, k = m + 1 := ⟨k - 1, by omega⟩
    obtain ⟨s, hs, hL⟩ := num_nat k n.natAbs (by omega) (by omega)
    simp only [spec_l1Num.f]
    rw [if_pos hn, wrap_in (by omega) (by omega), show -n = (n.natAbs : Int) from by omega, hs, Option.bind_some]
    have hlen : s.size ≤ n.natAbs + 1 ∧ n.natAbs + 1 < 9223372036854775807 := by
      rw [size_L, hL]
      exact ⟨dec_len1 n.natAbs, by omega⟩
    rw [if_pos (by omega)]
    refine ⟨_, rfl, ?_⟩
    rw [L_append, hL]
    unfold Lib.itoa
    rw [if_pos hn]
    rfl
  · obtain ⟨s, hs, hL⟩ := num_nat k n.toNat (by omega) (by omega)
    refine ⟨s, by rw [← hs]; congr 1; omega, ?_⟩
    unfold Lib.itoa
    rw [if_neg hn, hL]
theorem num_eq (n : Int) (k : Nat) (hk : n.natAbs + 1 < k) (h0 : -9000000000000000000 ≤ n) (h1 : n ≤ 9000000000000000000) : spec_l1Num.f k n = some ⟨(Lib.itoa n).toArray⟩ := by
  obtain ⟨s, hs, hL⟩ := num_any n k hk h0 h1
  rw [hs, ext_L (a := s) (b := ⟨(Lib.itoa n).toArray⟩) (by rw [hL])]
theorem itoa_eq (n : Int) (h0 : -9000000000000000000 ≤ n) (h1 : n ≤ 9000000000000000000) : strconv_Itoa.f n = some ⟨(Lib.itoa n).toArray⟩ := by
  unfold strconv_Itoa.f
  rw [if_pos (by omega)]
def sumStep (h : Int) (b : UInt8) : Int := (41 * h + (b.toNat : Int) + 1) % 999979
def sumL (l : List UInt8) (h : Int) : Int := l.foldl sumStep h
theorem sumStep_in (h : Int) (b : UInt8) : 0 ≤ sumStep h b ∧ sumStep h b < 999979 := by unfold sumStep; omega
theorem sum_in (l : List UInt8) (h : Int) (h0 : 0 ≤ h) (h1 : h < 999979) : 0 ≤ sumL l h ∧ sumL l h < 999979 := by
  induction l generalizing h with
  | nil => exact ⟨h0, h1⟩
  | cons b l ih => exact ih _ (sumStep_in h b).1 (sumStep_in h b).2
theorem step_wrap (h : Int) (b : UInt8) (h0 : 0 ≤ h) (h1 : h < 999979) : Int.tmod (wrap64 ((wrap64 ((wrap64 (41 * h)) + (wrap64 (b.toNat : Int)))) + 1)) 999979 = sumStep h b := by
  have hb : b.toNat < 256 := b.toNat_lt
  rw [wrap_in (i := 41 * h) (by omega) (by omega), wrap_in (i := (b.toNat : Int)) (by omega) (by omega), wrap_in (i := 41 * h + (b.toNat : Int)) (by omega) (by omega), wrap_in (by omega) (by omega), Int.tmod_eq_emod_of_nonneg (by omega)]
  rfl
theorem sum_l0 (s : ByteArray) (hs : s.size ≤ 9223372036854775807) : ∀ (l : List UInt8) (h : Int) (i k : Nat), (L s).drop i = l → i ≤ s.size → l.length < k → 0 ≤ h → h < 999979 →
    spec_l1Sum.l0 k s h (i : Int) = some (sumL l h)
  | [], h, i, k, hd, hi, hk, _, _ => by
    obtain ⟨k, rfl⟩ : ∃ m, k = m + 1 := ⟨k - 1, by omega⟩
    have := drop_nil_iff.1 hd
    simp only [spec_l1Sum.l0]
    rw [if_neg (by omega)]
    rfl
  | b :: l, h, i, k, hd, hi, hk, h0, h1 => by
    obtain ⟨k, rfl⟩ : ∃ m, k = m + 1 := ⟨k - 1, by omega⟩
    obtain ⟨e1, e2, e3⟩ := bt_drop hd
    simp only [List.length_cons] at hk
    simp only [spec_l1Sum.l0]
    rw [if_pos (by omega), if_pos (by omega), e1, step_wrap h b h0 h1, wrap_up (n := s.size) (by omega) (by omega) hs, show ((i : Int) + 1) = ((i + 1 : Nat) : Int) from by omega,
      sum_l0 s hs l _ (i + 1) k e2 (by omega) (by omega) (sumStep_in h b).1 (sumStep_in h b).2]
    rfl
theorem sum_eq (s : ByteArray) (k : Nat) (hs : s.size ≤ 9223372036854775807) (hk : s.size < k) : spec_l1Sum.f k s = some (sumL (L s) 7) := by
  unfold spec_l1Sum.f
  exact sum_l0 s hs (L s) 7 0 k rfl (by omega) (by rw [← size_L]; exact hk) (by omega) (by omega)
theorem check_l0 (s : ByteArray) (hs : s.size ≤ 9223372036854775807) : ∀ (l : List UInt8) (h : Int) (i k : Nat), (L s).drop i = l → i ≤ s.size → l.length < k → 0 ≤ h → h < 999979 →
    impl_Checksum.l0 k s h (s.size : Int) (i : Int) = some (sumL l h, true)
  | [], h, i, k, hd, hi, hk, _, _ => by
    obtain ⟨k, rfl⟩ : ∃ m, k = m + 1 := ⟨k - 1, by omega⟩
    have := drop_nil_iff.1 hd
    simp only [impl_Checksum.l0]
    rw [if_neg (by omega)]
    rfl
  | b :: l, h, i, k, hd, hi, hk, h0, h1 => by
    obtain ⟨k, rfl⟩ : ∃ m, k = m + 1 := ⟨k - 1, by omega⟩
    obtain ⟨e1, e2, e3⟩ := bt_drop hd
    simp only [List.length_cons] at hk
    simp only [impl_Checksum.l0]
    rw [if_pos (by omega), if_pos (by omega), if_pos (by omega), e1, step_wrap h b h0 h1, wrap_up (n := s.size) (by omega) (by omega) hs, show ((i : Int) + 1) = ((i + 1 : Nat) : Int) from by omega,
      check_l0 s hs l _ (i + 1) k e2 (by omega) (by omega) (sumStep_in h b).1 (sumStep_in h b).2]
    rfl
theorem check_eq (s : ByteArray) (k : Nat) (hk : s.size < k) : impl_Checksum.f k s = some (if s.size ≤ 4000 then (sumL (L s) 7, true) else (0, false)) := by
  unfold impl_Checksum.f
  by_cases h : s.size ≤ 4000
  · rw [if_neg (by omega), if_pos h]
    exact check_l0 s (by omega) (L s) 7 0 k rfl (by omega) (by rw [← size_L]; exact hk) (by omega) (by omega)
  · rw [if_pos (by omega), if_neg h]
def sealL (l : List UInt8) : List UInt8 := l ++ [35] ++ Lib.itoa (sumL l 7)
theorem decDigits_len (m : Nat) : (Lib.decDigits m).length ≤ m / 10 + 1 := by
  induction m using Nat.strongRecOn with
  | _ m ih =>
    rw [Lib.decDigits]
    by_cases hm : m < 10
    · rw [dif_pos hm]; simp
    · rw [dif_neg hm]
      have := ih (m / 10) (by omega)
      simp only [List.length_append, List.length_cons, List.length_nil]
      omega
theorem itoa_len (n : Int) (h0 : 0 ≤ n) (h1 : n < 999979) : (Lib.itoa n).length ≤ 100000 := by
  unfold Lib.itoa
  rw [if_neg (by omega)]
  have := decDigits_len n.toNat
  omega
theorem seal_eq (s : ByteArray) (k : Nat) (hs : s.size ≤ 9000000000000000000) (hk : s.size < k) (hk2 : 1000000 < k) : spec_l1Seal.f k s = some ⟨(sealL (L s)).toArray⟩ := by
  unfold spec_l1Seal.f
  obtain ⟨h0, h1⟩ := sum_in (L s) 7 (by omega) (by omega)
  have hl := itoa_len _ h0 h1
  rw [if_pos (by omega), sum_eq s k (by omega) hk]
  simp only [Option.bind_some]
  rw [num_eq _ k (by omega) (by omega) (by omega)]
  simp only [Option.bind_some]
  rw [if_pos (by
    have : (⟨(Lib.itoa (sumL (L s) 7)).toArray⟩ : ByteArray).size = (Lib.itoa (sumL (L s) 7)).length := by rw [size_L]
    omega)]
  refine congrArg some (ext_L ?_)
  rw [L_append, L_append]
  rfl
theorem appendChecksum_eq (s : ByteArray) (k : Nat) (hs : s.size ≤ 9000000000000000000) (hk : s.size < k) :
    impl_AppendChecksum.f k s = some (if s.size ≤ 4000 ∧ (35 : UInt8) ∉ L s ∧ (sealL (L s)).length ≤ 4000 then (⟨(sealL (L s)).toArray⟩, true) else (⟨#[]⟩, false)) := by
  unfold impl_AppendChecksum.f
  obtain ⟨h0, h1⟩ := sum_in (L s) 7 (by omega) (by omega)
  have hl := itoa_len _ h0 h1
  rw [check_eq s k hk]
  simp only [Option.bind_some]
  rw [if_pos (by omega)]
  by_cases h4 : s.size ≤ 4000
  · rw [if_pos h4]
    have hz : (⟨(Lib.itoa (sumL (L s) 7)).toArray⟩ : ByteArray).size = (Lib.itoa (sumL (L s) 7)).length := by rw [size_L]
    have hc : strings_Contains.f s (⟨#[35]⟩ : ByteArray) = some (decide ((35 : UInt8) ∈ L s)) := by
      unfold strings_Contains.f
      rw [if_pos (show (⟨#[35]⟩ : ByteArray).size = 1 from rfl)]
      rfl
    have hsl : (sealL (L s)).length = s.size + 1 + (Lib.itoa (sumL (L s) 7)).length := by unfold sealL; rw [size_L]; simp only [List.length_append, List.length_cons, List.length_nil]
    rw [itoa_eq _ (by omega) (by omega)]
    simp only [Option.bind_some]
    rw [if_pos (by omega), if_pos trivial, hc]
    simp only [Option.bind_some, decide_eq_true_eq]
    by_cases h5 : (35 : UInt8) ∈ L s
    · rw [if_pos h5, if_neg (fun h => h.2.1 h5)]
    · rw [if_neg h5]
      by_cases h6 : (sealL (L s)).length ≤ 4000
      · rw [if_neg (by omega), if_pos ⟨h4, h5, h6⟩]
        refine congrArg some (Prod.ext ?_ rfl)
        apply ext_L
        rw [L_append, L_append]
        rfl
      · rw [if_pos (by omega), if_neg (fun h => h6 h.2.2)]
  · rw [if_neg h4, if_neg (fun h => h4 h.1)]
    rw [itoa_eq _ (by omega) (by omega)]
    simp only [Option.bind_some]
    have hz : (⟨(Lib.itoa 0).toArray⟩ : ByteArray).size = 1 := by rw [size_L]; unfold Lib.itoa; rw [if_neg (by omega), Lib.decDigits]; rfl
    rw [if_pos (by omega), if_neg (by simp)]
end Go.Proofs.YtgclcjohnnpejaaDoor.PureL
end

section
namespace Go.Proofs.YtgclcjohnnpejaaDoor.PureL
open Go.RowKit Go.Proofs.YtgclcjohnnpejaaDoor.Pr Go.Proofs.YtgclcjohnnpejaaDoorW.PrintWords Go.Proofs.YtgclcjohnnpejaaDoorW.PrintLast
theorem decDigits_pow : ∀ (d n : Nat), n < 10 ^ (d + 1) → (Lib.decDigits n).length ≤ d + 1
  | 0, n, h => by
    rw [Lib.decDigits, dif_pos (by omega)]
    simp
  | d + 1, n, h => by
    rw [Lib.decDigits]
    by_cases hn : n < 10
    · rw [dif_pos hn]; simp
    · rw [dif_neg hn]
      have := decDigits_pow d (n / 10) (by rw [Nat.pow_succ] at h; omega)
      simp only [List.length_append, List.length_cons, List.length_nil]
      omega
theorem decDigits_dig (n : Nat) : ∀ b ∈ Lib.decDigits n, 48 ≤ b.toNat ∧ b.toNat ≤ 57 := by
  induction n using Nat.strongRecOn with
  | _ n ih =>
    rw [Lib.decDigits]
    have hd : ∀ m : Nat, m < 10 → ∀ b ∈ [UInt8.ofNat (48 + m)], 48 ≤ b.toNat ∧ b.toNat ≤ 57 := fun m hm b hb => by
      rw [List.mem_singleton.1 hb, UInt8.toNat_ofNat']
      omega
    by_cases hn : n < 10
    · rw [dif_pos hn]; exact hd n hn
    · rw [dif_neg hn]
      intro b hb
      rcases List.mem_append.1 hb with hb | hb
      · exact ih (n / 10) (by omega) b hb
      · exact hd (n % 10) (by omega) b hb
theorem itoa_dig {n : Int} (h0 : 0 ≤ n) : ∀ b ∈ Lib.itoa n, 48 ≤ b.toNat ∧ b.toNat ≤ 57 := by
  unfold Lib.itoa
  rw [if_neg (by omega)]
  exact decDigits_dig _
theorem itoa_small {n : Int} (h0 : 0 ≤ n) (h1 : n < 1000000) : (Lib.itoa n).length ≤ 6 := by
  unfold Lib.itoa
  rw [if_neg (by omega)]
  exact decDigits_pow 5 n.toNat (by omega)
theorem sum_small (l : List UInt8) : (Lib.itoa (sumL l 7)).length ≤ 6 := by
  obtain ⟨h0, h1⟩ := sum_in l 7 (by omega) (by omega)
  exact itoa_small h0 (by omega)
def textL (n : Int) (c r : List UInt8) : List UInt8 := Lib.itoa n ++ [32] ++ c ++ [64] ++ r
def encL (n : Int) (c r : List UInt8) : List UInt8 := sealL (textL n c r) ++ [10]
theorem all_ok_no35 {l : List UInt8} (h : l.all okB = true) : (35 : UInt8) ∉ l := fun hm => by
  have := List.all_eq_true.1 h 35 hm
  exact absurd this (by decide)
theorem valid_parts {c r : List UInt8} (h : validRec c r = true) : c ≠ [] ∧ c.all okB = true ∧ c.length ≤ 160 ∧ (64 : UInt8) ∉ c ∧ r.all okB = true ∧ r.length ≤ 280 := by
  unfold validRec printed at h
  simp only [Bool.and_eq_true, decide_eq_true_eq, Bool.not_eq_true', decide_eq_false_iff_not] at h
  obtain ⟨⟨⟨h1, h2, h3⟩, h4⟩, h5, h6⟩ := h
  exact ⟨by simpa using h1, h2, h3, h4, h5, h6⟩
theorem text_no35 {n : Int} {c r : List UInt8} (h0 : 0 ≤ n) (h : validRec c r = true) : (35 : UInt8) ∉ textL n c r := by
  obtain ⟨_, h2, _, _, h5, _⟩ := valid_parts h
  unfold textL
  simp only [List.mem_append, List.mem_singleton, not_or]
  exact ⟨⟨⟨⟨fun hm => by have := itoa_dig h0 _ hm; have e : (35 : UInt8).toNat = 35 := rfl; omega, by decide⟩, all_ok_no35 h2⟩, by decide⟩, all_ok_no35 h5⟩
theorem text_len {n : Int} {c r : List UInt8} (h0 : 0 ≤ n) (h1 : n < 1000000) : (textL n c r).length ≤ 8 + c.length + r.length := by
  have := itoa_small h0 h1
  unfold textL
  simp only [List.length_append, List.length_cons, List.length_nil]
  omega
theorem seal_len (l : List UInt8) : (sealL l).length ≤ l.length + 7 := by
  have := sum_small l
  unfold sealL
  simp only [List.length_append, List.length_cons, List.length_nil]
  omega
theorem text_B (n : Int) (c r : ByteArray) : ((((⟨(Lib.itoa n).toArray⟩ : ByteArray) ++ (⟨#[32]⟩ : ByteArray)) ++ c) ++ (⟨#[64]⟩ : ByteArray)) ++ r = ⟨(textL n (L c) (L r)).toArray⟩ := by
  apply ext_L
  simp only [L_append]
  rfl
theorem B_size (l : List UInt8) : (⟨l.toArray⟩ : ByteArray).size = l.length := by rw [size_L]
theorem spec_line (n : Int) (c r : ByteArray) (k : Nat) (h0 : 0 ≤ n) (h1 : n < 1000000) (hc : c.size ≤ 1000000000000) (hr : r.size ≤ 1000000000000) (hk : 1000100 + c.size + r.size < k) :
    spec_l12Line.f k n c r = some ⟨(encL n (L c) (L r)).toArray⟩ := by
  have hi := itoa_small h0 h1
  have ht := text_len (c := L c) (r := L r) h0 h1
  have hs := seal_len (textL n (L c) (L r))
  have hc' := size_L c
  have hr' := size_L r
  unfold spec_l12Line.f
  rw [num_eq n k (by omega) (by omega) (by omega), Option.bind_some, B_size, if_pos (by omega), if_pos (by omega), if_pos (by omega), if_pos (by omega), text_B,
    seal_eq _ k (by rw [B_size]; omega) (by rw [B_size]; omega) (by omega), Option.bind_some, B_size, L_mk (textL n (L c) (L r)), if_pos (by omega)]
  refine congrArg some (ext_L ?_)
  rw [L_append]
  rfl
def encR (n : Int) (c r : ByteArray) : ByteArray × Bool := if 0 ≤ n ∧ n ≤ 59 ∧ validRec (L c) (L r) = true then (⟨(encL n (L c) (L r)).toArray⟩, true) else (⟨#[]⟩, false)
theorem impl_enc (n : Int) (c r : ByteArray) (k : Nat) (hc : c.size ≤ 1000000000000) (hr : r.size ≤ 1000000000000) (hk : 1000100 + c.size + r.size < k) :
    impl_EncodeRecord.f k n c r = some (encR n c r) := by
  obtain ⟨k, rfl⟩ : ∃ m, k = m + 1 := ⟨k - 1, by omega⟩
  unfold impl_EncodeRecord.f impl_in.f encR
  by_cases h0 : 0 ≤ n
  · rw [if_pos (by omega), Option.bind_some]
    by_cases h1 : n ≤ 59
    · rw [if_pos (by simpa using h1), impl_valid c r (k + 1) (by omega) (by omega) (by omega) (by omega), Option.bind_some]
      by_cases hv : validRec (L c) (L r) = true
      · have hi := itoa_small h0 (by omega : n < 1000000)
        have ht := text_len (c := L c) (r := L r) h0 (by omega : n < 1000000)
        have hs := seal_len (textL n (L c) (L r))
        obtain ⟨_, _, v1, _, _, v2⟩ := valid_parts hv
        have hc' := size_L c
        have hr' := size_L r
        rw [hv, if_pos ⟨h0, h1, rfl⟩]
        simp only [impl_EncodeRecord.j0]
        rw [if_neg (by simp), itoa_eq n (by omega) (by omega), Option.bind_some, B_size, if_pos (by omega), if_pos (by omega), if_pos (by omega), if_pos (by omega), text_B,
          appendChecksum_eq _ k (by rw [B_size]; omega) (by rw [B_size]; omega), L_mk (textL n (L c) (L r)), if_pos ⟨by rw [B_size]; omega, text_no35 h0 hv, by omega⟩, Option.bind_some, B_size, if_pos (by omega)]
        refine congrArg some (Prod.ext (ext_L ?_) rfl)
        rw [L_append]
        rfl
      · have hv' : validRec (L c) (L r) = false := by simpa using hv
        rw [hv', if_neg (by simp)]
        simp only [impl_EncodeRecord.j0]
        rw [if_pos (by simp)]
    · rw [if_neg (by simpa using h1), if_neg (fun h => h1 h.2.1)]
      simp only [impl_EncodeRecord.j0]
      rw [if_pos trivial]
  · rw [if_neg (by omega), Option.bind_some, if_neg (by simp), if_neg (fun h => h0 h.1)]
    simp only [impl_EncodeRecord.j0]
    rw [if_pos trivial]
end Go.Proofs.YtgclcjohnnpejaaDoor.PureL
end

section
namespace Go.Proofs.YtgclcjohnnpejaaDoor.PureL
open Go.RowKit Go.Proofs.YtgclcjohnnpejaaDoor.Pr Go.Proofs.YtgclcjohnnpejaaDoorW.PrintWords Go.Proofs.YtgclcjohnnpejaaDoorW.PrintLast
set_option linter.unusedSimpArgs false
set_option linter.unusedVariables false
def upL (l : List UInt8) (c : UInt8) : List UInt8 := l.takeWhile (· != c)
def aftL (l : List UInt8) (c : UInt8) : List UInt8 := (l.dropWhile (· != c)).tail
theorem up_no {l : List UInt8} {c : UInt8} (h : c ∉ l) : upL l c = l := by
  unfold upL
  induction l with
  | nil => rfl
  | cons b l ih =>
    have hb : (b != c) = true := by simp only [bne_iff_ne, ne_eq]; rintro rfl; exact h (List.mem_cons_self ..)
    rw [List.takeWhile_cons, if_pos hb, ih (fun hm => h (List.mem_cons_of_mem _ hm))]
theorem drop_no {l : List UInt8} {c : UInt8} (h : c ∉ l) : l.dropWhile (· != c) = [] := by
  induction l with
  | nil => rfl
  | cons b l ih =>
    have hb : (b != c) = true := by simp only [bne_iff_ne, ne_eq]; rintro rfl; exact h (List.mem_cons_self ..)
    rw [List.dropWhile_cons, if_pos hb, ih (fun hm => h (List.mem_cons_of_mem _ hm))]
theorem up_mid {l r : List UInt8} {c : UInt8} (h : c ∉ l) : upL (l ++ c :: r) c = l := by
  unfold upL
  induction l with
  | nil => simp
  | cons b l ih =>
    have hb : (b != c) = true := by simp only [bne_iff_ne, ne_eq]; rintro rfl; exact h (List.mem_cons_self ..)
    rw [List.cons_append, List.takeWhile_cons, if_pos hb, ih (fun hm => h (List.mem_cons_of_mem _ hm))]
theorem aft_mid {l r : List UInt8} {c : UInt8} (h : c ∉ l) : aftL (l ++ c :: r) c = r := by
  unfold aftL
  induction l with
  | nil => simp
  | cons b l ih =>
    have hb : (b != c) = true := by simp only [bne_iff_ne, ne_eq]; rintro rfl; exact h (List.mem_cons_self ..)
    rw [List.cons_append, List.dropWhile_cons, if_pos hb, ih (fun hm => h (List.mem_cons_of_mem _ hm))]
theorem cutAt_eq (l : List UInt8) (c : UInt8) : cutAt l c = (upL l c, aftL l c, decide (c ∈ l)) := by
  unfold cutAt
  by_cases h : c ∈ l
  · rw [if_pos h, decide_eq_true h]; rfl
  · rw [if_neg h, up_no h, decide_eq_false h]
    unfold aftL
    rw [drop_no h]
    rfl
theorem up_len (l : List UInt8) (c : UInt8) : (upL l c).length ≤ l.length := by
  have := (List.takeWhile_prefix (· != c) (l := l)).length_le
  exact this
theorem no_tw : ∀ (l : List UInt8) (c : UInt8), c ∉ l.takeWhile (· != c)
  | [], c => by simp
  | b :: l, c => by
    by_cases hb : (b != c) = true
    · rw [List.takeWhile_cons, if_pos hb, List.mem_cons, not_or]
      exact ⟨fun e => by rw [e] at hb; simp at hb, no_tw l c⟩
    · rw [List.takeWhile_cons, if_neg hb]; simp
theorem up_lt {l : List UInt8} {c : UInt8} (h : c ∈ l) : (upL l c).length < l.length := by
  have h1 := List.takeWhile_append_dropWhile (p := (· != c)) (l := l)
  have h2 : l.dropWhile (· != c) ≠ [] := fun e => by
    have : c ∈ l.takeWhile (· != c) := by rw [e, List.append_nil] at h1; rw [h1]; exact h
    exact no_tw l c this
  have h3 := congrArg List.length h1
  rw [List.length_append] at h3
  have := List.length_pos_iff.2 h2
  unfold upL
  omega
theorem aft_len (l : List UInt8) (c : UInt8) : (aftL l c).length ≤ l.length := by
  unfold aftL
  have h1 := (List.dropWhile_suffix (· != c) (l := l)).length_le
  rw [List.length_tail]
  omega
theorem cut_f (s : ByteArray) (c : UInt8) (hs : s.size < 4294967281) : strings_Cut.f s (⟨#[c]⟩ : ByteArray) = some (⟨(upL (L s) c).toArray⟩, ⟨(aftL (L s) c).toArray⟩, decide (c ∈ L s)) := by
  unfold strings_Cut.f
  rw [if_pos ⟨rfl, hs⟩]
  have e : ((⟨#[c]⟩ : ByteArray).data.toList.headD 0) = c := rfl
  rw [e, cutAt_eq]
theorem split_l0 (s : ByteArray) (c : UInt8) (hs : s.size ≤ 1000000000000) : ∀ (l : List UInt8) (acc : List ByteArray) (fr i k : Nat), (L s).drop i = l → fr ≤ i → i ≤ s.size → acc.length ≤ i → l.length < k →
    ∃ q qs, spec_l1Split.l0 k s (c.toNat : Int) acc (fr : Int) (i : Int) = some (acc ++ q :: qs) ∧ qs.length = l.count c ∧ L q = ((L s).drop fr).take (i - fr) ++ upL l c
  | [], acc, fr, i, k, h, hf, hi, ha, hk => by
    obtain ⟨k, rfl⟩ : ∃ m, k = m + 1 := ⟨k - 1, by omega⟩
    have hsz := drop_nil_iff.1 h
    have hi' : i = s.size := by omega
    simp only [spec_l1Split.l0]
    rw [if_neg (by omega), if_pos (by omega), if_pos (by omega), if_pos (by omega)]
    refine ⟨_, [], rfl, rfl, ?_⟩
    rw [L_extract, Int.toNat_natCast, hi', size_L]
    simp [upL]
  | b :: l, acc, fr, i, k, h, hf, hi, ha, hk => by
    obtain ⟨k, rfl⟩ : ∃ m, k = m + 1 := ⟨k - 1, by omega⟩
    obtain ⟨e1, e2, e3⟩ := bt_drop h
    simp only [List.length_cons] at hk
    simp only [spec_l1Split.l0]
    rw [if_pos (by omega), if_pos (by omega), e1]
    by_cases e : b = c
    · subst e
      rw [if_pos rfl, if_pos (by omega), if_pos (by omega), if_pos (by omega), if_pos (by omega), wrap_up (n := s.size) (by omega) (by omega) (by omega), show ((i : Int) + 1) = ((i + 1 : Nat) : Int) from by omega]
      obtain ⟨q, qs, h1, h2, _⟩ := split_l0 s b hs l (acc ++ [s.extract (fr : Int).toNat (i : Int).toNat]) (i + 1) (i + 1) k e2 (by omega) (by omega) (by simp; omega) (by omega)
      refine ⟨s.extract fr i, q :: qs, ?_, by simp [h2], ?_⟩
      · rw [h1]; simp
      · rw [L_extract]; simp [upL]
    · rw [if_neg (fun hh => e ((byte_eq _ _).1 hh)), wrap_up (n := s.size) (by omega) (by omega) (by omega), show ((i : Int) + 1) = ((i + 1 : Nat) : Int) from by omega]
      obtain ⟨q, qs, h1, h2, h3⟩ := split_l0 s c hs l acc fr (i + 1) k e2 (by omega) (by omega) (by omega) (by omega)
      refine ⟨q, qs, h1, by rw [h2, List.count_cons]; simp [e], ?_⟩
      rw [h3]
      have hb : (b != c) = true := by simpa using e
      have hup : upL (b :: l) c = b :: upL l c := by unfold upL; rw [List.takeWhile_cons, if_pos hb]
      rw [hup]
      have hlen : i - fr < ((L s).drop fr).length := by rw [List.length_drop, ← size_L]; omega
      have hget : ((L s).drop fr)[i - fr]'hlen = b := by
        rw [List.getElem_drop]
        have hi2 : i < (L s).length := by rw [← size_L]; exact e3
        have := List.drop_eq_getElem_cons hi2
        rw [h] at this
        injection this with t1 _
        rw [t1]
        congr 1
        omega
      rw [show i + 1 - fr = (i - fr) + 1 from by omega, List.take_succ_eq_append_getElem hlen, hget]
      simp
theorem split_f (s : ByteArray) (c : UInt8) (k : Nat) (hs : s.size ≤ 1000000000000) (hk : s.size < k) :
    ∃ q qs, spec_l1Split.f k s (c.toNat : Int) = some (q :: qs) ∧ qs.length = (L s).count c ∧ L q = upL (L s) c := by
  obtain ⟨q, qs, h1, h2, h3⟩ := split_l0 s c hs (L s) [] 0 0 k rfl (by omega) (by omega) (by simp) (by rw [← size_L]; exact hk)
  exact ⟨q, qs, h1, h2, by simpa using h3⟩
def decI (_n : Nat) (line : List UInt8) : List UInt8 × List UInt8 := (upL (aftL (upL line 35) 32) 64, aftL (aftL (upL line 35) 32) 64)
def goodI (n : Nat) (line : List UInt8) : Bool := validRec (decI n line).1 (decI n line).2 && decide (encL n (decI n line).1 (decI n line).2 = line ++ [10])
theorem no_in_itoa {n : Nat} {b : UInt8} (h : b.toNat < 48) : b ∉ Lib.itoa (n : Int) := fun hm => by have := itoa_dig (n := (n : Int)) (by omega) b hm; omega
theorem enc_cuts {n : Nat} {c r line : List UInt8} (hv : validRec c r = true) (he : encL n c r = line ++ [10]) :
    upL line 35 = textL n c r ∧ aftL (textL n c r) 32 = c ++ 64 :: r ∧ upL (c ++ 64 :: r) 64 = c ∧ aftL (c ++ 64 :: r) 64 = r := by
  have hl : sealL (textL n c r) = line := by
    unfold encL at he
    exact (List.append_inj' he rfl).1
  have h35 := text_no35 (n := (n : Int)) (by omega) hv
  obtain ⟨_, _, _, h64, _, _⟩ := valid_parts hv
  refine ⟨?_, ?_, up_mid h64, aft_mid h64⟩
  · rw [← hl]
    unfold sealL
    rw [List.append_assoc]
    exact up_mid h35
  · unfold textL
    rw [show Lib.itoa (n : Int) ++ [32] ++ c ++ [64] ++ r = Lib.itoa (n : Int) ++ 32 :: (c ++ 64 :: r) from by simp]
    exact aft_mid (no_in_itoa (by decide))
theorem goodI_of {n : Nat} {c r line : List UInt8} (hv : validRec c r = true) (he : encL n c r = line ++ [10]) : goodI n line = true ∧ decI n line = (c, r) := by
  obtain ⟨h1, h2, h3, h4⟩ := enc_cuts hv he
  have hd : decI n line = (c, r) := by unfold decI; rw [h1, h2, h3, h4]
  refine ⟨?_, hd⟩
  unfold goodI
  rw [hd, hv, decide_eq_true he]
  rfl
theorem decode_f (n : Nat) (line : ByteArray) (k : Nat) (hn : n < 60) (hs : line.size ≤ 100000000000) (hk : 2000100 + 2 * line.size < k) :
    ∃ c r, spec_l12Decode.f k line (n : Int) = some (c, r, goodI n (L line)) ∧ (goodI n (L line) = true → (L c, L r) = decI n (L line)) := by
  obtain ⟨k, rfl⟩ : ∃ m, k = m + 1 := ⟨k - 1, by omega⟩
  have hi := itoa_small (n := (n : Int)) (by omega) (by omega)
  obtain ⟨q, qs, h1, h2, h3⟩ := split_f line 35 (k + 1) (by omega) (by omega)
  have hq : q.size ≤ line.size := by rw [size_L, h3, size_L]; exact up_len _ _
  unfold spec_l12Decode.f
  rw [num_eq (n : Int) (k + 1) (by omega) (by omega) (by omega), Option.bind_some, B_size, if_pos (by omega), show (35 : Int) = ((35 : UInt8).toNat : Int) from rfl, h1, Option.bind_some, if_pos (by simp)]
  have hrd : rdOf ByteArray.empty (q :: qs) 0 = q := rfl
  rw [hrd]
  have bad : goodI n (L line) = false → ∀ c r, validRec c r = true → encL n c r = L line ++ [10] → False := fun hb c r hv he => by rw [(goodI_of hv he).1] at hb; cases hb
  have ahead : ((⟨(Lib.itoa (n : Int)).toArray⟩ : ByteArray) ++ (⟨#[32]⟩ : ByteArray)) = ⟨(Lib.itoa (n : Int) ++ [32]).toArray⟩ := by apply ext_L; rw [L_append]
  have nohead : ¬ (Lib.itoa (n : Int) ++ [32]) <+: L q → goodI n (L line) = false := fun hp => by
    cases hg : goodI n (L line) with
    | false => rfl
    | true =>
      unfold goodI at hg
      simp only [Bool.and_eq_true, decide_eq_true_eq] at hg
      obtain ⟨e1, _⟩ := enc_cuts hg.1 hg.2
      refine absurd ?_ hp
      rw [h3, e1]
      unfold textL
      exact ⟨(decI n (L line)).1 ++ 64 :: (decI n (L line)).2, by simp⟩
  by_cases hlt : ((q.size : Int)) < (((Lib.itoa (n : Int)).length : Int) + 1)
  · rw [if_pos hlt]
    simp only [spec_l12Decode.j0]
    rw [if_pos trivial]
    have hg := nohead (fun hp => by
      have := hp.length_le
      rw [List.length_append, List.length_singleton, ← size_L] at this
      omega)
    exact ⟨_, _, by rw [hg], fun h => by rw [hg] at h; cases h⟩
  · rw [if_neg hlt, if_pos (by omega), if_pos (by omega), ahead]
    have htk : (q.extract 0 ((((Lib.itoa (n : Int)).length : Int) + 1) : Int).toNat).toList = (L q).take ((Lib.itoa (n : Int)).length + 1) := by
      rw [L_toList, L_extract]
      simp only [List.drop_zero, Nat.sub_zero]
      congr 1
    rw [htk, L_toList, L_mk (Lib.itoa (n : Int) ++ [32])]
    by_cases hp : (L q).take ((Lib.itoa (n : Int)).length + 1) = Lib.itoa (n : Int) ++ [32]
    · rw [show ((L q).take ((Lib.itoa (n : Int)).length + 1) != Lib.itoa (n : Int) ++ [32]) = false from by rw [bne_eq_false_iff_eq]; exact hp]
      simp only [spec_l12Decode.j0]
      have hsz : (⟨(Lib.itoa (n : Int) ++ [32]).toArray⟩ : ByteArray).size = (Lib.itoa (n : Int)).length + 1 := by rw [B_size]; simp
      rw [if_neg (by simp), hsz, if_pos (by omega), if_pos (by omega)]
      generalize hrest : q.extract ((Lib.itoa (n : Int)).length + 1) q.size = rest
      have hL : L rest = (L q).drop ((Lib.itoa (n : Int)).length + 1) := by
        rw [← hrest, L_extract, size_L]
        exact List.take_of_length_le (by simp)
      have hrs : rest.size = q.size - ((Lib.itoa (n : Int)).length + 1) := by rw [size_L, hL, List.length_drop, ← size_L]
      have hqq : L q = Lib.itoa (n : Int) ++ 32 :: L rest := by
        have := List.take_append_drop ((Lib.itoa (n : Int)).length + 1) (L q)
        rw [hp, ← hL] at this
        rw [← this]
        simp
      obtain ⟨p, ps, g1, g2, g3⟩ := split_f rest 64 k (by omega) (by omega)
      have hpr : p.size ≤ rest.size := by rw [size_L, g3, size_L]; exact up_len _ _
      rw [show (64 : Int) = ((64 : UInt8).toNat : Int) from rfl, g1, Option.bind_some, if_pos (by simp)]
      have hrd2 : rdOf ByteArray.empty (p :: ps) 0 = p := rfl
      rw [hrd2]
      have hdec : aftL (upL (L line) 35) 32 = L rest := by rw [← h3, hqq]; exact aft_mid (no_in_itoa (by decide))
      have hdI : decI n (L line) = (upL (L rest) 64, aftL (L rest) 64) := by unfold decI; rw [hdec]
      by_cases hm : (64 : UInt8) ∈ L rest
      · have hlt2 : p.size < rest.size := by rw [size_L, g3, size_L]; exact up_lt hm
        rw [if_neg (by omega), wrap_in (by omega) (by omega), if_pos (by omega), if_pos (by omega)]
        have hrest2 : rest.extract (((p.size : Int) + 1) : Int).toNat (q.size - ((Lib.itoa (n : Int)).length + 1)) = ⟨(aftL (L rest) 64).toArray⟩ := by
          apply ext_L
          rw [← hrs, L_extract, size_L rest, List.take_of_length_le (by simp), show (((p.size : Int) + 1) : Int).toNat = p.size + 1 from by omega, size_L p, g3]
          unfold aftL upL
          rw [← drop_takeWhile, List.tail_drop]
        rw [hrest2]
        have hc : L p = (decI n (L line)).1 := by rw [hdI, g3]
        have hr : aftL (L rest) 64 = (decI n (L line)).2 := by rw [hdI]
        have hasz : (⟨(aftL (L rest) 64).toArray⟩ : ByteArray).size ≤ rest.size := by rw [B_size, size_L]; exact aft_len _ _
        rw [spec_valid p _ k (by omega) (by omega) (by omega) (by omega), Option.bind_some, L_mk (aftL (L rest) 64), hc, hr]
        by_cases hv : validRec (decI n (L line)).1 (decI n (L line)).2 = true
        · rw [if_pos hv, spec_line (n : Int) p _ k (by omega) (by omega) (by omega) (by rw [← hr]; omega) (by rw [← hr]; omega), Option.bind_some, if_pos (by omega)]
          refine ⟨p, ⟨(decI n (L line)).2.toArray⟩, ?_, fun _ => Prod.ext hc rfl⟩
          refine congrArg some (Prod.ext rfl (Prod.ext rfl ?_))
          show (_ == _) = goodI n (L line)
          unfold goodI
          rw [hv, Bool.true_and, L_toList, L_toList, L_append, hc, L_mk (decI n (L line)).2, Bool.eq_iff_iff, beq_iff_eq, decide_eq_true_eq]
        · rw [if_neg hv]
          have hg : goodI n (L line) = false := by unfold goodI; rw [show validRec (decI n (L line)).1 (decI n (L line)).2 = false from by simpa using hv]; rfl
          exact ⟨_, _, by rw [hg], fun h => by rw [hg] at h; cases h⟩
      · have hpe : p.size = rest.size := by rw [size_L, g3, up_no hm, size_L]
        rw [if_pos (by omega)]
        have hg : goodI n (L line) = false := by
          cases hg : goodI n (L line) with
          | false => rfl
          | true =>
            unfold goodI at hg
            simp only [Bool.and_eq_true, decide_eq_true_eq] at hg
            obtain ⟨e1, e2, _⟩ := enc_cuts hg.1 hg.2
            rw [e1] at hdec
            rw [e2] at hdec
            refine absurd ?_ hm
            rw [← hdec]
            simp
        exact ⟨_, _, by rw [hg], fun h => by rw [hg] at h; cases h⟩
    · rw [show ((L q).take ((Lib.itoa (n : Int)).length + 1) != Lib.itoa (n : Int) ++ [32]) = true from by rw [bne_iff_ne]; exact hp]
      simp only [spec_l12Decode.j0]
      rw [if_pos trivial]
      have hg := nohead (fun hpre => hp (by
        have := List.prefix_iff_eq_take.1 hpre
        rw [List.length_append, List.length_singleton] at this
        exact this.symm))
      exact ⟨_, _, by rw [hg], fun h => by rw [hg] at h; cases h⟩
theorem open_eq (s : ByteArray) (hs : s.size ≤ 2000000) : ∀ (d i : Nat) (acc : List S38), i ≤ s.size → s.size - i ≤ d →
    ∃ (l : List S38) (n : Nat), n ≤ s.size ∧ (l.length ≤ 60 ∨ l = acc) ∧ ∀ k, 9000000 + 2 * d < k → impl_readRecords.l0 k s acc (i : Int) = some (l, (n : Int)) ∧ spec_l12Open.l0 k s acc (i : Int) = some (l, (n : Int)) := by
  intro d
  induction d with
  | zero =>
    intro i acc hi hd
    have hie : i = s.size := by omega
    refine ⟨acc, i, hi, .inr rfl, fun k hk => ?_⟩
    obtain ⟨k, rfl⟩ : ∃ m, k = m + 2 := ⟨k - 2, by omega⟩
    constructor
    · simp only [impl_readRecords.l0]
      by_cases h60 : (acc.length : Int) < 60
      · have he : L (s.extract i s.size) = [] := by rw [L_extract, hie, size_L]; simp
        have hez : (s.extract i s.size).size = 0 := by rw [size_L, he]; rfl
        rw [if_pos h60, if_pos (by omega), if_pos (by omega), Int.toNat_natCast, cut_f _ 10 (by omega), Option.bind_some, he]
        simp only [upL, aftL, List.takeWhile_nil, List.dropWhile_nil, List.tail_nil]
        rw [cut_f _ 35 (by rw [B_size]; decide), Option.bind_some, L_mk]
        simp only [upL, aftL, List.takeWhile_nil, List.dropWhile_nil, List.tail_nil]
        rw [cut_f _ 32 (by rw [B_size]; decide), Option.bind_some, L_mk]
        simp only [upL, aftL, List.takeWhile_nil, List.dropWhile_nil, List.tail_nil]
        rw [cut_f _ 64 (by rw [B_size]; decide), Option.bind_some, L_mk]
        simp only [upL, aftL, List.takeWhile_nil, List.dropWhile_nil, List.tail_nil]
        rw [impl_enc _ _ _ _ (by rw [B_size]; decide) (by rw [B_size]; decide) (by rw [B_size]; simp; omega), Option.bind_some, if_neg (by simp)]
      · rw [if_neg h60]
    · simp only [spec_l12Open.l0]
      rw [if_neg (by omega)]
      simp only [spec_l12Open.j1]
      rw [if_neg (by simp)]
  | succ d ih =>
    intro i acc hi hd
    by_cases h60 : (acc.length : Int) < 60
    · generalize hx : s.extract i s.size = x
      have hLx : L x = (L s).drop i := by rw [← hx, L_extract, size_L]; exact List.take_of_length_le (by simp)
      have hxs : x.size = s.size - i := by rw [size_L, hLx, List.length_drop, ← size_L]
      generalize hline : (⟨(upL (L x) 10).toArray⟩ : ByteArray) = line
      have hLl : L line = upL (L x) 10 := by rw [← hline]
      have hls : line.size ≤ x.size := by rw [size_L, hLl, size_L]; exact up_len _ _
      have hal : acc.length < 60 := by omega
      have hb : (⟨(upL (L line) 35).toArray⟩ : ByteArray).size ≤ line.size := by rw [B_size, size_L]; exact up_len _ _
      have hr : (⟨(aftL (upL (L line) 35) 32).toArray⟩ : ByteArray).size ≤ line.size := by rw [B_size]; have := aft_len (upL (L line) 35) 32; have h2 := up_len (L line) 35; rw [size_L]; omega
      have hc : (⟨(upL (aftL (upL (L line) 35) 32) 64).toArray⟩ : ByteArray).size ≤ line.size := by rw [B_size] at hr ⊢; have := up_len (aftL (upL (L line) 35) 32) 64; omega
      have hrp : (⟨(aftL (aftL (upL (L line) 35) 32) 64).toArray⟩ : ByteArray).size ≤ line.size := by rw [B_size] at hr ⊢; have := aft_len (aftL (upL (L line) 35) 32) 64; omega
      have impl_step : ∀ k, 9000000 < k → impl_readRecords.l0 (k + 1) s acc (i : Int) =
          if (10 : UInt8) ∈ L x ∧ goodI acc.length (L line) = true then impl_readRecords.l0 k s (acc ++ [⟨⟨(decI acc.length (L line)).1.toArray⟩, ⟨(decI acc.length (L line)).2.toArray⟩⟩]) ((i + line.size + 1 : Nat) : Int) else some (acc, (i : Int)) := by
        intro k hk
        simp only [impl_readRecords.l0]
        rw [if_pos h60, if_pos (by omega), if_pos (by omega), Int.toNat_natCast, hx, cut_f x 10 (by omega), Option.bind_some, hline]
        dsimp only
        rw [cut_f line 35 (by omega), Option.bind_some]
        dsimp only
        rw [cut_f _ 32 (by omega), Option.bind_some, L_mk (upL (L line) 35)]
        dsimp only
        rw [cut_f _ 64 (by omega), Option.bind_some, L_mk (aftL (upL (L line) 35) 32)]
        dsimp only
        rw [impl_enc _ _ _ _ (by omega) (by omega) (by omega), Option.bind_some]
        by_cases hm : (10 : UInt8) ∈ L x
        · rw [if_pos (by simpa using hm)]
          by_cases hv : validRec (upL (aftL (upL (L line) 35) 32) 64) (aftL (aftL (upL (L line) 35) 32) 64) = true
          · have henc : encR (acc.length : Int) ⟨(upL (aftL (upL (L line) 35) 32) 64).toArray⟩ ⟨(aftL (aftL (upL (L line) 35) 32) 64).toArray⟩ = (⟨(encL (acc.length : Int) (upL (aftL (upL (L line) 35) 32) 64) (aftL (aftL (upL (L line) 35) 32) 64)).toArray⟩, true) := by
              unfold encR
              rw [L_mk (upL (aftL (upL (L line) 35) 32) 64), L_mk (aftL (aftL (upL (L line) 35) 32) 64), if_pos ⟨by omega, by omega, hv⟩]
            rw [henc]
            dsimp only
            rw [if_pos rfl, if_pos (by omega), L_toList, L_toList, L_append, L_mk (encL (acc.length : Int) (upL (aftL (upL (L line) 35) 32) 64) (aftL (aftL (upL (L line) 35) 32) 64)), L_mk [10]]
            by_cases he : encL (acc.length : Int) (upL (aftL (upL (L line) 35) 32) 64) (aftL (aftL (upL (L line) 35) 32) 64) = L line ++ [10]
            · rw [if_pos he, if_pos (by omega), if_pos ⟨hm, (goodI_of hv he).1⟩, wrap_in (i := (i : Int) + (line.size : Int)) (by omega) (by omega), wrap_in (by omega) (by omega)]
              rfl
            · rw [if_neg he, if_neg (fun h => he (by
                have h2 := h.2
                unfold goodI decI at h2
                simp only [Bool.and_eq_true, decide_eq_true_eq] at h2
                exact h2.2))]
          · have henc : encR (acc.length : Int) ⟨(upL (aftL (upL (L line) 35) 32) 64).toArray⟩ ⟨(aftL (aftL (upL (L line) 35) 32) 64).toArray⟩ = (⟨#[]⟩, false) := by
              unfold encR
              rw [L_mk (upL (aftL (upL (L line) 35) 32) 64), L_mk (aftL (aftL (upL (L line) 35) 32) 64), if_neg (fun h => hv h.2.2)]
            rw [henc]
            dsimp only
            rw [if_neg (by simp), if_neg (fun h => hv (by
              have h2 := h.2
              unfold goodI decI at h2
              simp only [Bool.and_eq_true, decide_eq_true_eq] at h2
              exact h2.1))]
        · rw [if_neg (by simpa using hm), if_neg (fun h => hm h.1)]
      have spec_step : ∀ k, 9000000 < k → spec_l12Open.l0 (k + 2) s acc (i : Int) =
          if (10 : UInt8) ∈ L x ∧ goodI acc.length (L line) = true then spec_l12Open.l0 k s (acc ++ [⟨⟨(decI acc.length (L line)).1.toArray⟩, ⟨(decI acc.length (L line)).2.toArray⟩⟩]) ((i + line.size + 1 : Nat) : Int) else some (acc, (i : Int)) := by
        intro k hk
        simp only [spec_l12Open.l0]
        by_cases hlt : (i : Int) < (s.size : Int)
        · rw [if_pos hlt]
          simp only [spec_l12Open.j1]
          rw [if_pos (by simpa using h60), if_pos (by omega), if_pos (by omega), Int.toNat_natCast, hx]
          obtain ⟨q, qs, h1, h2, h3⟩ := split_f x 10 k (by omega) (by omega)
          rw [show (10 : Int) = ((10 : UInt8).toNat : Int) from rfl, h1, Option.bind_some, if_pos (by simp)]
          have hq : rdOf ByteArray.empty (q :: qs) 0 = line := by
            show q = line
            apply ext_L
            rw [h3, hLl]
          rw [hq]
          obtain ⟨c, r, g1, g2⟩ := decode_f acc.length line k hal (by omega) (by omega)
          rw [g1, Option.bind_some]
          by_cases hm : (10 : UInt8) ∈ L x
          · have hcnt : 0 < qs.length := by rw [h2]; exact List.count_pos_iff.2 hm
            rw [if_neg (by simp only [List.length_cons]; omega)]
            by_cases hg : goodI acc.length (L line) = true
            · rw [if_pos hg, if_pos (by omega), if_pos ⟨hm, hg⟩, wrap_in (i := (i : Int) + (line.size : Int)) (by omega) (by omega), wrap_in (by omega) (by omega)]
              have h4 := g2 hg
              have e1 : c = ⟨(decI acc.length (L line)).1.toArray⟩ := ext_L (by rw [← h4])
              have e2 : r = ⟨(decI acc.length (L line)).2.toArray⟩ := ext_L (by rw [← h4])
              rw [e1, e2]
              rfl
            · rw [if_neg hg, if_neg (fun h => hg h.2)]
          · have hcnt : qs.length = 0 := by rw [h2]; exact List.count_eq_zero.2 hm
            rw [if_pos (by simp only [List.length_cons]; omega), if_neg (fun h => hm h.1)]
        · rw [if_neg hlt]
          simp only [spec_l12Open.j1]
          have hm : (10 : UInt8) ∉ L x := by
            have : L x = [] := List.eq_nil_of_length_eq_zero (by rw [← size_L]; omega)
            rw [this]; simp
          rw [if_neg (by simp), if_neg (fun h => hm h.1)]
      by_cases hgo : (10 : UInt8) ∈ L x ∧ goodI acc.length (L line) = true
      · have hlt := up_lt hgo.1
        rw [← hLl, ← size_L, ← size_L] at hlt
        obtain ⟨l, n, hn, hll, h⟩ := ih (i + line.size + 1) (acc ++ [⟨⟨(decI acc.length (L line)).1.toArray⟩, ⟨(decI acc.length (L line)).2.toArray⟩⟩]) (by omega) (by omega)
        refine ⟨l, n, hn, .inl (hll.elim id (fun e => by rw [e, List.length_append]; simp; omega)), fun k hk => ?_⟩
        obtain ⟨k, rfl⟩ : ∃ m, k = m + 2 := ⟨k - 2, by omega⟩
        rw [show k + 2 = (k + 1) + 1 from rfl, impl_step (k + 1) (by omega), if_pos hgo]
        refine ⟨(h (k + 1) (by omega)).1, ?_⟩
        rw [show k + 1 + 1 = k + 2 from rfl, spec_step k (by omega), if_pos hgo]
        exact (h k (by omega)).2
      · refine ⟨acc, i, hi, .inr rfl, fun k hk => ?_⟩
        obtain ⟨k, rfl⟩ : ∃ m, k = m + 2 := ⟨k - 2, by omega⟩
        rw [show k + 2 = (k + 1) + 1 from rfl, impl_step (k + 1) (by omega), if_neg hgo]
        refine ⟨rfl, ?_⟩
        rw [show k + 1 + 1 = k + 2 from rfl, spec_step k (by omega), if_neg hgo]
    · refine ⟨acc, i, hi, .inr rfl, fun k hk => ?_⟩
      obtain ⟨k, rfl⟩ : ∃ m, k = m + 2 := ⟨k - 2, by omega⟩
      constructor
      · simp only [impl_readRecords.l0]
        rw [if_neg h60]
      · simp only [spec_l12Open.l0]
        by_cases hlt : (i : Int) < (s.size : Int)
        · rw [if_pos hlt]
          simp only [spec_l12Open.j1]
          rw [if_neg (by simpa using h60)]
        · rw [if_neg hlt]
          simp only [spec_l12Open.j1]
          rw [if_neg (by simp)]
theorem read_eq (s : ByteArray) (hs : s.size ≤ 2000000) : ∃ (l : List S38) (n : Nat), n ≤ s.size ∧ l.length ≤ 60 ∧ ∀ k, 20000000 < k → impl_readRecords.f k s = some (l, (n : Int)) ∧ spec_l12Open.f k s = some (l, (n : Int)) := by
  obtain ⟨l, n, hn, hl, h⟩ := open_eq s hs s.size 0 [] (by omega) (by omega)
  exact ⟨l, n, hn, hl.elim id (fun e => by rw [e]; simp), fun k hk => h k (by omega)⟩
end Go.Proofs.YtgclcjohnnpejaaDoor.PureL
end

section
namespace Go.Proofs.YtgclcjohnnpejaaDoor.PureL
open Go.RowKit Go.Proofs.YtgclcjohnnpejaaDoor.Pr Go.Proofs.YtgclcjohnnpejaaDoorW.PrintWords Go.Proofs.YtgclcjohnnpejaaDoorW.PrintLast
theorem size_app (a b : ByteArray) : (a ++ b).size = a.size + b.size := by rw [size_L, L_append, List.length_append, ← size_L, ← size_L]
theorem records_eq (a b : ByteArray) (n : Int) (ha : a.size ≤ 1048576) (hb : b.size ≤ 1048576) : ∃ (l : List S38) (v : Bool), l.length ≤ 60 ∧ (v = true → a.size + b.size ≤ 30000) ∧ ∀ k, 30000000 < k →
    spec_l12Valid.f k a b n = some v ∧ impl_Log_records.f k a b n = some (l, v) ∧ (v = true → ∃ m, spec_l12Open.f k (a ++ b) = some (l, m)) := by
  by_cases h : a.size + b.size ≤ 30000
  · obtain ⟨l1, n1, hn1, hl1, h1⟩ := read_eq (a ++ b) (by rw [size_app]; omega)
    obtain ⟨l2, n2, hn2, hl2, h2⟩ := read_eq a (by omega)
    refine ⟨l1, decide ((n1 : Int) = (a.size : Int) + (b.size : Int)) && decide ((n2 : Int) = (a.size : Int)) && decide ((l1.length : Int) = n), hl1, fun _ => h, fun k hk => ?_⟩
    obtain ⟨i1, s1⟩ := h1 k (by omega)
    obtain ⟨i2, s2⟩ := h2 k (by omega)
    unfold spec_l12Valid.f impl_Log_records.f
    rw [i1, i2, s1, s2, wrap_in (by omega) (by omega), if_neg (by omega), if_pos (by omega), Option.bind_some]
    dsimp only
    rw [Option.bind_some, Option.bind_some]
    dsimp only
    refine ⟨?_, ?_, fun _ => ⟨_, rfl⟩⟩
    · by_cases c1 : (n1 : Int) = (a.size : Int) + (b.size : Int)
      · rw [if_pos c1, decide_eq_true c1]
        by_cases c2 : (n2 : Int) = (a.size : Int)
        · rw [if_pos c2, decide_eq_true c2]; rfl
        · rw [if_neg c2, decide_eq_false c2]; rfl
      · rw [if_neg c1, decide_eq_false c1]; rfl
    · rw [if_neg (by omega), if_pos (by omega), Option.bind_some]
      dsimp only
      by_cases c1 : (n1 : Int) = (a.size : Int) + (b.size : Int)
      · rw [if_pos c1, decide_eq_true c1]
        by_cases c2 : (n2 : Int) = (a.size : Int)
        · rw [if_pos c2, decide_eq_true c2]; rfl
        · rw [if_neg c2, decide_eq_false c2]; rfl
      · rw [if_neg c1, decide_eq_false c1]; rfl
  · refine ⟨[], false, by simp, (fun h => by cases h), fun k hk => ?_⟩
    unfold spec_l12Valid.f impl_Log_records.f
    rw [wrap_in (by omega) (by omega), if_pos (by omega)]
    rw [if_pos (by omega)]
    exact ⟨rfl, rfl, (fun h => by cases h)⟩
theorem sz_log (a b : ByteArray) (n : Int) (ha : a.size ≤ 140737488351232) (hb : b.size ≤ 140737488351232) : ∃ r, laws_szLog.f a b n 1048576 = some r ∧ (¬ r < 0 → a.size ≤ 1048576 ∧ b.size ≤ 1048576 ∧ 0 ≤ r ∧ r ≤ 1048576) := by
  unfold laws_szLog.f
  rw [wrap_in (by omega) (by omega), wrap_in (by omega) (by omega)]
  by_cases h1 : (1048576 : Int) - (a.size : Int) < 0
  · rw [if_pos h1]; exact ⟨_, rfl, fun h => absurd (by omega) h⟩
  · rw [if_neg h1]
    by_cases h2 : (1048576 : Int) - (a.size : Int) - (b.size : Int) < 0
    · rw [if_pos h2]; exact ⟨_, rfl, fun h => absurd (by omega) h⟩
    · rw [if_neg h2]; exact ⟨_, rfl, fun _ => by omega⟩
end Go.Proofs.YtgclcjohnnpejaaDoor.PureL
end

section
namespace Go.Proofs.YtgclcjohnnpejaaDoor.PureL
open Go.RowKit Go.Proofs.YtgclcjohnnpejaaDoor.Pr Go.Proofs.YtgclcjohnnpejaaDoorW.PrintWords Go.Proofs.YtgclcjohnnpejaaDoorW.PrintLast
theorem markText_l (j : Nat) : ∀ (a : Int) (x : ByteArray), a < (10 : Int) ^ j → a ≤ 1000000 → x.size + j ≤ 1000 → ∃ t, ∀ k, j < k → laws_markText.l0 k a x = some t := by
  induction j with
  | zero =>
    intro a x ha hb hx
    refine ⟨(⟨#[109]⟩ : ByteArray) ++ x, fun k hk => ?_⟩
    obtain ⟨k, rfl⟩ : ∃ n, k = n + 1 := ⟨k - 1, by omega⟩
    unfold laws_markText.l0
    rw [if_neg (by omega), if_pos (by omega)]
  | succ j ih =>
    intro a x ha hb hx
    by_cases h0 : a > 0
    · obtain ⟨t, ht⟩ := ih (a / 10) (strOfNums [(wrap64 (48 + (Int.tmod a 10))) % 256] ++ x) (by rw [Int.pow_succ] at ha; omega) (by omega) (by rw [size_app, Go.strOfNums_size, List.length_singleton]; omega)
      refine ⟨t, fun k hk => ?_⟩
      obtain ⟨k, rfl⟩ : ∃ n, k = n + 1 := ⟨k - 1, by omega⟩
      unfold laws_markText.l0
      rw [if_pos h0, Option.bind_some, if_pos (by rw [Go.strOfNums_size, List.length_singleton]; omega)]
      rw [show wrap64 (Int.tdiv a 10) = a / 10 by rw [Int.tdiv_eq_ediv_of_nonneg (by omega)]; exact wrap_in (by omega) (by omega)]
      exact ht k (by omega)
    · refine ⟨(⟨#[109]⟩ : ByteArray) ++ x, fun k hk => ?_⟩
      obtain ⟨k, rfl⟩ : ∃ n, k = n + 1 := ⟨k - 1, by omega⟩
      unfold laws_markText.l0
      rw [if_neg (by omega), if_pos (by omega)]
theorem markText_ex (a : Int) (h1 : a < 10000) : ∃ t, ∀ k, 10 < k → laws_markText.f k a = some t := by
  by_cases h : a ≤ 0
  · exact ⟨⟨#[109, 48]⟩, fun k _ => by unfold laws_markText.f; rw [if_pos h]⟩
  · obtain ⟨t, ht⟩ := markText_l 4 a ⟨#[]⟩ (by omega) (by omega) (by decide)
    exact ⟨t, fun k hk => by unfold laws_markText.f; rw [if_neg h]; exact ht k (by omega)⟩
noncomputable def tx (a : Int) : ByteArray := (laws_markText.f 11 a).getD ⟨#[]⟩
theorem tx_eq (a : Int) (h1 : a < 10000) (k : Nat) (hk : 10 < k) : laws_markText.f k a = some (tx a) := by
  obtain ⟨t, ht⟩ := markText_ex a h1
  unfold tx
  rw [ht k hk, ht 11 (by omega)]; rfl
noncomputable def mk (j : Nat) : S38 := ⟨tx (2 * j + 1), tx (2 * j + 2)⟩
theorem rd_at (l : List S38) (i : Nat) (h : i < l.length) : rd_T38 l (i : Int) = l[i] := by
  unfold rd_T38
  rw [Int.toNat_natCast, List.getD_eq_getElem?_getD, List.getElem?_eq_getElem h]; rfl
theorem mark_l (n : Nat) (hn : n ≤ 60) : ∀ (d i : Nat) (l : List S38), d + i = n → l.length = n → (∀ j (h : j < l.length), j < i → l[j] = mk j) → ∃ l' : List S38, l'.length = n ∧ (∀ j (h : j < l'.length), l'[j] = mk j) ∧ ∀ k, d + 20 < k → laws_markLogRecordS.l0 k l (2 * i + 1) i = some (2 * (n : Int) + 1, l') := by
  intro d
  induction d with
  | zero =>
    intro i l hd hl hm
    refine ⟨l, hl, fun j h => hm j h (by omega), fun k hk => ?_⟩
    obtain ⟨k, rfl⟩ : ∃ n, k = n + 1 := ⟨k - 1, by omega⟩
    unfold laws_markLogRecordS.l0
    rw [if_neg (by omega), show i = n by omega]
  | succ d ih =>
    intro i l hd hl hm
    have hi : i < l.length := by omega
    obtain ⟨l', e1, e2, e3⟩ := ih (i + 1) ((l.set i ⟨tx (2 * i + 1), l[i].f1⟩).set i (mk i)) (by omega) (by rw [List.length_set, List.length_set]; omega) (fun j h hj => by
      by_cases c : j = i
      · subst c; rw [List.getElem_set_self]
      · rw [List.getElem_set_ne (by omega), List.getElem_set_ne (by omega)]
        exact hm j (by rw [List.length_set, List.length_set] at h; exact h) (by omega))
    refine ⟨l', e1, e2, fun k hk => ?_⟩
    obtain ⟨k, rfl⟩ : ∃ n, k = n + 1 := ⟨k - 1, by omega⟩
    unfold laws_markLogRecordS.l0
    rw [if_pos (by omega), tx_eq _ (by omega) k (by omega), Option.bind_some, if_pos (by omega), Option.bind_some, wrap_in (by omega) (by omega), tx_eq _ (by omega) k (by omega), Option.bind_some, wrap_in (by omega) (by omega), wrap_in (by omega) (by omega), Int.toNat_natCast, rd_at l i hi, rd_at _ i (by rw [List.length_set]; exact hi), List.getElem_set_self]
    have := e3 k (by omega)
    rw [show (2 * ((i + 1 : Nat) : Int) + 1) = 2 * (i : Int) + 1 + 1 + 1 by omega, show ((i + 1 : Nat) : Int) = (i : Int) + 1 by omega] at this
    rw [show (2 * (i : Int) + 1 + 1) = 2 * (i : Int) + 2 by omega] at this ⊢
    exact this
theorem held_l (n : Nat) (hn : n ≤ 60) (l : List S38) (hl : l.length = n) (hm : ∀ j (h : j < l.length), l[j] = mk j) : ∀ (d i : Nat), d + i = n → ∀ k, d + 20 < k → laws_heldLogRecordS.l0 k l (2 * i + 1) i = some (2 * (n : Int) + 1) := by
  intro d
  induction d with
  | zero =>
    intro i hd k hk
    obtain ⟨k, rfl⟩ : ∃ n, k = n + 1 := ⟨k - 1, by omega⟩
    unfold laws_heldLogRecordS.l0
    rw [if_neg (by omega), show i = n by omega]
  | succ d ih =>
    intro i hd k hk
    have hi : i < l.length := by omega
    obtain ⟨k, rfl⟩ : ∃ n, k = n + 1 := ⟨k - 1, by omega⟩
    unfold laws_heldLogRecordS.l0
    have e0 : rd_T38 l i = mk i := by rw [rd_at l i hi, hm i hi]
    rw [if_pos (by omega), if_pos (by omega), tx_eq _ (by omega) k (by omega), Option.bind_some, e0, if_pos (by rfl), wrap_in (by omega) (by omega), tx_eq _ (by omega) k (by omega), Option.bind_some, if_pos (by show (tx (2 * i + 2)).toList = _; rw [show (2 * (i : Int) + 1 + 1) = 2 * (i : Int) + 2 by omega]), wrap_in (by omega) (by omega), wrap_in (by omega) (by omega)]
    have := ih (i + 1) (by omega) k (by omega)
    rw [show (2 * ((i + 1 : Nat) : Int) + 1) = 2 * (i : Int) + 1 + 1 + 1 by omega, show ((i + 1 : Nat) : Int) = (i : Int) + 1 by omega] at this
    exact this
theorem eqRec_same (a b : ByteArray) : laws_eqLogRecord.f a b a b = some true := by unfold laws_eqLogRecord.f; rw [if_pos rfl, if_pos rfl]
theorem eqRecs_l (l : List S38) (hl : l.length ≤ 60) : ∀ (d i : Nat), d + i = l.length → ∀ k, d < k → laws_eqLogRecordS.l0 k l l i = some true := by
  intro d
  induction d with
  | zero =>
    intro i hd k hk
    obtain ⟨k, rfl⟩ : ∃ n, k = n + 1 := ⟨k - 1, by omega⟩
    unfold laws_eqLogRecordS.l0
    rw [if_neg (by omega)]
  | succ d ih =>
    intro i hd k hk
    obtain ⟨k, rfl⟩ : ∃ n, k = n + 1 := ⟨k - 1, by omega⟩
    unfold laws_eqLogRecordS.l0
    rw [if_pos (by omega), if_pos (by omega), if_pos (by omega), eqRec_same, Option.bind_some, if_pos rfl, wrap_in (by omega) (by omega)]
    exact ih (i + 1) (by omega) k (by omega)
theorem eqRecs_same (l : List S38) (hl : l.length ≤ 60) (k : Nat) (hk : 60 < k) : laws_eqLogRecordS.f k l l = some true := by
  unfold laws_eqLogRecordS.f
  rw [if_pos rfl]
  exact eqRecs_l l hl l.length 0 (by omega) k (by omega)
theorem mark_held (l : List S38) (hl : l.length ≤ 60) : ∃ l' m, 0 ≤ m ∧ ∀ k, 100 < k → laws_markLogRecordS.f k l 1 = some (m, l') ∧ laws_heldLogRecordS.f k l' 1 = some m := by
  obtain ⟨l', e1, e2, e3⟩ := mark_l l.length hl l.length 0 l (by omega) rfl (fun j h hj => absurd hj (by omega))
  refine ⟨l', 2 * (l.length : Int) + 1, by omega, fun k hk => ⟨?_, ?_⟩⟩
  · exact e3 k (by omega)
  · exact held_l l.length hl l' e1 e2 l.length 0 (by omega) k (by omega)
theorem logRecords_eq (a b : ByteArray) (n : Int) (ha : a.size ≤ 1048576) (hb : b.size ≤ 1048576) : ∃ (l : List S38) (v : Bool), l.length ≤ 60 ∧ ∀ k, 30000000 < k → spec_LogRecords.f k a b n = some (l, v) ∧ impl_LogRecords.f k a b n = some (l, v) := by
  obtain ⟨l, v, hl, hv, h⟩ := records_eq a b n ha hb
  refine ⟨if v = true then l else [], v, by split <;> simp_all, fun k hk => ?_⟩
  obtain ⟨h1, h2, h3⟩ := h k hk
  unfold spec_LogRecords.f impl_LogRecords.f
  rw [h1, h2, Option.bind_some, Option.bind_some]
  dsimp only
  cases v with
  | true =>
    obtain ⟨m, hm⟩ := h3 rfl
    rw [if_pos rfl, if_pos rfl, if_pos rfl, if_pos (by have := hv rfl; omega), hm, Option.bind_some]
    exact ⟨rfl, rfl⟩
  | false => exact ⟨rfl, rfl⟩
theorem FnExactLogRecords (a b : ByteArray) (n : Int) (ha : a.size ≤ 140737488351232) (hb : b.size ≤ 140737488351232) : ∃ k, laws_FnExactLogRecords.f k a b n = some true := by
  obtain ⟨z, hz, hs⟩ := sz_log a b n ha hb
  by_cases h : z < 0
  · refine ⟨0, ?_⟩
    unfold laws_FnExactLogRecords.f
    rw [hz, Option.bind_some, if_pos h]
  · obtain ⟨h1, h2, _⟩ := hs h
    obtain ⟨l, v, hl, hr⟩ := logRecords_eq a b n h1 h2
    obtain ⟨l', m, hm, hk⟩ := mark_held l hl
    obtain ⟨k, hK⟩ : ∃ k, 30000000 < k := ⟨_, Nat.lt_succ_self _⟩
    have j1 : laws_FnExactLogRecords.j1 (k + 1) l' m (v != v) = some true := by
      rw [laws_FnExactLogRecords.j1, if_neg (by simp), (hk k (by omega)).2, Option.bind_some, if_neg (by omega), if_pos rfl]
    have j0 : laws_FnExactLogRecords.j0 (k + 1 + 1) l v l (v != v) a b n = some true := by
      obtain ⟨e1, e2⟩ := hr (k + 1) (by omega)
      obtain ⟨m1, m2⟩ := hk (k + 1) (by omega)
      rw [laws_FnExactLogRecords.j0, if_neg (by simp), m1, Option.bind_some]
      dsimp only
      rw [m2, Option.bind_some, if_neg (by omega), if_pos rfl]
      unfold laws_toLog.f
      rw [Option.bind_some]
      dsimp only
      rw [e2, Option.bind_some]
      dsimp only
      rw [eqRecs_same l hl _ (by omega), Option.bind_some, if_pos rfl]
      exact j1
    refine ⟨k + 1 + 1, ?_⟩
    obtain ⟨e1, e2⟩ := hr (k + 1 + 1) (by omega)
    unfold laws_FnExactLogRecords.f
    rw [hz, Option.bind_some, if_neg h]
    unfold laws_toLog.f
    rw [Option.bind_some]
    dsimp only
    rw [e1, Option.bind_some, Option.bind_some]
    dsimp only
    rw [e2, Option.bind_some, eqRecs_same l hl _ (by omega), Option.bind_some, if_pos rfl]
    exact j0
end Go.Proofs.YtgclcjohnnpejaaDoor.PureL
end
