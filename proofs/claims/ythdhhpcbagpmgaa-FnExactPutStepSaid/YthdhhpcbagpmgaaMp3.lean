-- texts of this session, and of the kit's print, cut to what the claim leans on
import Derived.Test.YthdhhpcbagpmgaaMp1
import Derived.Test.YthdhhpcbagpmgaaMp2
import Derived.Test.YthdhhpcbagpmgaaMp0
import Derived.ChangeSame
import Derived.ChangeSlices
section
namespace Go.Proofs.Ythdhhpcbagpmgaa.Pr
open Go.RowKit Go.Proofs.YthdhhpcbagpmgaaW.PrintWords Go.Proofs.YthdhhpcbagpmgaaW.PrintLast Go.Proofs.YthdhhpcbagpmgaaW.PrintMore
attribute [local go_sem] max2_int min2_int max_two min_two max_three min_three max_four min_four
set_option linter.unusedVariables false
set_option linter.unusedSimpArgs false
def spec_PutStep.f (k : Nat) (l0_0 : List (List (S72))) (a1 : Int) (a2 : Int) (a3_0 : Int) (a3_1 : Int) (a3_2 : Int) : Option ((List (List (S72))) × Bool) := (spec_l2Program.f k l0_0).bind fun t347 => (if t347 = true then ((spec_l2Function.f l0_0 a1).bind fun t348 => (if t348 = true then (if 0 ≤ a1 then (if a1 < (l0_0.length : Int) then (if ((rd_L4 l0_0 a1).length : Int) = 8 then (some (([] : List (List (S72))), false)) else ((spec_l1In.f a2 0 ((rd_L4 l0_0 a1).length : Int)).bind fun t351 => (if t351 = true then ((spec_l2Step.f k l0_0 a3_0 a3_1 a3_2).bind fun t352 => (if t352 = true then ((spec_l2Put.f l0_0 a1 a2 a3_0 a3_1 a3_2).bind fun t353 => (some (t353, true))) else (some (([] : List (List (S72))), false)))) else (some (([] : List (List (S72))), false))))) else (none)) else (none)) else (some (([] : List (List (S72))), false)))) else (some (([] : List (List (S72))), false)))
set_option maxHeartbeats 8000000 in
set_option maxRecDepth 100000 in
theorem spec_PutStep.calls (k : Nat) (A0_0 : Option Addr) (c0_0 : Nat) (l0_0 : List (List (S72))) (a1 : Int) (a2 : Int) (a3_0 : Int) (a3_1 : Int) (a3_2 : Int) (r1 : List (List (S72))) (r2 : Bool) (w : World) (hr0_0 : Kd.C (Kd.slice 72 k72) w A0_0 l0_0.length l0_0) (hc0_0 : l0_0.length ≤ c0_0) (h : spec_PutStep.f k l0_0 a1 a2 a3_0 a3_1 a3_2 = some (r1, r2)) :
  Calls Try.prog 47 #[.agg #[.slice A0_0 l0_0.length c0_0], .int .i64 a1, .int .i64 a2, .agg #[.int .i64 a3_0, .int .i64 a3_1, .int .i64 a3_2]] w fun e w' => ∃ v0_ : Value, e = .returned (.tuple #[.agg #[v0_], .bool r2]) ∧ Kd.S (Kd.slice 72 k72) 108 w' w.heap.size (fun _ => True) v0_ r1 ∧ Below w.heap.size w w' := by
 have hu28 := Try.underlying28
 have hu72 := Try.underlying72
 have HR0_0 := am hr0_0
 have HC0_0 := am hc0_0
 clear hr0_0 hc0_0
 have HB := am (Below.refl w.heap.size w)
 have H : ((spec_l2Program.f k l0_0).bind fun t347 => (if t347 = true then ((spec_l2Function.f l0_0 a1).bind fun t348 => (if t348 = true then (if 0 ≤ a1 then (if a1 < (l0_0.length : Int) then (if ((rd_L4 l0_0 a1).length : Int) = 8 then (some (([] : List (List (S72))), false)) else ((spec_l1In.f a2 0 ((rd_L4 l0_0 a1).length : Int)).bind fun t351 => (if t351 = true then ((spec_l2Step.f k l0_0 a3_0 a3_1 a3_2).bind fun t352 => (if t352 = true then ((spec_l2Put.f l0_0 a1 a2 a3_0 a3_1 a3_2).bind fun t353 => (some (t353, true))) else (some (([] : List (List (S72))), false)))) else (some (([] : List (List (S72))), false))))) else (none)) else (none)) else (some (([] : List (List (S72))), false)))) else (some (([] : List (List (S72))), false)))) = some (r1, r2) := h
 clear h
 replace H := bem H
 obtain ⟨t347, A50, H⟩ := H
 replace H : (if t347 = true then ((spec_l2Function.f l0_0 a1).bind fun t348 => (if t348 = true then (if 0 ≤ a1 then (if a1 < (l0_0.length : Int) then (if ((rd_L4 l0_0 a1).length : Int) = 8 then (some (([] : List (List (S72))), false)) else ((spec_l1In.f a2 0 ((rd_L4 l0_0 a1).length : Int)).bind fun t351 => (if t351 = true then ((spec_l2Step.f k l0_0 a3_0 a3_1 a3_2).bind fun t352 => (if t352 = true then ((spec_l2Put.f l0_0 a1 a2 a3_0 a3_1 a3_2).bind fun t353 => (some (t353, true))) else (some (([] : List (List (S72))), false)))) else (some (([] : List (List (S72))), false))))) else (none)) else (none)) else (some (([] : List (List (S72))), false)))) else (some (([] : List (List (S72))), false))) = some (r1, r2) := H
 have A5 := am A50
 clear A50
 by_cases c6 : t347 = true
 ·subst c6
  have H1 : ((spec_l2Function.f l0_0 a1).bind fun t348 => (if t348 = true then (if 0 ≤ a1 then (if a1 < (l0_0.length : Int) then (if ((rd_L4 l0_0 a1).length : Int) = 8 then (some (([] : List (List (S72))), false)) else ((spec_l1In.f a2 0 ((rd_L4 l0_0 a1).length : Int)).bind fun t351 => (if t351 = true then ((spec_l2Step.f k l0_0 a3_0 a3_1 a3_2).bind fun t352 => (if t352 = true then ((spec_l2Put.f l0_0 a1 a2 a3_0 a3_1 a3_2).bind fun t353 => (some (t353, true))) else (some (([] : List (List (S72))), false)))) else (some (([] : List (List (S72))), false))))) else (none)) else (none)) else (some (([] : List (List (S72))), false)))) = some (r1, r2) := by rw [if_pos rfl] at H; exact H
  clear H
  have H := H1
  clear H1
  replace H := bem H
  obtain ⟨t348, A70, H⟩ := H
  replace H : (if t348 = true then (if 0 ≤ a1 then (if a1 < (l0_0.length : Int) then (if ((rd_L4 l0_0 a1).length : Int) = 8 then (some (([] : List (List (S72))), false)) else ((spec_l1In.f a2 0 ((rd_L4 l0_0 a1).length : Int)).bind fun t351 => (if t351 = true then ((spec_l2Step.f k l0_0 a3_0 a3_1 a3_2).bind fun t352 => (if t352 = true then ((spec_l2Put.f l0_0 a1 a2 a3_0 a3_1 a3_2).bind fun t353 => (some (t353, true))) else (some (([] : List (List (S72))), false)))) else (some (([] : List (List (S72))), false))))) else (none)) else (none)) else (some (([] : List (List (S72))), false))) = some (r1, r2) := H
  have A7 := am A70
  clear A70
  by_cases c8 : t348 = true
  ·subst c8
   have H1 : (if 0 ≤ a1 then (if a1 < (l0_0.length : Int) then (if ((rd_L4 l0_0 a1).length : Int) = 8 then (some (([] : List (List (S72))), false)) else ((spec_l1In.f a2 0 ((rd_L4 l0_0 a1).length : Int)).bind fun t351 => (if t351 = true then ((spec_l2Step.f k l0_0 a3_0 a3_1 a3_2).bind fun t352 => (if t352 = true then ((spec_l2Put.f l0_0 a1 a2 a3_0 a3_1 a3_2).bind fun t353 => (some (t353, true))) else (some (([] : List (List (S72))), false)))) else (some (([] : List (List (S72))), false))))) else (none)) else (none)) = some (r1, r2) := by rw [if_pos rfl] at H; exact H
   clear H
   have H := H1
   clear H1
   by_cases c9 : 0 ≤ a1
   ·rw [if_pos c9] at H
    have c9b0 : decide (0 ≤ a1) = true := decide_eq_true c9
    clear c9
    by_cases c10 : a1 < (l0_0.length : Int)
    ·rw [if_pos c10] at H
     have c10b0 : decide (a1 < (l0_0.length : Int)) = true := decide_eq_true c10
     clear c10
     by_cases c11 : ((rd_L4 l0_0 a1).length : Int) = 8
     ·rw [if_pos c11] at H
      have c11b0 : (((rd_L4 l0_0 a1).length : Int) == 8) = true := beq_iff_eq.mpr c11
      have c11b1 : (((rd_L4 l0_0 a1).length : Int) != 8) = false := bne_eq_false_iff_eq.mpr c11
      clear c11
      simp only [Option.some.injEq, Prod.mk.injEq] at H
      obtain ⟨rfl, rfl⟩ := H
      go_enter Try.func47, Try.ntmps47
      go_wp2_with (first | ((with_reducible refine gate_dst (N := 4) rfl ?_); (try (refine gate_guard (by rfl) ?_; dsimp only)); refine box_event ?hg (N := 4) ?hd (cs := #[.slice A0_0 l0_0.length c0_0]) (t := 28) ?hr ?_; (case hd => rfl); (case hg => rfl); (case hr => first | (go_simp; done) | (go_simp; rfl)); intro gb344 hg w12 hbox hb; have n0_ := am (below_step zq0 hb); have n1_ := am (hbox); have n2_ := am ((zq12 : w.heap.size ≤ gb344)); have n3_ := am ((zq12 : w.heap.size ≤ gb344)); clear HB; have HB := n0_; have BK344 := n1_; have GW344 := n2_; have GE344 := n3_; clear n0_ n1_ n2_ n3_; clear hb hbox hg) | ((with_reducible refine gate_dst (N := 7) rfl ?_); (try (refine gate_guard (by rfl) ?_; dsimp only)); refine box_event ?hg (N := 7) ?hd (cs := #[.int .i64 a3_0, .int .i64 a3_1, .int .i64 a3_2]) (t := 72) ?hr ?_; (case hd => rfl); (case hg => rfl); (case hr => first | (go_simp; done) | (go_simp; rfl)); intro gb345 hg w13 hbox hb; have n0_ := am (blk_below (g := gb344) (o := .cells #[.slice A0_0 l0_0.length c0_0] 28 (0, 0)) zq56 hb); have n1_ := am (below_step zq60 hb); have n2_ := am (hbox); have n3_ := am ((zq68 : w.heap.size ≤ gb345)); have n4_ := am ((zq68 : w.heap.size ≤ gb345)); have n5_ := am ((zq63 : gb344 ≠ gb345)); have n6_ := am ((zq64 : gb345 ≠ gb344)); clear BK344; clear HB; have BK344 := n0_; have HB := n1_; have BK345 := n2_; have GW345 := n3_; have GE345 := n4_; have NB344_345 := n5_; have NB345_344 := n6_; clear n0_ n1_ n2_ n3_ n4_ n5_ n6_; clear hb hbox hg) | ((with_reducible refine gate_dst (N := 8) rfl ?_); (try (refine gate_guard (by rfl) ?_; dsimp only)); refine box_event ?hg (N := 8) ?hd (cs := #[.slice none 0 0]) (t := 28) ?hr ?_; (case hd => rfl); (case hg => rfl); (case hr => first | (go_simp; done) | (go_simp; rfl)); intro gb346 hg w14 hbox hb; have n0_ := am (blk_below (g := gb344) (o := .cells #[.slice A0_0 l0_0.length c0_0] 28 (0, 0)) zq56 hb); have n1_ := am (blk_below (g := gb345) (o := .cells #[.int .i64 a3_0, .int .i64 a3_1, .int .i64 a3_2] 72 (0, 0)) zq58 hb); have n2_ := am (below_step zq59 hb); have n3_ := am (hbox); have n4_ := am ((zq69 : w.heap.size ≤ gb346)); have n5_ := am ((zq69 : w.heap.size ≤ gb346)); have n6_ := am ((zq63 : gb344 ≠ gb346)); have n7_ := am ((zq64 : gb346 ≠ gb344)); have n8_ := am ((zq65 : gb345 ≠ gb346)); have n9_ := am ((zq66 : gb346 ≠ gb345)); clear BK344; clear BK345; clear HB; have BK344 := n0_; have BK345 := n1_; have HB := n2_; have BK346 := n3_; have GW346 := n4_; have GE346 := n5_; have NB344_346 := n6_; have NB346_344 := n7_; have NB345_346 := n8_; have NB346_345 := n9_; clear n0_ n1_ n2_ n3_ n4_ n5_ n6_ n7_ n8_ n9_; clear hb hbox hg; have hnb15 := NB344_345.out; have hnc15 := NB345_344.out; have hnb16 := NB344_346.out; have hnc16 := NB346_344.out; have hcz17_0 : w14.cell? ⟨gb344, 0, none⟩ = some (.slice A0_0 l0_0.length c0_0) := (blk_cell BK344.out 0).trans rfl; have hfz17_0 := blk_frozen BK344.out 0) | ((with_reducible refine gate_callee (f := 91) rfl ?_); refine goesL_ (some 11) rfl rfl Try.func91 zq17 rfl #[.agg #[.slice A0_0 l0_0.length c0_0]] rfl zq1 ?_; (with_reducible refine (spec_l2Program.calls k _ _ l0_0 true _ ?side1 ?side2 A5.out).mono ?_); (case side1 => repeat (first | exact (Kd.C_below HR0_0.out HB.out) | (with_reducible refine Kd.C_alloc ?_ _) | (with_reducible refine Kd.C_drewN ?_ _) | (with_reducible refine Kd.C_drew ?_))); (case side2 => exact HC0_0.out); rintro e w18 ⟨rfl, hb⟩; refine ⟨_, rfl, ?_⟩; have n0_ := am (blk_below (g := gb344) (o := .cells #[.slice A0_0 l0_0.length c0_0] 28 (0, 0)) zq56 hb); have n1_ := am (blk_below (g := gb345) (o := .cells #[.int .i64 a3_0, .int .i64 a3_1, .int .i64 a3_2] 72 (0, 0)) zq58 hb); have n2_ := am (blk_below (g := gb346) (o := .cells #[.slice none 0 0] 28 (0, 0)) zq61 hb); have n3_ := am (below_step zq57 hb); clear BK344; clear BK345; clear BK346; clear HB; have BK344 := n0_; have BK345 := n1_; have BK346 := n2_; have HB := n3_; clear n0_ n1_ n2_ n3_; (try clear hb); (try clear hb2); (try clear hk); (try clear hi); have hcz19_0 : w18.cell? ⟨gb344, 0, none⟩ = some (.slice A0_0 l0_0.length c0_0) := (blk_cell BK344.out 0).trans rfl; have hfz19_0 := blk_frozen BK344.out 0) | (go_at_call 92; (with_reducible refine (spec_l2Function.calls _ _ l0_0 a1 true _ ?side1 ?side2 A7.out).mono ?_); (case side1 => repeat (first | exact (Kd.C_below HR0_0.out HB.out) | (with_reducible refine Kd.C_alloc ?_ _) | (with_reducible refine Kd.C_drewN ?_ _) | (with_reducible refine Kd.C_drew ?_))); (case side2 => exact HC0_0.out); rintro e w20 ⟨rfl, hb⟩; have n0_ := am (blk_below (g := gb344) (o := .cells #[.slice A0_0 l0_0.length c0_0] 28 (0, 0)) zq56 hb); have n1_ := am (blk_below (g := gb345) (o := .cells #[.int .i64 a3_0, .int .i64 a3_1, .int .i64 a3_2] 72 (0, 0)) zq58 hb); have n2_ := am (blk_below (g := gb346) (o := .cells #[.slice none 0 0] 28 (0, 0)) zq61 hb); have n3_ := am (below_step zq57 hb); clear BK344; clear BK345; clear BK346; clear HB; have BK344 := n0_; have BK345 := n1_; have BK346 := n2_; have HB := n3_; clear n0_ n1_ n2_ n3_; (try clear hb); (try clear hb2); (try clear hk); (try clear hi); have hcz21_0 : w20.cell? ⟨gb344, 0, none⟩ = some (.slice A0_0 l0_0.length c0_0) := (blk_cell BK344.out 0).trans rfl; have hfz21_0 := blk_frozen BK344.out 0; have p349 : 0 ≤ (a1 : Int) := of_decide_eq_true zq15; have q349 : a1 < (l0_0.length : Int) := of_decide_eq_true zq15; obtain ⟨ad349, A349_0, c349_0, e349, hx349_0, hl349_0, hi349_0⟩ := at_L4 HR0_0.out a1 p349 q349; cases e349; replace hx349_0 := (HB.out.cell (World.block_lt_of_cell? w _ hx349_0)).trans hx349_0; have HR349_0 := am hi349_0; have HC349_0 := am hl349_0; clear hi349_0 hl349_0; replace p349 := eq_true p349; replace q349 := eq_true q349; have hnb22 := NB346_345.out; have hnc22 := NB345_346.out; have hcz23_0 : w20.cell? ⟨gb346, 0, none⟩ = some (.slice none 0 0) := (blk_cell BK346.out 0).trans rfl; have hfz23_0 := blk_frozen BK346.out 0))
      refine bodyPost_ret (results_ct rfl _ _ gb346 28 #[.slice none 0 0] (0, 0) _ rfl zq62 Try.underlying28 rfl zq17) rfl ?_
      exact ⟨_, zq8, zq67, zq57⟩
     ·rw [if_neg c11] at H
      have c11b0 : (((rd_L4 l0_0 a1).length : Int) == 8) = false := beq_eq_false_iff_ne.mpr c11
      have c11b1 : (((rd_L4 l0_0 a1).length : Int) != 8) = true := bne_iff_ne.mpr c11
      replace H := bem H
      obtain ⟨t351, A240, H⟩ := H
      replace H : (if t351 = true then ((spec_l2Step.f k l0_0 a3_0 a3_1 a3_2).bind fun t352 => (if t352 = true then ((spec_l2Put.f l0_0 a1 a2 a3_0 a3_1 a3_2).bind fun t353 => (some (t353, true))) else (some (([] : List (List (S72))), false)))) else (some (([] : List (List (S72))), false))) = some (r1, r2) := H
      have A24 := am A240
      clear A240
      by_cases c25 : t351 = true
      ·subst c25
       have H1 : ((spec_l2Step.f k l0_0 a3_0 a3_1 a3_2).bind fun t352 => (if t352 = true then ((spec_l2Put.f l0_0 a1 a2 a3_0 a3_1 a3_2).bind fun t353 => (some (t353, true))) else (some (([] : List (List (S72))), false)))) = some (r1, r2) := by rw [if_pos rfl] at H; exact H
       clear H
       have H := H1
       clear H1
       replace H := bem H
       obtain ⟨t352, A260, H⟩ := H
       replace H : (if t352 = true then ((spec_l2Put.f l0_0 a1 a2 a3_0 a3_1 a3_2).bind fun t353 => (some (t353, true))) else (some (([] : List (List (S72))), false))) = some (r1, r2) := H
       have A26 := am A260
       clear A260
       by_cases c27 : t352 = true
       ·subst c27
        have H1 : ((spec_l2Put.f l0_0 a1 a2 a3_0 a3_1 a3_2).bind fun t353 => (some (t353, true))) = some (r1, r2) := by rw [if_pos rfl] at H; exact H
        clear H
        have H := H1
        clear H1
        replace H := bem H
        obtain ⟨t353, A280, H⟩ := H
        replace H : (some (t353, true)) = some (r1, r2) := H
        have A28 := am A280
        clear A280
        simp only [Option.some.injEq, Prod.mk.injEq] at H
        obtain ⟨rfl, rfl⟩ := H
        go_enter Try.func47, Try.ntmps47
        go_wp2_with (first | ((with_reducible refine gate_dst (N := 4) rfl ?_); (try (refine gate_guard (by rfl) ?_; dsimp only)); refine box_event ?hg (N := 4) ?hd (cs := #[.slice A0_0 l0_0.length c0_0]) (t := 28) ?hr ?_; (case hd => rfl); (case hg => rfl); (case hr => first | (go_simp; done) | (go_simp; rfl)); intro gb344 hg w29 hbox hb; have n0_ := am (below_step zq0 hb); have n1_ := am (hbox); have n2_ := am ((zq12 : w.heap.size ≤ gb344)); have n3_ := am ((zq12 : w.heap.size ≤ gb344)); clear HB; have HB := n0_; have BK344 := n1_; have GW344 := n2_; have GE344 := n3_; clear n0_ n1_ n2_ n3_; clear hb hbox hg) | ((with_reducible refine gate_dst (N := 7) rfl ?_); (try (refine gate_guard (by rfl) ?_; dsimp only)); refine box_event ?hg (N := 7) ?hd (cs := #[.int .i64 a3_0, .int .i64 a3_1, .int .i64 a3_2]) (t := 72) ?hr ?_; (case hd => rfl); (case hg => rfl); (case hr => first | (go_simp; done) | (go_simp; rfl)); intro gb345 hg w30 hbox hb; have n0_ := am (blk_below (g := gb344) (o := .cells #[.slice A0_0 l0_0.length c0_0] 28 (0, 0)) zq56 hb); have n1_ := am (below_step zq60 hb); have n2_ := am (hbox); have n3_ := am ((zq68 : w.heap.size ≤ gb345)); have n4_ := am ((zq68 : w.heap.size ≤ gb345)); have n5_ := am ((zq63 : gb344 ≠ gb345)); have n6_ := am ((zq64 : gb345 ≠ gb344)); clear BK344; clear HB; have BK344 := n0_; have HB := n1_; have BK345 := n2_; have GW345 := n3_; have GE345 := n4_; have NB344_345 := n5_; have NB345_344 := n6_; clear n0_ n1_ n2_ n3_ n4_ n5_ n6_; clear hb hbox hg) | ((with_reducible refine gate_dst (N := 8) rfl ?_); (try (refine gate_guard (by rfl) ?_; dsimp only)); refine box_event ?hg (N := 8) ?hd (cs := #[.slice none 0 0]) (t := 28) ?hr ?_; (case hd => rfl); (case hg => rfl); (case hr => first | (go_simp; done) | (go_simp; rfl)); intro gb346 hg w31 hbox hb; have n0_ := am (blk_below (g := gb344) (o := .cells #[.slice A0_0 l0_0.length c0_0] 28 (0, 0)) zq56 hb); have n1_ := am (blk_below (g := gb345) (o := .cells #[.int .i64 a3_0, .int .i64 a3_1, .int .i64 a3_2] 72 (0, 0)) zq58 hb); have n2_ := am (below_step zq59 hb); have n3_ := am (hbox); have n4_ := am ((zq69 : w.heap.size ≤ gb346)); have n5_ := am ((zq69 : w.heap.size ≤ gb346)); have n6_ := am ((zq63 : gb344 ≠ gb346)); have n7_ := am ((zq64 : gb346 ≠ gb344)); have n8_ := am ((zq65 : gb345 ≠ gb346)); have n9_ := am ((zq66 : gb346 ≠ gb345)); clear BK344; clear BK345; clear HB; have BK344 := n0_; have BK345 := n1_; have HB := n2_; have BK346 := n3_; have GW346 := n4_; have GE346 := n5_; have NB344_346 := n6_; have NB346_344 := n7_; have NB345_346 := n8_; have NB346_345 := n9_; clear n0_ n1_ n2_ n3_ n4_ n5_ n6_ n7_ n8_ n9_; clear hb hbox hg; have hnb32 := NB344_345.out; have hnc32 := NB345_344.out; have hnb33 := NB344_346.out; have hnc33 := NB346_344.out; have hcz34_0 : w31.cell? ⟨gb344, 0, none⟩ = some (.slice A0_0 l0_0.length c0_0) := (blk_cell BK344.out 0).trans rfl; have hfz34_0 := blk_frozen BK344.out 0) | ((with_reducible refine gate_callee (f := 91) rfl ?_); refine goesL_ (some 11) rfl rfl Try.func91 zq17 rfl #[.agg #[.slice A0_0 l0_0.length c0_0]] rfl zq1 ?_; (with_reducible refine (spec_l2Program.calls k _ _ l0_0 true _ ?side1 ?side2 A5.out).mono ?_); (case side1 => repeat (first | exact (Kd.C_below HR0_0.out HB.out) | (with_reducible refine Kd.C_alloc ?_ _) | (with_reducible refine Kd.C_drewN ?_ _) | (with_reducible refine Kd.C_drew ?_))); (case side2 => exact HC0_0.out); rintro e w35 ⟨rfl, hb⟩; refine ⟨_, rfl, ?_⟩; have n0_ := am (blk_below (g := gb344) (o := .cells #[.slice A0_0 l0_0.length c0_0] 28 (0, 0)) zq56 hb); have n1_ := am (blk_below (g := gb345) (o := .cells #[.int .i64 a3_0, .int .i64 a3_1, .int .i64 a3_2] 72 (0, 0)) zq58 hb); have n2_ := am (blk_below (g := gb346) (o := .cells #[.slice none 0 0] 28 (0, 0)) zq61 hb); have n3_ := am (below_step zq57 hb); clear BK344; clear BK345; clear BK346; clear HB; have BK344 := n0_; have BK345 := n1_; have BK346 := n2_; have HB := n3_; clear n0_ n1_ n2_ n3_; (try clear hb); (try clear hb2); (try clear hk); (try clear hi); have hcz36_0 : w35.cell? ⟨gb344, 0, none⟩ = some (.slice A0_0 l0_0.length c0_0) := (blk_cell BK344.out 0).trans rfl; have hfz36_0 := blk_frozen BK344.out 0) | (go_at_call 92; (with_reducible refine (spec_l2Function.calls _ _ l0_0 a1 true _ ?side1 ?side2 A7.out).mono ?_); (case side1 => repeat (first | exact (Kd.C_below HR0_0.out HB.out) | (with_reducible refine Kd.C_alloc ?_ _) | (with_reducible refine Kd.C_drewN ?_ _) | (with_reducible refine Kd.C_drew ?_))); (case side2 => exact HC0_0.out); rintro e w37 ⟨rfl, hb⟩; have n0_ := am (blk_below (g := gb344) (o := .cells #[.slice A0_0 l0_0.length c0_0] 28 (0, 0)) zq56 hb); have n1_ := am (blk_below (g := gb345) (o := .cells #[.int .i64 a3_0, .int .i64 a3_1, .int .i64 a3_2] 72 (0, 0)) zq58 hb); have n2_ := am (blk_below (g := gb346) (o := .cells #[.slice none 0 0] 28 (0, 0)) zq61 hb); have n3_ := am (below_step zq57 hb); clear BK344; clear BK345; clear BK346; clear HB; have BK344 := n0_; have BK345 := n1_; have BK346 := n2_; have HB := n3_; clear n0_ n1_ n2_ n3_; (try clear hb); (try clear hb2); (try clear hk); (try clear hi); have hcz38_0 : w37.cell? ⟨gb344, 0, none⟩ = some (.slice A0_0 l0_0.length c0_0) := (blk_cell BK344.out 0).trans rfl; have hfz38_0 := blk_frozen BK344.out 0; have p349 : 0 ≤ (a1 : Int) := of_decide_eq_true zq15; have q349 : a1 < (l0_0.length : Int) := of_decide_eq_true zq15; obtain ⟨ad349, A349_0, c349_0, e349, hx349_0, hl349_0, hi349_0⟩ := at_L4 HR0_0.out a1 p349 q349; cases e349; replace hx349_0 := (HB.out.cell (World.block_lt_of_cell? w _ hx349_0)).trans hx349_0; have HR349_0 := am hi349_0; have HC349_0 := am hl349_0; clear hi349_0 hl349_0; replace p349 := eq_true p349; replace q349 := eq_true q349; have p350 : 0 ≤ (a1 : Int) := of_decide_eq_true zq15; have q350 : a1 < (l0_0.length : Int) := of_decide_eq_true zq15; obtain ⟨ad350, A350_0, c350_0, e350, hx350_0, hl350_0, hi350_0⟩ := at_L4 HR0_0.out a1 p350 q350; obtain rfl : ad349 = ad350 := (by injection e350); replace hx350_0 := (HB.out.cell (World.block_lt_of_cell? w _ hx350_0)).trans hx350_0; have HR350_0 := am hi350_0; have HC350_0 := am hl350_0; clear hi350_0 hl350_0; replace p350 := eq_true p350; replace q350 := eq_true q350; have ea_ := Option.some.inj (hx349_0.symm.trans hx350_0); injection ea_ with ea_ en_ ec_; subst ea_; subst ec_; clear en_) | (go_at_call 93; (with_reducible refine (spec_l1In.calls a2 0 ((rd_L4 l0_0 a1).length : Int) true _ A24.out).mono ?_); rintro e w' ⟨rfl, ⟨nd, rfl⟩⟩; (try (rw [drewN_self w37]; generalize hq_ : World.drewN w37 _ = w37; have n0_ : Aside0 (w37.heap[gb344]? = some (.cells #[.slice (some ad349) l0_0.length c0_0] 28 (0, 0))) := ⟨by rw [← hq_]; exact zq56⟩; have n1_ : Aside0 (w37.heap[gb345]? = some (.cells #[.int .i64 a3_0, .int .i64 a3_1, .int .i64 a3_2] 72 (0, 0))) := ⟨by rw [← hq_]; exact zq58⟩; have n2_ : Aside0 (w37.heap[gb346]? = some (.cells #[.slice none 0 0] 28 (0, 0))) := ⟨by rw [← hq_]; exact zq61⟩; have n3_ : Aside0 (Below w.heap.size w w37) := ⟨by rw [← hq_]; exact zq57⟩; clear BK344 BK345 BK346 HB hq_; have BK344 := n0_; have BK345 := n1_; have BK346 := n2_; have HB := n3_; clear n0_ n1_ n2_ n3_)); have hnb39 := NB345_346.out; have hnc39 := NB346_345.out; have hcz40_0 : w37.cell? ⟨gb345, 0, none⟩ = some (.int .i64 a3_0) := (blk_cell BK345.out 0).trans rfl; have hcz40_1 : w37.cell? ⟨gb345, 1, none⟩ = some (.int .i64 a3_1) := (blk_cell BK345.out 1).trans rfl; have hcz40_2 : w37.cell? ⟨gb345, 2, none⟩ = some (.int .i64 a3_2) := (blk_cell BK345.out 2).trans rfl; have hfz40_0 := blk_frozen BK345.out 0; have hfz40_1 := blk_frozen BK345.out 1; have hfz40_2 := blk_frozen BK345.out 2; (try (have hcy0_0 : w37.cell? ⟨gb344, 0, none⟩ = some (.slice (some ad349) l0_0.length c0_0) := (blk_cell BK344.out 0).trans rfl)); (try (have hcy2_0 : w37.cell? ⟨gb346, 0, none⟩ = some (.slice none 0 0) := (blk_cell BK346.out 0).trans rfl))) | (go_at_call 94; (with_reducible refine (spec_l2Step.calls k _ _ l0_0 a3_0 a3_1 a3_2 true _ ?side1 ?side2 A26.out).mono ?_); (case side1 => repeat (first | exact (Kd.C_below HR0_0.out HB.out) | (with_reducible refine Kd.C_alloc ?_ _) | (with_reducible refine Kd.C_drewN ?_ _) | (with_reducible refine Kd.C_drew ?_))); (case side2 => exact HC0_0.out); rintro e w41 ⟨rfl, hb⟩; have n0_ := am (blk_below (g := gb344) (o := .cells #[.slice (some ad349) l0_0.length c0_0] 28 (0, 0)) zq56 hb); have n1_ := am (blk_below (g := gb345) (o := .cells #[.int .i64 a3_0, .int .i64 a3_1, .int .i64 a3_2] 72 (0, 0)) zq58 hb); have n2_ := am (blk_below (g := gb346) (o := .cells #[.slice none 0 0] 28 (0, 0)) zq61 hb); have n3_ := am (below_step zq57 hb); clear BK344; clear BK345; clear BK346; clear HB; have BK344 := n0_; have BK345 := n1_; have BK346 := n2_; have HB := n3_; clear n0_ n1_ n2_ n3_; (try clear hb); (try clear hb2); (try clear hk); (try clear hi); have hcz42_0 : w41.cell? ⟨gb344, 0, none⟩ = some (.slice (some ad349) l0_0.length c0_0) := (blk_cell BK344.out 0).trans rfl; have hfz42_0 := blk_frozen BK344.out 0; have hcz43_0 : w41.cell? ⟨gb345, 0, none⟩ = some (.int .i64 a3_0) := (blk_cell BK345.out 0).trans rfl; have hcz43_1 : w41.cell? ⟨gb345, 1, none⟩ = some (.int .i64 a3_1) := (blk_cell BK345.out 1).trans rfl; have hcz43_2 : w41.cell? ⟨gb345, 2, none⟩ = some (.int .i64 a3_2) := (blk_cell BK345.out 2).trans rfl; have hfz43_0 := blk_frozen BK345.out 0; have hfz43_1 := blk_frozen BK345.out 1; have hfz43_2 := blk_frozen BK345.out 2) | ((with_reducible refine gate_callee (f := 95) rfl ?_); refine goesL_ (some 50) rfl rfl Try.func95 zq17 rfl #[.agg #[.slice (some ad349) l0_0.length c0_0], .int .i64 a1, .int .i64 a2, .agg #[.int .i64 a3_0, .int .i64 a3_1, .int .i64 a3_2]] rfl zq1 ?_; (with_reducible refine (spec_l2Put.calls _ _ l0_0 a1 a2 a3_0 a3_1 a3_2 t353 _ ?side1 ?side2 A28.out).mono ?_); (case side1 => repeat (first | exact (Kd.C_below HR0_0.out HB.out) | (with_reducible refine Kd.C_alloc ?_ _) | (with_reducible refine Kd.C_drewN ?_ _) | (with_reducible refine Kd.C_drew ?_))); (case side2 => exact HC0_0.out); rintro e w44 ⟨v354, rfl, ho0, hb⟩; refine ⟨_, rfl, ?_⟩; have n0_ := am (Kd.S_lower (Kd.S_newB ho0 (g := gb345) (o := .cells #[.int .i64 a3_0, .int .i64 a3_1, .int .i64 a3_2] 72 (0, 0)) zq58) (below_size zq57)); have n1_ := am (blk_below (g := gb344) (o := .cells #[.slice (some ad349) l0_0.length c0_0] 28 (0, 0)) zq56 hb); have n2_ := am (blk_below (g := gb345) (o := .cells #[.int .i64 a3_0, .int .i64 a3_1, .int .i64 a3_2] 72 (0, 0)) zq58 hb); have n3_ := am (blk_below (g := gb346) (o := .cells #[.slice none 0 0] 28 (0, 0)) zq61 hb); have n4_ := am (below_step zq57 hb); clear BK344; clear BK345; clear BK346; clear HB; have HO355 := n0_; have BK344 := n1_; have BK345 := n2_; have BK346 := n3_; have HB := n4_; clear n0_ n1_ n2_ n3_ n4_; (try clear hb); (try clear hb2); (try clear hk); (try clear hi); (try clear ho0); obtain ⟨Ao45, co45, eo45⟩ := Kd.S_slice HO355.out; subst eo45; have hcz46_0 : w44.cell? ⟨gb346, 0, none⟩ = some (.slice none 0 0) := (blk_cell BK346.out 0).trans rfl; have hfz46_0 := blk_frozen BK346.out 0))
        refine bodyPost_ret (results_ct rfl _ _ gb346 28 #[.slice Ao45 t353.length co45] (0, 0) _ rfl zq62 Try.underlying28 rfl zq17) rfl ?_
        exact ⟨_, zq8, by (with_reducible repeat (first | apply Kd.S_alloc | apply Kd.S_drewN | apply Kd.S_drew)); exact Kd.S_mono (Kd.S_far (p := ⟨gb346, 0, none⟩) (Kd.S_types HO355.out BK346.out zq74) (fun _ hk => hk.2) (.slice Ao45 t353.length co45)) (fun _ hk => trivial), zq57⟩
       ·replace c27 := Bool.eq_false_iff.mpr c27
        subst c27
        have H1 : (some (([] : List (List (S72))), false)) = some (r1, r2) := by rw [if_neg (show ¬ (false = true) by decide)] at H; exact H
        clear H
        have H := H1
        clear H1
        simp only [Option.some.injEq, Prod.mk.injEq] at H
        obtain ⟨rfl, rfl⟩ := H
        go_enter Try.func47, Try.ntmps47
        go_wp2_with (first | ((with_reducible refine gate_dst (N := 4) rfl ?_); (try (refine gate_guard (by rfl) ?_; dsimp only)); refine box_event ?hg (N := 4) ?hd (cs := #[.slice A0_0 l0_0.length c0_0]) (t := 28) ?hr ?_; (case hd => rfl); (case hg => rfl); (case hr => first | (go_simp; done) | (go_simp; rfl)); intro gb344 hg w47 hbox hb; have n0_ := am (below_step zq0 hb); have n1_ := am (hbox); have n2_ := am ((zq12 : w.heap.size ≤ gb344)); have n3_ := am ((zq12 : w.heap.size ≤ gb344)); clear HB; have HB := n0_; have BK344 := n1_; have GW344 := n2_; have GE344 := n3_; clear n0_ n1_ n2_ n3_; clear hb hbox hg) | ((with_reducible refine gate_dst (N := 7) rfl ?_); (try (refine gate_guard (by rfl) ?_; dsimp only)); refine box_event ?hg (N := 7) ?hd (cs := #[.int .i64 a3_0, .int .i64 a3_1, .int .i64 a3_2]) (t := 72) ?hr ?_; (case hd => rfl); (case hg => rfl); (case hr => first | (go_simp; done) | (go_simp; rfl)); intro gb345 hg w48 hbox hb; have n0_ := am (blk_below (g := gb344) (o := .cells #[.slice A0_0 l0_0.length c0_0] 28 (0, 0)) zq56 hb); have n1_ := am (below_step zq60 hb); have n2_ := am (hbox); have n3_ := am ((zq68 : w.heap.size ≤ gb345)); have n4_ := am ((zq68 : w.heap.size ≤ gb345)); have n5_ := am ((zq63 : gb344 ≠ gb345)); have n6_ := am ((zq64 : gb345 ≠ gb344)); clear BK344; clear HB; have BK344 := n0_; have HB := n1_; have BK345 := n2_; have GW345 := n3_; have GE345 := n4_; have NB344_345 := n5_; have NB345_344 := n6_; clear n0_ n1_ n2_ n3_ n4_ n5_ n6_; clear hb hbox hg) | ((with_reducible refine gate_dst (N := 8) rfl ?_); (try (refine gate_guard (by rfl) ?_; dsimp only)); refine box_event ?hg (N := 8) ?hd (cs := #[.slice none 0 0]) (t := 28) ?hr ?_; (case hd => rfl); (case hg => rfl); (case hr => first | (go_simp; done) | (go_simp; rfl)); intro gb346 hg w49 hbox hb; have n0_ := am (blk_below (g := gb344) (o := .cells #[.slice A0_0 l0_0.length c0_0] 28 (0, 0)) zq56 hb); have n1_ := am (blk_below (g := gb345) (o := .cells #[.int .i64 a3_0, .int .i64 a3_1, .int .i64 a3_2] 72 (0, 0)) zq58 hb); have n2_ := am (below_step zq59 hb); have n3_ := am (hbox); have n4_ := am ((zq69 : w.heap.size ≤ gb346)); have n5_ := am ((zq69 : w.heap.size ≤ gb346)); have n6_ := am ((zq63 : gb344 ≠ gb346)); have n7_ := am ((zq64 : gb346 ≠ gb344)); have n8_ := am ((zq65 : gb345 ≠ gb346)); have n9_ := am ((zq66 : gb346 ≠ gb345)); clear BK344; clear BK345; clear HB; have BK344 := n0_; have BK345 := n1_; have HB := n2_; have BK346 := n3_; have GW346 := n4_; have GE346 := n5_; have NB344_346 := n6_; have NB346_344 := n7_; have NB345_346 := n8_; have NB346_345 := n9_; clear n0_ n1_ n2_ n3_ n4_ n5_ n6_ n7_ n8_ n9_; clear hb hbox hg; have hnb50 := NB344_345.out; have hnc50 := NB345_344.out; have hnb51 := NB344_346.out; have hnc51 := NB346_344.out; have hcz52_0 : w49.cell? ⟨gb344, 0, none⟩ = some (.slice A0_0 l0_0.length c0_0) := (blk_cell BK344.out 0).trans rfl; have hfz52_0 := blk_frozen BK344.out 0) | ((with_reducible refine gate_callee (f := 91) rfl ?_); refine goesL_ (some 11) rfl rfl Try.func91 zq17 rfl #[.agg #[.slice A0_0 l0_0.length c0_0]] rfl zq1 ?_; (with_reducible refine (spec_l2Program.calls k _ _ l0_0 true _ ?side1 ?side2 A5.out).mono ?_); (case side1 => repeat (first | exact (Kd.C_below HR0_0.out HB.out) | (with_reducible refine Kd.C_alloc ?_ _) | (with_reducible refine Kd.C_drewN ?_ _) | (with_reducible refine Kd.C_drew ?_))); (case side2 => exact HC0_0.out); rintro e w53 ⟨rfl, hb⟩; refine ⟨_, rfl, ?_⟩; have n0_ := am (blk_below (g := gb344) (o := .cells #[.slice A0_0 l0_0.length c0_0] 28 (0, 0)) zq56 hb); have n1_ := am (blk_below (g := gb345) (o := .cells #[.int .i64 a3_0, .int .i64 a3_1, .int .i64 a3_2] 72 (0, 0)) zq58 hb); have n2_ := am (blk_below (g := gb346) (o := .cells #[.slice none 0 0] 28 (0, 0)) zq61 hb); have n3_ := am (below_step zq57 hb); clear BK344; clear BK345; clear BK346; clear HB; have BK344 := n0_; have BK345 := n1_; have BK346 := n2_; have HB := n3_; clear n0_ n1_ n2_ n3_; (try clear hb); (try clear hb2); (try clear hk); (try clear hi); have hcz54_0 : w53.cell? ⟨gb344, 0, none⟩ = some (.slice A0_0 l0_0.length c0_0) := (blk_cell BK344.out 0).trans rfl; have hfz54_0 := blk_frozen BK344.out 0) | (go_at_call 92; (with_reducible refine (spec_l2Function.calls _ _ l0_0 a1 true _ ?side1 ?side2 A7.out).mono ?_); (case side1 => repeat (first | exact (Kd.C_below HR0_0.out HB.out) | (with_reducible refine Kd.C_alloc ?_ _) | (with_reducible refine Kd.C_drewN ?_ _) | (with_reducible refine Kd.C_drew ?_))); (case side2 => exact HC0_0.out); rintro e w55 ⟨rfl, hb⟩; have n0_ := am (blk_below (g := gb344) (o := .cells #[.slice A0_0 l0_0.length c0_0] 28 (0, 0)) zq56 hb); have n1_ := am (blk_below (g := gb345) (o := .cells #[.int .i64 a3_0, .int .i64 a3_1, .int .i64 a3_2] 72 (0, 0)) zq58 hb); have n2_ := am (blk_below (g := gb346) (o := .cells #[.slice none 0 0] 28 (0, 0)) zq61 hb); have n3_ := am (below_step zq57 hb); clear BK344; clear BK345; clear BK346; clear HB; have BK344 := n0_; have BK345 := n1_; have BK346 := n2_; have HB := n3_; clear n0_ n1_ n2_ n3_; (try clear hb); (try clear hb2); (try clear hk); (try clear hi); have hcz56_0 : w55.cell? ⟨gb344, 0, none⟩ = some (.slice A0_0 l0_0.length c0_0) := (blk_cell BK344.out 0).trans rfl; have hfz56_0 := blk_frozen BK344.out 0; have p349 : 0 ≤ (a1 : Int) := of_decide_eq_true zq15; have q349 : a1 < (l0_0.length : Int) := of_decide_eq_true zq15; obtain ⟨ad349, A349_0, c349_0, e349, hx349_0, hl349_0, hi349_0⟩ := at_L4 HR0_0.out a1 p349 q349; cases e349; replace hx349_0 := (HB.out.cell (World.block_lt_of_cell? w _ hx349_0)).trans hx349_0; have HR349_0 := am hi349_0; have HC349_0 := am hl349_0; clear hi349_0 hl349_0; replace p349 := eq_true p349; replace q349 := eq_true q349; have p350 : 0 ≤ (a1 : Int) := of_decide_eq_true zq15; have q350 : a1 < (l0_0.length : Int) := of_decide_eq_true zq15; obtain ⟨ad350, A350_0, c350_0, e350, hx350_0, hl350_0, hi350_0⟩ := at_L4 HR0_0.out a1 p350 q350; obtain rfl : ad349 = ad350 := (by injection e350); replace hx350_0 := (HB.out.cell (World.block_lt_of_cell? w _ hx350_0)).trans hx350_0; have HR350_0 := am hi350_0; have HC350_0 := am hl350_0; clear hi350_0 hl350_0; replace p350 := eq_true p350; replace q350 := eq_true q350; have ea_ := Option.some.inj (hx349_0.symm.trans hx350_0); injection ea_ with ea_ en_ ec_; subst ea_; subst ec_; clear en_) | (go_at_call 93; (with_reducible refine (spec_l1In.calls a2 0 ((rd_L4 l0_0 a1).length : Int) true _ A24.out).mono ?_); rintro e w' ⟨rfl, ⟨nd, rfl⟩⟩; (try (rw [drewN_self w55]; generalize hq_ : World.drewN w55 _ = w55; have n0_ : Aside0 (w55.heap[gb344]? = some (.cells #[.slice (some ad349) l0_0.length c0_0] 28 (0, 0))) := ⟨by rw [← hq_]; exact zq56⟩; have n1_ : Aside0 (w55.heap[gb345]? = some (.cells #[.int .i64 a3_0, .int .i64 a3_1, .int .i64 a3_2] 72 (0, 0))) := ⟨by rw [← hq_]; exact zq58⟩; have n2_ : Aside0 (w55.heap[gb346]? = some (.cells #[.slice none 0 0] 28 (0, 0))) := ⟨by rw [← hq_]; exact zq61⟩; have n3_ : Aside0 (Below w.heap.size w w55) := ⟨by rw [← hq_]; exact zq57⟩; clear BK344 BK345 BK346 HB hq_; have BK344 := n0_; have BK345 := n1_; have BK346 := n2_; have HB := n3_; clear n0_ n1_ n2_ n3_)); have hnb57 := NB345_346.out; have hnc57 := NB346_345.out; have hcz58_0 : w55.cell? ⟨gb345, 0, none⟩ = some (.int .i64 a3_0) := (blk_cell BK345.out 0).trans rfl; have hcz58_1 : w55.cell? ⟨gb345, 1, none⟩ = some (.int .i64 a3_1) := (blk_cell BK345.out 1).trans rfl; have hcz58_2 : w55.cell? ⟨gb345, 2, none⟩ = some (.int .i64 a3_2) := (blk_cell BK345.out 2).trans rfl; have hfz58_0 := blk_frozen BK345.out 0; have hfz58_1 := blk_frozen BK345.out 1; have hfz58_2 := blk_frozen BK345.out 2; (try (have hcy0_0 : w55.cell? ⟨gb344, 0, none⟩ = some (.slice (some ad349) l0_0.length c0_0) := (blk_cell BK344.out 0).trans rfl)); (try (have hcy2_0 : w55.cell? ⟨gb346, 0, none⟩ = some (.slice none 0 0) := (blk_cell BK346.out 0).trans rfl))) | (go_at_call 94; (with_reducible refine (spec_l2Step.calls k _ _ l0_0 a3_0 a3_1 a3_2 false _ ?side1 ?side2 A26.out).mono ?_); (case side1 => repeat (first | exact (Kd.C_below HR0_0.out HB.out) | (with_reducible refine Kd.C_alloc ?_ _) | (with_reducible refine Kd.C_drewN ?_ _) | (with_reducible refine Kd.C_drew ?_))); (case side2 => exact HC0_0.out); rintro e w59 ⟨rfl, hb⟩; have n0_ := am (blk_below (g := gb344) (o := .cells #[.slice (some ad349) l0_0.length c0_0] 28 (0, 0)) zq56 hb); have n1_ := am (blk_below (g := gb345) (o := .cells #[.int .i64 a3_0, .int .i64 a3_1, .int .i64 a3_2] 72 (0, 0)) zq58 hb); have n2_ := am (blk_below (g := gb346) (o := .cells #[.slice none 0 0] 28 (0, 0)) zq61 hb); have n3_ := am (below_step zq57 hb); clear BK344; clear BK345; clear BK346; clear HB; have BK344 := n0_; have BK345 := n1_; have BK346 := n2_; have HB := n3_; clear n0_ n1_ n2_ n3_; (try clear hb); (try clear hb2); (try clear hk); (try clear hi); have hcz60_0 : w59.cell? ⟨gb346, 0, none⟩ = some (.slice none 0 0) := (blk_cell BK346.out 0).trans rfl; have hfz60_0 := blk_frozen BK346.out 0))
        refine bodyPost_ret (results_ct rfl _ _ gb346 28 #[.slice none 0 0] (0, 0) _ rfl zq62 Try.underlying28 rfl zq17) rfl ?_
        exact ⟨_, zq8, zq67, zq57⟩
      ·replace c25 := Bool.eq_false_iff.mpr c25
       subst c25
       have H1 : (some (([] : List (List (S72))), false)) = some (r1, r2) := by rw [if_neg (show ¬ (false = true) by decide)] at H; exact H
       clear H
       have H := H1
       clear H1
       simp only [Option.some.injEq, Prod.mk.injEq] at H
       obtain ⟨rfl, rfl⟩ := H
       go_enter Try.func47, Try.ntmps47
       go_wp2_with (first | ((with_reducible refine gate_dst (N := 4) rfl ?_); (try (refine gate_guard (by rfl) ?_; dsimp only)); refine box_event ?hg (N := 4) ?hd (cs := #[.slice A0_0 l0_0.length c0_0]) (t := 28) ?hr ?_; (case hd => rfl); (case hg => rfl); (case hr => first | (go_simp; done) | (go_simp; rfl)); intro gb344 hg w61 hbox hb; have n0_ := am (below_step zq0 hb); have n1_ := am (hbox); have n2_ := am ((zq12 : w.heap.size ≤ gb344)); have n3_ := am ((zq12 : w.heap.size ≤ gb344)); clear HB; have HB := n0_; have BK344 := n1_; have GW344 := n2_; have GE344 := n3_; clear n0_ n1_ n2_ n3_; clear hb hbox hg) | ((with_reducible refine gate_dst (N := 7) rfl ?_); (try (refine gate_guard (by rfl) ?_; dsimp only)); refine box_event ?hg (N := 7) ?hd (cs := #[.int .i64 a3_0, .int .i64 a3_1, .int .i64 a3_2]) (t := 72) ?hr ?_; (case hd => rfl); (case hg => rfl); (case hr => first | (go_simp; done) | (go_simp; rfl)); intro gb345 hg w62 hbox hb; have n0_ := am (blk_below (g := gb344) (o := .cells #[.slice A0_0 l0_0.length c0_0] 28 (0, 0)) zq56 hb); have n1_ := am (below_step zq60 hb); have n2_ := am (hbox); have n3_ := am ((zq68 : w.heap.size ≤ gb345)); have n4_ := am ((zq68 : w.heap.size ≤ gb345)); have n5_ := am ((zq63 : gb344 ≠ gb345)); have n6_ := am ((zq64 : gb345 ≠ gb344)); clear BK344; clear HB; have BK344 := n0_; have HB := n1_; have BK345 := n2_; have GW345 := n3_; have GE345 := n4_; have NB344_345 := n5_; have NB345_344 := n6_; clear n0_ n1_ n2_ n3_ n4_ n5_ n6_; clear hb hbox hg) | ((with_reducible refine gate_dst (N := 8) rfl ?_); (try (refine gate_guard (by rfl) ?_; dsimp only)); refine box_event ?hg (N := 8) ?hd (cs := #[.slice none 0 0]) (t := 28) ?hr ?_; (case hd => rfl); (case hg => rfl); (case hr => first | (go_simp; done) | (go_simp; rfl)); intro gb346 hg w63 hbox hb; have n0_ := am (blk_below (g := gb344) (o := .cells #[.slice A0_0 l0_0.length c0_0] 28 (0, 0)) zq56 hb); have n1_ := am (blk_below (g := gb345) (o := .cells #[.int .i64 a3_0, .int .i64 a3_1, .int .i64 a3_2] 72 (0, 0)) zq58 hb); have n2_ := am (below_step zq59 hb); have n3_ := am (hbox); have n4_ := am ((zq69 : w.heap.size ≤ gb346)); have n5_ := am ((zq69 : w.heap.size ≤ gb346)); have n6_ := am ((zq63 : gb344 ≠ gb346)); have n7_ := am ((zq64 : gb346 ≠ gb344)); have n8_ := am ((zq65 : gb345 ≠ gb346)); have n9_ := am ((zq66 : gb346 ≠ gb345)); clear BK344; clear BK345; clear HB; have BK344 := n0_; have BK345 := n1_; have HB := n2_; have BK346 := n3_; have GW346 := n4_; have GE346 := n5_; have NB344_346 := n6_; have NB346_344 := n7_; have NB345_346 := n8_; have NB346_345 := n9_; clear n0_ n1_ n2_ n3_ n4_ n5_ n6_ n7_ n8_ n9_; clear hb hbox hg; have hnb64 := NB344_345.out; have hnc64 := NB345_344.out; have hnb65 := NB344_346.out; have hnc65 := NB346_344.out; have hcz66_0 : w63.cell? ⟨gb344, 0, none⟩ = some (.slice A0_0 l0_0.length c0_0) := (blk_cell BK344.out 0).trans rfl; have hfz66_0 := blk_frozen BK344.out 0) | ((with_reducible refine gate_callee (f := 91) rfl ?_); refine goesL_ (some 11) rfl rfl Try.func91 zq17 rfl #[.agg #[.slice A0_0 l0_0.length c0_0]] rfl zq1 ?_; (with_reducible refine (spec_l2Program.calls k _ _ l0_0 true _ ?side1 ?side2 A5.out).mono ?_); (case side1 => repeat (first | exact (Kd.C_below HR0_0.out HB.out) | (with_reducible refine Kd.C_alloc ?_ _) | (with_reducible refine Kd.C_drewN ?_ _) | (with_reducible refine Kd.C_drew ?_))); (case side2 => exact HC0_0.out); rintro e w67 ⟨rfl, hb⟩; refine ⟨_, rfl, ?_⟩; have n0_ := am (blk_below (g := gb344) (o := .cells #[.slice A0_0 l0_0.length c0_0] 28 (0, 0)) zq56 hb); have n1_ := am (blk_below (g := gb345) (o := .cells #[.int .i64 a3_0, .int .i64 a3_1, .int .i64 a3_2] 72 (0, 0)) zq58 hb); have n2_ := am (blk_below (g := gb346) (o := .cells #[.slice none 0 0] 28 (0, 0)) zq61 hb); have n3_ := am (below_step zq57 hb); clear BK344; clear BK345; clear BK346; clear HB; have BK344 := n0_; have BK345 := n1_; have BK346 := n2_; have HB := n3_; clear n0_ n1_ n2_ n3_; (try clear hb); (try clear hb2); (try clear hk); (try clear hi); have hcz68_0 : w67.cell? ⟨gb344, 0, none⟩ = some (.slice A0_0 l0_0.length c0_0) := (blk_cell BK344.out 0).trans rfl; have hfz68_0 := blk_frozen BK344.out 0) | (go_at_call 92; (with_reducible refine (spec_l2Function.calls _ _ l0_0 a1 true _ ?side1 ?side2 A7.out).mono ?_); (case side1 => repeat (first | exact (Kd.C_below HR0_0.out HB.out) | (with_reducible refine Kd.C_alloc ?_ _) | (with_reducible refine Kd.C_drewN ?_ _) | (with_reducible refine Kd.C_drew ?_))); (case side2 => exact HC0_0.out); rintro e w69 ⟨rfl, hb⟩; have n0_ := am (blk_below (g := gb344) (o := .cells #[.slice A0_0 l0_0.length c0_0] 28 (0, 0)) zq56 hb); have n1_ := am (blk_below (g := gb345) (o := .cells #[.int .i64 a3_0, .int .i64 a3_1, .int .i64 a3_2] 72 (0, 0)) zq58 hb); have n2_ := am (blk_below (g := gb346) (o := .cells #[.slice none 0 0] 28 (0, 0)) zq61 hb); have n3_ := am (below_step zq57 hb); clear BK344; clear BK345; clear BK346; clear HB; have BK344 := n0_; have BK345 := n1_; have BK346 := n2_; have HB := n3_; clear n0_ n1_ n2_ n3_; (try clear hb); (try clear hb2); (try clear hk); (try clear hi); have hcz70_0 : w69.cell? ⟨gb344, 0, none⟩ = some (.slice A0_0 l0_0.length c0_0) := (blk_cell BK344.out 0).trans rfl; have hfz70_0 := blk_frozen BK344.out 0; have p349 : 0 ≤ (a1 : Int) := of_decide_eq_true zq15; have q349 : a1 < (l0_0.length : Int) := of_decide_eq_true zq15; obtain ⟨ad349, A349_0, c349_0, e349, hx349_0, hl349_0, hi349_0⟩ := at_L4 HR0_0.out a1 p349 q349; cases e349; replace hx349_0 := (HB.out.cell (World.block_lt_of_cell? w _ hx349_0)).trans hx349_0; have HR349_0 := am hi349_0; have HC349_0 := am hl349_0; clear hi349_0 hl349_0; replace p349 := eq_true p349; replace q349 := eq_true q349; have p350 : 0 ≤ (a1 : Int) := of_decide_eq_true zq15; have q350 : a1 < (l0_0.length : Int) := of_decide_eq_true zq15; obtain ⟨ad350, A350_0, c350_0, e350, hx350_0, hl350_0, hi350_0⟩ := at_L4 HR0_0.out a1 p350 q350; obtain rfl : ad349 = ad350 := (by injection e350); replace hx350_0 := (HB.out.cell (World.block_lt_of_cell? w _ hx350_0)).trans hx350_0; have HR350_0 := am hi350_0; have HC350_0 := am hl350_0; clear hi350_0 hl350_0; replace p350 := eq_true p350; replace q350 := eq_true q350; have ea_ := Option.some.inj (hx349_0.symm.trans hx350_0); injection ea_ with ea_ en_ ec_; subst ea_; subst ec_; clear en_) | (go_at_call 93; (with_reducible refine (spec_l1In.calls a2 0 ((rd_L4 l0_0 a1).length : Int) false _ A24.out).mono ?_); rintro e w' ⟨rfl, ⟨nd, rfl⟩⟩; (try (rw [drewN_self w69]; generalize hq_ : World.drewN w69 _ = w69; have n0_ : Aside0 (w69.heap[gb344]? = some (.cells #[.slice (some ad349) l0_0.length c0_0] 28 (0, 0))) := ⟨by rw [← hq_]; exact zq56⟩; have n1_ : Aside0 (w69.heap[gb345]? = some (.cells #[.int .i64 a3_0, .int .i64 a3_1, .int .i64 a3_2] 72 (0, 0))) := ⟨by rw [← hq_]; exact zq58⟩; have n2_ : Aside0 (w69.heap[gb346]? = some (.cells #[.slice none 0 0] 28 (0, 0))) := ⟨by rw [← hq_]; exact zq61⟩; have n3_ : Aside0 (Below w.heap.size w w69) := ⟨by rw [← hq_]; exact zq57⟩; clear BK344 BK345 BK346 HB hq_; have BK344 := n0_; have BK345 := n1_; have BK346 := n2_; have HB := n3_; clear n0_ n1_ n2_ n3_)); have hnb71 := NB346_345.out; have hnc71 := NB345_346.out; have hcz72_0 : w69.cell? ⟨gb346, 0, none⟩ = some (.slice none 0 0) := (blk_cell BK346.out 0).trans rfl; have hfz72_0 := blk_frozen BK346.out 0; (try (have hcy0_0 : w69.cell? ⟨gb344, 0, none⟩ = some (.slice (some ad349) l0_0.length c0_0) := (blk_cell BK344.out 0).trans rfl)); (try (have hcy1_0 : w69.cell? ⟨gb345, 0, none⟩ = some (.int .i64 a3_0) := (blk_cell BK345.out 0).trans rfl)); (try (have hcy1_1 : w69.cell? ⟨gb345, 1, none⟩ = some (.int .i64 a3_1) := (blk_cell BK345.out 1).trans rfl)); (try (have hcy1_2 : w69.cell? ⟨gb345, 2, none⟩ = some (.int .i64 a3_2) := (blk_cell BK345.out 2).trans rfl))))
       refine bodyPost_ret (results_ct rfl _ _ gb346 28 #[.slice none 0 0] (0, 0) _ rfl zq62 Try.underlying28 rfl zq17) rfl ?_
       exact ⟨_, zq8, zq67, zq57⟩
    ·rw [if_neg c10] at H
     exact absurd H (by simp)
   ·rw [if_neg c9] at H
    exact absurd H (by simp)
  ·replace c8 := Bool.eq_false_iff.mpr c8
   subst c8
   have H1 : (some (([] : List (List (S72))), false)) = some (r1, r2) := by rw [if_neg (show ¬ (false = true) by decide)] at H; exact H
   clear H
   have H := H1
   clear H1
   simp only [Option.some.injEq, Prod.mk.injEq] at H
   obtain ⟨rfl, rfl⟩ := H
   go_enter Try.func47, Try.ntmps47
   go_wp2_with (first | ((with_reducible refine gate_dst (N := 4) rfl ?_); (try (refine gate_guard (by rfl) ?_; dsimp only)); refine box_event ?hg (N := 4) ?hd (cs := #[.slice A0_0 l0_0.length c0_0]) (t := 28) ?hr ?_; (case hd => rfl); (case hg => rfl); (case hr => first | (go_simp; done) | (go_simp; rfl)); intro gb344 hg w73 hbox hb; have n0_ := am (below_step zq0 hb); have n1_ := am (hbox); have n2_ := am ((zq12 : w.heap.size ≤ gb344)); have n3_ := am ((zq12 : w.heap.size ≤ gb344)); clear HB; have HB := n0_; have BK344 := n1_; have GW344 := n2_; have GE344 := n3_; clear n0_ n1_ n2_ n3_; clear hb hbox hg) | ((with_reducible refine gate_dst (N := 7) rfl ?_); (try (refine gate_guard (by rfl) ?_; dsimp only)); refine box_event ?hg (N := 7) ?hd (cs := #[.int .i64 a3_0, .int .i64 a3_1, .int .i64 a3_2]) (t := 72) ?hr ?_; (case hd => rfl); (case hg => rfl); (case hr => first | (go_simp; done) | (go_simp; rfl)); intro gb345 hg w74 hbox hb; have n0_ := am (blk_below (g := gb344) (o := .cells #[.slice A0_0 l0_0.length c0_0] 28 (0, 0)) zq56 hb); have n1_ := am (below_step zq60 hb); have n2_ := am (hbox); have n3_ := am ((zq68 : w.heap.size ≤ gb345)); have n4_ := am ((zq68 : w.heap.size ≤ gb345)); have n5_ := am ((zq63 : gb344 ≠ gb345)); have n6_ := am ((zq64 : gb345 ≠ gb344)); clear BK344; clear HB; have BK344 := n0_; have HB := n1_; have BK345 := n2_; have GW345 := n3_; have GE345 := n4_; have NB344_345 := n5_; have NB345_344 := n6_; clear n0_ n1_ n2_ n3_ n4_ n5_ n6_; clear hb hbox hg) | ((with_reducible refine gate_dst (N := 8) rfl ?_); (try (refine gate_guard (by rfl) ?_; dsimp only)); refine box_event ?hg (N := 8) ?hd (cs := #[.slice none 0 0]) (t := 28) ?hr ?_; (case hd => rfl); (case hg => rfl); (case hr => first | (go_simp; done) | (go_simp; rfl)); intro gb346 hg w75 hbox hb; have n0_ := am (blk_below (g := gb344) (o := .cells #[.slice A0_0 l0_0.length c0_0] 28 (0, 0)) zq56 hb); have n1_ := am (blk_below (g := gb345) (o := .cells #[.int .i64 a3_0, .int .i64 a3_1, .int .i64 a3_2] 72 (0, 0)) zq58 hb); have n2_ := am (below_step zq59 hb); have n3_ := am (hbox); have n4_ := am ((zq69 : w.heap.size ≤ gb346)); have n5_ := am ((zq69 : w.heap.size ≤ gb346)); have n6_ := am ((zq63 : gb344 ≠ gb346)); have n7_ := am ((zq64 : gb346 ≠ gb344)); have n8_ := am ((zq65 : gb345 ≠ gb346)); have n9_ := am ((zq66 : gb346 ≠ gb345)); clear BK344; clear BK345; clear HB; have BK344 := n0_; have BK345 := n1_; have HB := n2_; have BK346 := n3_; have GW346 := n4_; have GE346 := n5_; have NB344_346 := n6_; have NB346_344 := n7_; have NB345_346 := n8_; have NB346_345 := n9_; clear n0_ n1_ n2_ n3_ n4_ n5_ n6_ n7_ n8_ n9_; clear hb hbox hg; have hnb76 := NB344_345.out; have hnc76 := NB345_344.out; have hnb77 := NB344_346.out; have hnc77 := NB346_344.out; have hcz78_0 : w75.cell? ⟨gb344, 0, none⟩ = some (.slice A0_0 l0_0.length c0_0) := (blk_cell BK344.out 0).trans rfl; have hfz78_0 := blk_frozen BK344.out 0) | ((with_reducible refine gate_callee (f := 91) rfl ?_); refine goesL_ (some 11) rfl rfl Try.func91 zq17 rfl #[.agg #[.slice A0_0 l0_0.length c0_0]] rfl zq1 ?_; (with_reducible refine (spec_l2Program.calls k _ _ l0_0 true _ ?side1 ?side2 A5.out).mono ?_); (case side1 => repeat (first | exact (Kd.C_below HR0_0.out HB.out) | (with_reducible refine Kd.C_alloc ?_ _) | (with_reducible refine Kd.C_drewN ?_ _) | (with_reducible refine Kd.C_drew ?_))); (case side2 => exact HC0_0.out); rintro e w79 ⟨rfl, hb⟩; refine ⟨_, rfl, ?_⟩; have n0_ := am (blk_below (g := gb344) (o := .cells #[.slice A0_0 l0_0.length c0_0] 28 (0, 0)) zq56 hb); have n1_ := am (blk_below (g := gb345) (o := .cells #[.int .i64 a3_0, .int .i64 a3_1, .int .i64 a3_2] 72 (0, 0)) zq58 hb); have n2_ := am (blk_below (g := gb346) (o := .cells #[.slice none 0 0] 28 (0, 0)) zq61 hb); have n3_ := am (below_step zq57 hb); clear BK344; clear BK345; clear BK346; clear HB; have BK344 := n0_; have BK345 := n1_; have BK346 := n2_; have HB := n3_; clear n0_ n1_ n2_ n3_; (try clear hb); (try clear hb2); (try clear hk); (try clear hi); have hcz80_0 : w79.cell? ⟨gb344, 0, none⟩ = some (.slice A0_0 l0_0.length c0_0) := (blk_cell BK344.out 0).trans rfl; have hfz80_0 := blk_frozen BK344.out 0) | (go_at_call 92; (with_reducible refine (spec_l2Function.calls _ _ l0_0 a1 false _ ?side1 ?side2 A7.out).mono ?_); (case side1 => repeat (first | exact (Kd.C_below HR0_0.out HB.out) | (with_reducible refine Kd.C_alloc ?_ _) | (with_reducible refine Kd.C_drewN ?_ _) | (with_reducible refine Kd.C_drew ?_))); (case side2 => exact HC0_0.out); rintro e w81 ⟨rfl, hb⟩; have n0_ := am (blk_below (g := gb344) (o := .cells #[.slice A0_0 l0_0.length c0_0] 28 (0, 0)) zq56 hb); have n1_ := am (blk_below (g := gb345) (o := .cells #[.int .i64 a3_0, .int .i64 a3_1, .int .i64 a3_2] 72 (0, 0)) zq58 hb); have n2_ := am (blk_below (g := gb346) (o := .cells #[.slice none 0 0] 28 (0, 0)) zq61 hb); have n3_ := am (below_step zq57 hb); clear BK344; clear BK345; clear BK346; clear HB; have BK344 := n0_; have BK345 := n1_; have BK346 := n2_; have HB := n3_; clear n0_ n1_ n2_ n3_; (try clear hb); (try clear hb2); (try clear hk); (try clear hi); have hnb82 := NB346_345.out; have hnc82 := NB345_346.out; have hcz83_0 : w81.cell? ⟨gb346, 0, none⟩ = some (.slice none 0 0) := (blk_cell BK346.out 0).trans rfl; have hfz83_0 := blk_frozen BK346.out 0))
   refine bodyPost_ret (results_ct rfl _ _ gb346 28 #[.slice none 0 0] (0, 0) _ rfl zq62 Try.underlying28 rfl zq17) rfl ?_
   exact ⟨_, zq8, zq67, zq57⟩
 ·replace c6 := Bool.eq_false_iff.mpr c6
  subst c6
  have H1 : (some (([] : List (List (S72))), false)) = some (r1, r2) := by rw [if_neg (show ¬ (false = true) by decide)] at H; exact H
  clear H
  have H := H1
  clear H1
  simp only [Option.some.injEq, Prod.mk.injEq] at H
  obtain ⟨rfl, rfl⟩ := H
  go_enter Try.func47, Try.ntmps47
  go_wp2_with (first | ((with_reducible refine gate_dst (N := 4) rfl ?_); (try (refine gate_guard (by rfl) ?_; dsimp only)); refine box_event ?hg (N := 4) ?hd (cs := #[.slice A0_0 l0_0.length c0_0]) (t := 28) ?hr ?_; (case hd => rfl); (case hg => rfl); (case hr => first | (go_simp; done) | (go_simp; rfl)); intro gb344 hg w84 hbox hb; have n0_ := am (below_step zq0 hb); have n1_ := am (hbox); have n2_ := am ((zq12 : w.heap.size ≤ gb344)); have n3_ := am ((zq12 : w.heap.size ≤ gb344)); clear HB; have HB := n0_; have BK344 := n1_; have GW344 := n2_; have GE344 := n3_; clear n0_ n1_ n2_ n3_; clear hb hbox hg) | ((with_reducible refine gate_dst (N := 7) rfl ?_); (try (refine gate_guard (by rfl) ?_; dsimp only)); refine box_event ?hg (N := 7) ?hd (cs := #[.int .i64 a3_0, .int .i64 a3_1, .int .i64 a3_2]) (t := 72) ?hr ?_; (case hd => rfl); (case hg => rfl); (case hr => first | (go_simp; done) | (go_simp; rfl)); intro gb345 hg w85 hbox hb; have n0_ := am (blk_below (g := gb344) (o := .cells #[.slice A0_0 l0_0.length c0_0] 28 (0, 0)) zq56 hb); have n1_ := am (below_step zq60 hb); have n2_ := am (hbox); have n3_ := am ((zq68 : w.heap.size ≤ gb345)); have n4_ := am ((zq68 : w.heap.size ≤ gb345)); have n5_ := am ((zq63 : gb344 ≠ gb345)); have n6_ := am ((zq64 : gb345 ≠ gb344)); clear BK344; clear HB; have BK344 := n0_; have HB := n1_; have BK345 := n2_; have GW345 := n3_; have GE345 := n4_; have NB344_345 := n5_; have NB345_344 := n6_; clear n0_ n1_ n2_ n3_ n4_ n5_ n6_; clear hb hbox hg) | ((with_reducible refine gate_dst (N := 8) rfl ?_); (try (refine gate_guard (by rfl) ?_; dsimp only)); refine box_event ?hg (N := 8) ?hd (cs := #[.slice none 0 0]) (t := 28) ?hr ?_; (case hd => rfl); (case hg => rfl); (case hr => first | (go_simp; done) | (go_simp; rfl)); intro gb346 hg w86 hbox hb; have n0_ := am (blk_below (g := gb344) (o := .cells #[.slice A0_0 l0_0.length c0_0] 28 (0, 0)) zq56 hb); have n1_ := am (blk_below (g := gb345) (o := .cells #[.int .i64 a3_0, .int .i64 a3_1, .int .i64 a3_2] 72 (0, 0)) zq58 hb); have n2_ := am (below_step zq59 hb); have n3_ := am (hbox); have n4_ := am ((zq69 : w.heap.size ≤ gb346)); have n5_ := am ((zq69 : w.heap.size ≤ gb346)); have n6_ := am ((zq63 : gb344 ≠ gb346)); have n7_ := am ((zq64 : gb346 ≠ gb344)); have n8_ := am ((zq65 : gb345 ≠ gb346)); have n9_ := am ((zq66 : gb346 ≠ gb345)); clear BK344; clear BK345; clear HB; have BK344 := n0_; have BK345 := n1_; have HB := n2_; have BK346 := n3_; have GW346 := n4_; have GE346 := n5_; have NB344_346 := n6_; have NB346_344 := n7_; have NB345_346 := n8_; have NB346_345 := n9_; clear n0_ n1_ n2_ n3_ n4_ n5_ n6_ n7_ n8_ n9_; clear hb hbox hg; have hnb87 := NB344_345.out; have hnc87 := NB345_344.out; have hnb88 := NB344_346.out; have hnc88 := NB346_344.out; have hcz89_0 : w86.cell? ⟨gb344, 0, none⟩ = some (.slice A0_0 l0_0.length c0_0) := (blk_cell BK344.out 0).trans rfl; have hfz89_0 := blk_frozen BK344.out 0) | ((with_reducible refine gate_callee (f := 91) rfl ?_); refine goesL_ (some 11) rfl rfl Try.func91 zq17 rfl #[.agg #[.slice A0_0 l0_0.length c0_0]] rfl zq1 ?_; (with_reducible refine (spec_l2Program.calls k _ _ l0_0 false _ ?side1 ?side2 A5.out).mono ?_); (case side1 => repeat (first | exact (Kd.C_below HR0_0.out HB.out) | (with_reducible refine Kd.C_alloc ?_ _) | (with_reducible refine Kd.C_drewN ?_ _) | (with_reducible refine Kd.C_drew ?_))); (case side2 => exact HC0_0.out); rintro e w90 ⟨rfl, hb⟩; refine ⟨_, rfl, ?_⟩; have n0_ := am (blk_below (g := gb344) (o := .cells #[.slice A0_0 l0_0.length c0_0] 28 (0, 0)) zq56 hb); have n1_ := am (blk_below (g := gb345) (o := .cells #[.int .i64 a3_0, .int .i64 a3_1, .int .i64 a3_2] 72 (0, 0)) zq58 hb); have n2_ := am (blk_below (g := gb346) (o := .cells #[.slice none 0 0] 28 (0, 0)) zq61 hb); have n3_ := am (below_step zq57 hb); clear BK344; clear BK345; clear BK346; clear HB; have BK344 := n0_; have BK345 := n1_; have BK346 := n2_; have HB := n3_; clear n0_ n1_ n2_ n3_; (try clear hb); (try clear hb2); (try clear hk); (try clear hi); have hnb91 := NB346_345.out; have hnc91 := NB345_346.out; have hcz92_0 : w90.cell? ⟨gb346, 0, none⟩ = some (.slice none 0 0) := (blk_cell BK346.out 0).trans rfl; have hfz92_0 := blk_frozen BK346.out 0))
  refine bodyPost_ret (results_ct rfl _ _ gb346 28 #[.slice none 0 0] (0, 0) _ rfl zq62 Try.underlying28 rfl zq17) rfl ?_
  exact ⟨_, zq8, zq67, zq57⟩
end Go.Proofs.Ythdhhpcbagpmgaa.Pr
end

section
namespace Go.Proofs.Ythdhhpcbagpmgaa.Pr
open Go.RowKit Go.Proofs.YthdhhpcbagpmgaaW.PrintWords Go.Proofs.YthdhhpcbagpmgaaW.PrintLast Go.Proofs.YthdhhpcbagpmgaaW.PrintMore
set_option linter.unusedVariables false
set_option linter.unusedSimpArgs false
set_option maxHeartbeats 8000000 in
set_option maxRecDepth 100000 in
theorem putStep_big (k : Nat) (A0 : Option Addr) (c0 : Nat) (l0 : List (List S69)) (x1 x2 s0 s1 s2 : Int) (w : World) (hr0 : Kd.C (Kd.slice 69 k69) w A0 l0.length l0) (hc0 : l0.length ≤ c0) (sz : Int) (hsz : laws_szProgram.f k l0 1048576 = some sz) (hsz0 : sz < 0) :
  Calls Try.prog 6 #[.agg #[.slice A0 l0.length c0], .int .i64 x1, .int .i64 x2, .agg #[.int .i64 s0, .int .i64 s1, .int .i64 s2]] w fun e w' => e = .returned (.bool true) ∧ Below w.heap.size w w' := by
 have hu24 := Try.underlying24
 have hu28 := Try.underlying28
 have hu69 := Try.underlying69
 have e13 : ∀ args w, (callFunc 13 args).run Try.prog w = .ok (.enter 13 args) w := enters_of Try.func13 (by kernel_rfl) rfl
 have e15 : ∀ args w, (callFunc 15 args).run Try.prog w = .ok (.enter 15 args) w := enters_of Try.func15 (by kernel_rfl) rfl
 have e18 : ∀ args w, (callFunc 18 args).run Try.prog w = .ok (.enter 18 args) w := enters_of Try.func18 (by kernel_rfl) rfl
 have e19 : ∀ args w, (callFunc 19 args).run Try.prog w = .ok (.enter 19 args) w := enters_of Try.func19 (by kernel_rfl) rfl
 have e47 : ∀ args w, (callFunc 47 args).run Try.prog w = .ok (.enter 47 args) w := enters_of Try.func47 (by kernel_rfl) rfl
 have e48 : ∀ args w, (callFunc 48 args).run Try.prog w = .ok (.enter 48 args) w := enters_of Try.func48 (by kernel_rfl) rfl
 have e49 : ∀ args w, (callFunc 49 args).run Try.prog w = .ok (.enter 49 args) w := enters_of Try.func49 (by kernel_rfl) rfl
 have e50 : ∀ args w, (callFunc 50 args).run Try.prog w = .ok (.enter 50 args) w := enters_of Try.func50 (by kernel_rfl) rfl
 have hszd : decide (sz < 0) = true := decide_eq_true hsz0
 clear hsz0
 have HR := Aside0.mk hr0
 clear hr0
 go_enter Try.func6, Try.ntmps6
 go_upto_region 2 with (first | ((with_reducible refine gate_dst (N := 4) rfl ?_); refine box_event ?hg (N := 4) ?hd (cs := #[.slice A0 l0.length c0]) (t := 24) ?hr ?_; (case hd => rfl); (case hg => rfl); (case hr => first | (go_simp; done) | (go_simp; rfl)); intro g2 hg2 w1 hbox hb; have B := Aside0.mk hb; have C2 := Aside0.mk hbox; clear hb hbox hg2) | ((with_reducible refine gate_dst (N := 7) rfl ?_); refine box_event ?hg (N := 7) ?hd (cs := #[.int .i64 s0, .int .i64 s1, .int .i64 s2]) (t := 69) ?hr ?_; (case hd => rfl); (case hg => rfl); (case hr => first | (go_simp; done) | (go_simp; rfl)); intro gs hgs w1s hbox hb; have CS := Aside0.mk hbox; have n0_ := Aside0.mk (below_step B.out hb); clear B; have B := n0_; clear n0_; have n0_ := Aside0.mk (blk_below C2.out hb); clear C2; have C2 := n0_; clear n0_; clear hb hbox hgs))
 have hc2_0 : w1s.cell? ⟨g2, 0, none⟩ = some (.slice A0 l0.length c0) := (blk_cell C2.out 0).trans rfl
 go_wp2_with (first | (go_at_fn 13; refine (laws_szProgram.calls k A0 c0 l0 1048576 sz _ (Kd.C_below HR.out B.out) hc0 hsz).mono ?_; rintro e w2 ⟨rfl, hb⟩; have n0_ := Aside0.mk (below_step B.out hb); clear B; have B := n0_; clear n0_; have n0_ := Aside0.mk (blk_below C2.out hb); clear C2; have C2 := n0_; clear n0_; have n0_ := Aside0.mk (blk_below CS.out hb); clear CS; have CS := n0_; clear n0_; clear hb))
 go_ret
 exact ⟨rfl, B.out⟩
set_option maxHeartbeats 8000000 in
set_option maxRecDepth 100000 in
theorem putStep_walk (k : Nat) (A0 : Option Addr) (c0 : Nat) (l0 : List (List S69)) (x1 x2 s0 s1 s2 : Int) (w : World) (hr0 : Kd.C (Kd.slice 69 k69) w A0 l0.length l0) (hc0 : l0.length ≤ c0)
  (sz : Int) (p b : List (List S72))  (o : Bool) (m1 m2 : Int) (p' b' : List (List S72))
  (hsz : laws_szProgram.f k l0 1048576 = some sz) (hsz0 : 0 ≤ sz) (hT : laws_toProgram.f k l0 = some p) (hS : spec_PutStep.f k p x1 x2 s0 s1 s2 = some (b, o)) (hI : impl_PutStep.f p x1 x2 s0 s1 s2 = some (b, o)) (hE : laws_eqProgram.f k b b = some true) (hEp : laws_eqProgram.f k p p = some true) (hM1 : laws_markStepSS.f k p 1 = some (m1, p')) (h1 : 0 ≤ m1) (hM2 : laws_markStepSS.f k b 1 = some (m2, b')) (hH : laws_heldProgram.f k b' 1 = some m2) (h2 : 0 ≤ m2) :
  Calls Try.prog 6 #[.agg #[.slice A0 l0.length c0], .int .i64 x1, .int .i64 x2, .agg #[.int .i64 s0, .int .i64 s1, .int .i64 s2]] w fun e w' => e = .returned (.bool true) ∧ Below w.heap.size w w' := by
 have hu24 := Try.underlying24
 have hu28 := Try.underlying28
 have hu69 := Try.underlying69
 have e13 : ∀ args w, (callFunc 13 args).run Try.prog w = .ok (.enter 13 args) w := enters_of Try.func13 (by kernel_rfl) rfl
 have e15 : ∀ args w, (callFunc 15 args).run Try.prog w = .ok (.enter 15 args) w := enters_of Try.func15 (by kernel_rfl) rfl
 have e18 : ∀ args w, (callFunc 18 args).run Try.prog w = .ok (.enter 18 args) w := enters_of Try.func18 (by kernel_rfl) rfl
 have e19 : ∀ args w, (callFunc 19 args).run Try.prog w = .ok (.enter 19 args) w := enters_of Try.func19 (by kernel_rfl) rfl
 have e47 : ∀ args w, (callFunc 47 args).run Try.prog w = .ok (.enter 47 args) w := enters_of Try.func47 (by kernel_rfl) rfl
 have e48 : ∀ args w, (callFunc 48 args).run Try.prog w = .ok (.enter 48 args) w := enters_of Try.func48 (by kernel_rfl) rfl
 have e49 : ∀ args w, (callFunc 49 args).run Try.prog w = .ok (.enter 49 args) w := enters_of Try.func49 (by kernel_rfl) rfl
 have e50 : ∀ args w, (callFunc 50 args).run Try.prog w = .ok (.enter 50 args) w := enters_of Try.func50 (by kernel_rfl) rfl
 have hszd : decide (sz < 0) = false := decide_eq_false (by omega)
 have ho : (o != o) = false := by simp
 have hd1 : decide (m1 < 0) = false := decide_eq_false (by omega)
 have hd2 : decide (m2 < 0) = false := decide_eq_false (by omega)
 have hn2 : (m2 != m2) = false := by simp
 have HR := Aside0.mk hr0
 clear hr0
 go_enter Try.func6, Try.ntmps6
 go_upto_region 2 with (first | ((with_reducible refine gate_dst (N := 4) rfl ?_); refine box_event ?hg (N := 4) ?hd (cs := #[.slice A0 l0.length c0]) (t := 24) ?hr ?_; (case hd => rfl); (case hg => rfl); (case hr => first | (go_simp; done) | (go_simp; rfl)); intro g2 hg2 w1 hbox hb; have B := Aside0.mk hb; have C2 := Aside0.mk hbox; clear hb hbox hg2) | ((with_reducible refine gate_dst (N := 7) rfl ?_); refine box_event ?hg (N := 7) ?hd (cs := #[.int .i64 s0, .int .i64 s1, .int .i64 s2]) (t := 69) ?hr ?_; (case hd => rfl); (case hg => rfl); (case hr => first | (go_simp; done) | (go_simp; rfl)); intro gs hgs w1s hbox hb; have CS := Aside0.mk hbox; have n0_ := Aside0.mk (below_step B.out hb); clear B; have B := n0_; clear n0_; have n0_ := Aside0.mk (blk_below C2.out hb); clear C2; have C2 := n0_; clear n0_; clear hb hbox hgs))
 have hc2_0 : w1s.cell? ⟨g2, 0, none⟩ = some (.slice A0 l0.length c0) := (blk_cell C2.out 0).trans rfl
 go_upto_region 5 with (first | (go_at_fn 13; refine (laws_szProgram.calls k A0 c0 l0 1048576 sz _ (Kd.C_below HR.out B.out) hc0 hsz).mono ?_; rintro e w2 ⟨rfl, hb⟩; have n0_ := Aside0.mk (below_step B.out hb); clear B; have B := n0_; clear n0_; have n0_ := Aside0.mk (blk_below C2.out hb); clear C2; have C2 := n0_; clear n0_; have n0_ := Aside0.mk (blk_below CS.out hb); clear CS; have CS := n0_; clear n0_; clear hb))
 clear hc2_0
 have hc2_0 : w2.cell? ⟨g2, 0, none⟩ = some (.slice A0 l0.length c0) := (blk_cell C2.out 0).trans rfl
 clear hc2_0
 have hdr : Below w2.heap.size w2 w2.drew := below_drew1 (Below.refl _ _)
 have n0_ := Aside0.mk (below_step B.out hdr)
 clear B
 have B := n0_
 clear n0_
 have n0_ := Aside0.mk (blk_below C2.out hdr)
 clear C2
 have C2 := n0_
 clear n0_
 have n0_ := Aside0.mk (blk_below CS.out hdr)
 clear CS
 have CS := n0_
 clear n0_
 clear hdr
 refine start_ (n := 13) (S := fun w' => w'.cell? ⟨g2, 0, none⟩ = some (.slice A0 l0.length c0) ∧ w'.cell? ⟨gs, 0, none⟩ = some (.int .i64 s0) ∧ w'.cell? ⟨gs, 1, none⟩ = some (.int .i64 s1) ∧ w'.cell? ⟨gs, 2, none⟩ = some (.int .i64 s2)) (ds := []) #[false, false, false, false, false, false, false, false, false, false, false, false, false] (by kernel_rfl) rfl rfl ⟨(blk_cell C2.out 0).trans rfl, (blk_cell CS.out 0).trans rfl, (blk_cell CS.out 1).trans rfl, (blk_cell CS.out 2).trans rfl⟩ (fun hHeld => ?_)
 generalize w2.drew = wd_6 at B C2 CS hHeld ⊢
 obtain ⟨N0, hN0⟩ : ∃ n_, n_ = wd_6.heap.size := ⟨_, rfl⟩
 have HN0 := Aside0.mk (show N0 = wd_6.heap.size from hN0)
 have LTn := Aside0.mk (show g2 < N0 ∧ gs < N0 ∧ w.heap.size ≤ N0 from by
  have := hN0
  have := blk_lt C2.out
  have := blk_lt CS.out
  have := B.out.size
  omega)
 clear hN0
 refine take_ (i := 0) (N := some 26) (v := ?_) (a' := ?_) #[true, false, false, false, false, false, false, false, false, false, false, false, false] rfl rfl (by kernel_rfl) (fun _ _ _ h => h) (Or.inl ⟨by rfl, ?_⟩) hHeld ?_ ?_
 rotate_left
 ·rintro w' ⟨s0_0, s0_1, s0_2, s0_3⟩
  go_simp
  with_reducible rfl
 rotate_left
 ·simp only [Act.put, List.setIfInBounds_toArray, List.set_cons_zero, List.set_cons_succ, i64_w, i32_w]
  rfl
 refine take_ (i := 2) (N := some 28) (v := ?_) (a' := ?_) #[true, false, true, false, false, false, false, false, false, false, false, false, false] rfl rfl (by kernel_rfl) (fun _ _ _ h => h) (Or.inl ⟨by rfl, ?_⟩) hHeld ?_ ?_
 rotate_left
 ·rintro w' ⟨s0_0, s0_1, s0_2, s0_3⟩
  go_simp
  with_reducible rfl
 rotate_left
 ·simp only [Act.put, List.setIfInBounds_toArray, List.set_cons_zero, List.set_cons_succ, i64_w, i32_w]
  rfl
 refine take_ (i := 3) (N := some 29) (v := ?_) (a' := ?_) #[true, false, true, true, false, false, false, false, false, false, false, false, false] rfl rfl (by kernel_rfl) (fun _ _ _ h => h) (Or.inl ⟨by rfl, ?_⟩) hHeld ?_ ?_
 rotate_left
 ·rintro w' ⟨s0_0, s0_1, s0_2, s0_3⟩
  go_simp
  with_reducible rfl
 rotate_left
 ·simp only [Act.put, List.setIfInBounds_toArray, List.set_cons_zero, List.set_cons_succ, i64_w, i32_w]
  rfl
 refine take_ (i := 4) (N := some 30) (v := ?_) (a' := ?_) #[true, false, true, true, true, false, false, false, false, false, false, false, false] rfl rfl (by kernel_rfl) (fun _ _ _ h => h) (Or.inl ⟨by rfl, ?_⟩) hHeld ?_ ?_
 rotate_left
 ·rintro w' ⟨s0_0, s0_1, s0_2, s0_3⟩
  go_simp
  with_reducible rfl
 rotate_left
 ·simp only [Act.put, List.setIfInBounds_toArray, List.set_cons_zero, List.set_cons_succ, i64_w, i32_w]
  rfl
 refine join_ (σ := Option Addr × Nat × Nat × Option Addr × Nat) 2 #[true, true, true, true, true, true, true, true, true, true, true, false, false] (fun s_ => match s_ with | (Ae, ce, ge, Af, cf) => [(27, .agg #[.slice Af p.length cf]), (31, .agg #[.int .i64 s0, .int .i64 s1, .int .i64 s2]), (32, .tuple #[.agg #[.slice Ae b.length ce], .bool o]), (25, .tuple #[.agg #[.slice Ae b.length ce], .bool o]), (33, .agg #[.slice Ae b.length ce]), (34, .bool o), (10, .pointer (some ⟨ge, 0, none⟩))]) (fun s_ W_ => match s_ with | (Ae, ce, ge, Af, cf) => Aside0 (∃ H6, Below w.heap.size w W_ ∧ W_.heap[g2]? = some (.cells #[.slice A0 l0.length c0] 24 (0, 0)) ∧ W_.heap[gs]? = some (.cells #[.int .i64 s0, .int .i64 s1, .int .i64 s2] 69 (0, 0)) ∧ W_.heap[ge]? = some (.cells #[.slice none 0 0] 28 (0, 0)) ∧ Kd.S (Kd.slice 72 k72) 108 W_ w.heap.size (fun q => N0 ≤ q ∧ q < H6 ∧ q ≠ ge) (.slice Ae b.length ce) b ∧ N0 ≤ ge ∧ ge < H6 ∧ H6 = W_.heap.size)) ?_ ?_
 rotate_left
 ·intro HC
  refine two_ (i := 1) (j := 10) (Ni := some 27) (Nj := some 10) #[true, true, true, true, true, false, false, false, false, false, false, false, false] #[true, false, true, true, true, false, false, false, false, false, true, false, false] rfl rfl rfl rfl (by kernel_rfl) (by decide) (by decide) (fun K hK => ?_) (fun K hK => ?_)
  ·
   refine goes_ Try.func15 (by kernel_rfl) rfl #[.agg #[.slice A0 l0.length c0]] (by rfl) rfl rfl (by (try simp only [List.map_toArray, List.map_cons, List.map_nil]); first | done | rfl) ?_
   refine (laws_toProgram.calls k A0 c0 l0 p _ (Kd.C_below HR.out B.out) hc0 hT).mono ?_
   rintro e wz1_0 ⟨v1_, rfl, hs, hb⟩
   refine ⟨_, rfl, ?_⟩
   have z1_0 := hb.size
   have S1 := Aside0.mk hs
   have n0_ := Aside0.mk (below_step B.out hb)
   clear B
   have B := n0_
   clear n0_
   have n0_ := Aside0.mk (blk_below C2.out hb)
   clear C2
   have C2 := n0_
   clear n0_
   have n0_ := Aside0.mk (blk_below CS.out hb)
   clear CS
   have CS := n0_
   clear n0_
   clear hb hs
   obtain ⟨Af, cf, ev_⟩ := Kd.S_slice S1.out
   subst ev_
   refine hK.out _ _ ⟨(blk_cell C2.out 0).trans rfl, (blk_cell CS.out 0).trans rfl, (blk_cell CS.out 1).trans rfl, (blk_cell CS.out 2).trans rfl⟩ (fun hHeld => ?_)
   clear hK K
   refine norm_ (a' := ?_) ?_ ?_
   rotate_left
   ·show Act.put _ (some 27) _ = _
    simp only [Act.put, List.setIfInBounds_toArray, List.set_cons_zero, List.set_cons_succ, i64_w, i32_w]
    rfl
   refine two_ (i := 5) (j := 10) (Ni := some 31) (Nj := some 10) #[true, true, true, true, true, true, false, false, false, false, false, false, false] #[true, true, true, true, true, false, false, false, false, false, true, false, false] rfl rfl rfl rfl (by kernel_rfl) (by decide) (by decide) (fun K hK => ?_) (fun K hK => ?_)
   ·
    refine goes_ Try.func48 (by kernel_rfl) rfl #[.agg #[.int .i64 s0, .int .i64 s1, .int .i64 s2]] (by rfl) rfl rfl (by (try simp only [List.map_toArray, List.map_cons, List.map_nil]); first | done | rfl) ?_
    refine (laws_toStep.calls s0 s1 s2 s0 s1 s2 _ rfl).mono ?_
    rintro e wz2_0 ⟨rfl, hb⟩
    refine ⟨_, rfl, ?_⟩
    have z2_0 := hb.size
    have n0_ := Aside0.mk (below_step B.out hb)
    clear B
    have B := n0_
    clear n0_
    have n0_ := Aside0.mk (blk_below C2.out hb)
    clear C2
    have C2 := n0_
    clear n0_
    have n0_ := Aside0.mk (Kd.S_below S1.out hb)
    clear S1
    have S1 := n0_
    clear n0_
    have n0_ := Aside0.mk (blk_below CS.out hb)
    clear CS
    have CS := n0_
    clear n0_
    clear hb
    refine hK.out _ _ ⟨(blk_cell C2.out 0).trans rfl, (blk_cell CS.out 0).trans rfl, (blk_cell CS.out 1).trans rfl, (blk_cell CS.out 2).trans rfl⟩ (fun hHeld => ?_)
    clear hK K
    refine norm_ (a' := ?_) ?_ ?_
    rotate_left
    ·show Act.put _ (some 31) _ = _
     simp only [Act.put, List.setIfInBounds_toArray, List.set_cons_zero, List.set_cons_succ, i64_w, i32_w]
     rfl
    refine two_ (i := 6) (j := 10) (Ni := some 32) (Nj := some 10) #[true, true, true, true, true, true, true, false, false, false, false, false, false] #[true, true, true, true, true, true, false, false, false, false, true, false, false] rfl rfl rfl rfl (by kernel_rfl) (by decide) (by decide) (fun K hK => ?_) (fun K hK => ?_)
    ·
     refine goes_ Try.func47 (by kernel_rfl) rfl #[.agg #[.slice Af p.length cf], .int .i64 x1, .int .i64 x2, .agg #[.int .i64 s0, .int .i64 s1, .int .i64 s2]] (by rfl) rfl rfl (by (try simp only [List.map_toArray, List.map_cons, List.map_nil]); first | done | rfl) ?_
     refine (spec_PutStep.calls k Af cf p x1 x2 s0 s1 s2 b  o _ (Kd.S_reads' S1.out).2.2 (Kd.S_reads' S1.out).2.1 hS).mono ?_
     rintro e wz3_0 ⟨v2_, rfl, hs, hb⟩
     refine ⟨_, rfl, ?_⟩
     have z3_0 := hb.size
     have S2 := Aside0.mk (Made.new (Kd.S_mono hs (fun _ _ => trivial)) B.out.size)
     have n0_ := Aside0.mk (below_step B.out hb)
     clear B
     have B := n0_
     clear n0_
     have n0_ := Aside0.mk (blk_below C2.out hb)
     clear C2
     have C2 := n0_
     clear n0_
     have n0_ := Aside0.mk (Kd.S_below S1.out hb)
     clear S1
     have S1 := n0_
     clear n0_
     have n0_ := Aside0.mk (blk_below CS.out hb)
     clear CS
     have CS := n0_
     clear n0_
     clear hb hs
     obtain ⟨Ae, ce, ev_⟩ := Kd.S_slice S2.out
     subst ev_
     refine hK.out _ _ ⟨(blk_cell C2.out 0).trans rfl, (blk_cell CS.out 0).trans rfl, (blk_cell CS.out 1).trans rfl, (blk_cell CS.out 2).trans rfl⟩ (fun hHeld => ?_)
     clear hK K
     refine norm_ (a' := ?_) ?_ ?_
     rotate_left
     ·show Act.put _ (some 32) _ = _
      simp only [Act.put, List.setIfInBounds_toArray, List.set_cons_zero, List.set_cons_succ, i64_w, i32_w]
      rfl
     refine pure_ (i := 7) (N := some 25) (v := ?_) (a' := ?_) #[true, true, true, true, true, true, true, true, false, false, false, false, false] rfl rfl (by kernel_rfl) (fun _ _ _ h => h) (Or.inl ⟨by rfl, ?_⟩) ?_ ?_
     rotate_left
     ·intro w'
      go_simp
      with_reducible rfl
     rotate_left
     ·simp only [Act.put, List.setIfInBounds_toArray, List.set_cons_zero, List.set_cons_succ, i64_w, i32_w]
      rfl
     refine pure_ (i := 8) (N := some 33) (v := ?_) (a' := ?_) #[true, true, true, true, true, true, true, true, true, false, false, false, false] rfl rfl (by kernel_rfl) (fun _ _ _ h => h) (Or.inl ⟨by rfl, ?_⟩) ?_ ?_
     rotate_left
     ·intro w'
      go_simp
      with_reducible rfl
     rotate_left
     ·simp only [Act.put, List.setIfInBounds_toArray, List.set_cons_zero, List.set_cons_succ, i64_w, i32_w]
      rfl
     refine pure_ (i := 9) (N := some 34) (v := ?_) (a' := ?_) #[true, true, true, true, true, true, true, true, true, true, false, false, false] rfl rfl (by kernel_rfl) (fun _ _ _ h => h) (Or.inl ⟨by rfl, ?_⟩) ?_ ?_
     rotate_left
     ·intro w'
      go_simp
      with_reducible rfl
     rotate_left
     ·simp only [Act.put, List.setIfInBounds_toArray, List.set_cons_zero, List.set_cons_succ, i64_w, i32_w]
      rfl
     refine one_ (i := 10) (N := some 10) #[true, true, true, true, true, true, true, true, true, true, true, false, false] rfl rfl (by kernel_rfl) (by decide) (fun K hK => ?_)
     refine box_step (by rfl) (N := 10) rfl (cs := #[.slice none 0 0]) (t := 28) ?_ ?_
     ·first | (go_simp; done) | (go_simp; rfl)
     intro ge hge wz4 hbox hb
     have z4 := hb.size
     have n0_ := Aside0.mk (below_step B.out hb)
     clear B
     have B := n0_
     clear n0_
     have n0_ := Aside0.mk (blk_below C2.out hb)
     clear C2
     have C2 := n0_
     clear n0_
     have n0_ := Aside0.mk (Kd.S_below S1.out hb)
     clear S1
     have S1 := n0_
     clear n0_
     have n0_ := Aside0.mk (Kd.S_below S2.out hb)
     clear S2
     have S2 := n0_
     clear n0_
     have n0_ := Aside0.mk (blk_below CS.out hb)
     clear CS
     have CS := n0_
     clear n0_
     have CE := Aside0.mk hbox
     have GE := Aside0.mk hge
     clear hb hbox hge
     refine hK.out _ _ ⟨(blk_cell C2.out 0).trans rfl, (blk_cell CS.out 0).trans rfl, (blk_cell CS.out 1).trans rfl, (blk_cell CS.out 2).trans rfl⟩ (fun hHeld => ?_)
     clear hK K
     refine norm_ (a' := ?_) ?_ ?_
     rotate_left
     ·show Act.put _ (some 10) _ = _
      simp only [Act.put, List.setIfInBounds_toArray, List.set_cons_zero, List.set_cons_succ, i64_w, i32_w]
      rfl
     have hN_ := HN0.out
     have hg_ := GE.out
     have hl_ := blk_lt CE.out
     exact norm_ (by
      simp only [putAll, Act.put, List.setIfInBounds_toArray, List.set_cons_zero, List.set_cons_succ]
      try rfl) (HC ⟨_, _, _, _, _⟩ wz4 ⟨wz4.heap.size, B.out, C2.out, CS.out, CE.out, Kd.S_mono S2.out (fun q hq => by have := hq.1; have := hq.2; (try have := GL.out); omega), by (try have := GL.out); omega, hl_, rfl⟩)
    ·
     refine box_step (by rfl) (N := 10) rfl (cs := #[.slice none 0 0]) (t := 28) ?_ ?_
     ·first | (go_simp; done) | (go_simp; rfl)
     intro ge hge wz3_1 hbox hb
     have z3_1 := hb.size
     have n0_ := Aside0.mk (below_step B.out hb)
     clear B
     have B := n0_
     clear n0_
     have n0_ := Aside0.mk (blk_below C2.out hb)
     clear C2
     have C2 := n0_
     clear n0_
     have n0_ := Aside0.mk (Kd.S_below S1.out hb)
     clear S1
     have S1 := n0_
     clear n0_
     have n0_ := Aside0.mk (blk_below CS.out hb)
     clear CS
     have CS := n0_
     clear n0_
     have CE := Aside0.mk hbox
     have GE := Aside0.mk hge
     clear hb hbox hge
     refine hK.out _ _ ⟨(blk_cell C2.out 0).trans rfl, (blk_cell CS.out 0).trans rfl, (blk_cell CS.out 1).trans rfl, (blk_cell CS.out 2).trans rfl⟩ (fun hHeld => ?_)
     clear hK K
     refine norm_ (a' := ?_) ?_ ?_
     rotate_left
     ·show Act.put _ (some 10) _ = _
      simp only [Act.put, List.setIfInBounds_toArray, List.set_cons_zero, List.set_cons_succ, i64_w, i32_w]
      rfl
     refine one_ (i := 6) (N := some 32) #[true, true, true, true, true, true, true, false, false, false, true, false, false] rfl rfl (by kernel_rfl) (by decide) (fun K hK => ?_)
     have GL := Aside0.mk (blk_lt CE.out)
     refine goes_ Try.func47 (by kernel_rfl) rfl #[.agg #[.slice Af p.length cf], .int .i64 x1, .int .i64 x2, .agg #[.int .i64 s0, .int .i64 s1, .int .i64 s2]] (by rfl) rfl rfl (by (try simp only [List.map_toArray, List.map_cons, List.map_nil]); first | done | rfl) ?_
     refine (spec_PutStep.calls k Af cf p x1 x2 s0 s1 s2 b  o _ (Kd.S_reads' S1.out).2.2 (Kd.S_reads' S1.out).2.1 hS).mono ?_
     rintro e wz5 ⟨v2_, rfl, hs, hb⟩
     refine ⟨_, rfl, ?_⟩
     have z5 := hb.size
     have S2 := Aside0.mk (Made.new (Kd.S_mono hs (fun _ _ => trivial)) B.out.size)
     have n0_ := Aside0.mk (below_step B.out hb)
     clear B
     have B := n0_
     clear n0_
     have n0_ := Aside0.mk (blk_below C2.out hb)
     clear C2
     have C2 := n0_
     clear n0_
     have n0_ := Aside0.mk (Kd.S_below S1.out hb)
     clear S1
     have S1 := n0_
     clear n0_
     have n0_ := Aside0.mk (blk_below CE.out hb)
     clear CE
     have CE := n0_
     clear n0_
     have n0_ := Aside0.mk (blk_below CS.out hb)
     clear CS
     have CS := n0_
     clear n0_
     clear hb hs
     obtain ⟨Ae, ce, ev_⟩ := Kd.S_slice S2.out
     subst ev_
     refine hK.out _ _ ⟨(blk_cell C2.out 0).trans rfl, (blk_cell CS.out 0).trans rfl, (blk_cell CS.out 1).trans rfl, (blk_cell CS.out 2).trans rfl⟩ (fun hHeld => ?_)
     clear hK K
     refine norm_ (a' := ?_) ?_ ?_
     rotate_left
     ·show Act.put _ (some 32) _ = _
      simp only [Act.put, List.setIfInBounds_toArray, List.set_cons_zero, List.set_cons_succ, i64_w, i32_w]
      rfl
     refine pure_ (i := 7) (N := some 25) (v := ?_) (a' := ?_) #[true, true, true, true, true, true, true, true, false, false, true, false, false] rfl rfl (by kernel_rfl) (fun _ _ _ h => h) (Or.inl ⟨by rfl, ?_⟩) ?_ ?_
     rotate_left
     ·intro w'
      go_simp
      with_reducible rfl
     rotate_left
     ·simp only [Act.put, List.setIfInBounds_toArray, List.set_cons_zero, List.set_cons_succ, i64_w, i32_w]
      rfl
     refine pure_ (i := 8) (N := some 33) (v := ?_) (a' := ?_) #[true, true, true, true, true, true, true, true, true, false, true, false, false] rfl rfl (by kernel_rfl) (fun _ _ _ h => h) (Or.inl ⟨by rfl, ?_⟩) ?_ ?_
     rotate_left
     ·intro w'
      go_simp
      with_reducible rfl
     rotate_left
     ·simp only [Act.put, List.setIfInBounds_toArray, List.set_cons_zero, List.set_cons_succ, i64_w, i32_w]
      rfl
     refine pure_ (i := 9) (N := some 34) (v := ?_) (a' := ?_) #[true, true, true, true, true, true, true, true, true, true, true, false, false] rfl rfl (by kernel_rfl) (fun _ _ _ h => h) (Or.inl ⟨by rfl, ?_⟩) ?_ ?_
     rotate_left
     ·intro w'
      go_simp
      with_reducible rfl
     rotate_left
     ·simp only [Act.put, List.setIfInBounds_toArray, List.set_cons_zero, List.set_cons_succ, i64_w, i32_w]
      rfl
     have hN_ := HN0.out
     have hg_ := GE.out
     have hl_ := blk_lt CE.out
     exact norm_ (by
      simp only [putAll, Act.put, List.setIfInBounds_toArray, List.set_cons_zero, List.set_cons_succ]
      try rfl) (HC ⟨_, _, _, _, _⟩ wz5 ⟨wz5.heap.size, B.out, C2.out, CS.out, CE.out, Kd.S_mono S2.out (fun q hq => by have := hq.1; have := hq.2; (try have := GL.out); omega), by (try have := GL.out); omega, hl_, rfl⟩)
   ·
    refine box_step (by rfl) (N := 10) rfl (cs := #[.slice none 0 0]) (t := 28) ?_ ?_
    ·first | (go_simp; done) | (go_simp; rfl)
    intro ge hge wz2_1 hbox hb
    have z2_1 := hb.size
    have n0_ := Aside0.mk (below_step B.out hb)
    clear B
    have B := n0_
    clear n0_
    have n0_ := Aside0.mk (blk_below C2.out hb)
    clear C2
    have C2 := n0_
    clear n0_
    have n0_ := Aside0.mk (Kd.S_below S1.out hb)
    clear S1
    have S1 := n0_
    clear n0_
    have n0_ := Aside0.mk (blk_below CS.out hb)
    clear CS
    have CS := n0_
    clear n0_
    have CE := Aside0.mk hbox
    have GE := Aside0.mk hge
    clear hb hbox hge
    refine hK.out _ _ ⟨(blk_cell C2.out 0).trans rfl, (blk_cell CS.out 0).trans rfl, (blk_cell CS.out 1).trans rfl, (blk_cell CS.out 2).trans rfl⟩ (fun hHeld => ?_)
    clear hK K
    refine norm_ (a' := ?_) ?_ ?_
    rotate_left
    ·show Act.put _ (some 10) _ = _
     simp only [Act.put, List.setIfInBounds_toArray, List.set_cons_zero, List.set_cons_succ, i64_w, i32_w]
     rfl
    refine one_ (i := 5) (N := some 31) #[true, true, true, true, true, true, false, false, false, false, true, false, false] rfl rfl (by kernel_rfl) (by decide) (fun K hK => ?_)
    refine goes_ Try.func48 (by kernel_rfl) rfl #[.agg #[.int .i64 s0, .int .i64 s1, .int .i64 s2]] (by rfl) rfl rfl (by (try simp only [List.map_toArray, List.map_cons, List.map_nil]); first | done | rfl) ?_
    refine (laws_toStep.calls s0 s1 s2 s0 s1 s2 _ rfl).mono ?_
    rintro e wz7 ⟨rfl, hb⟩
    refine ⟨_, rfl, ?_⟩
    have z7 := hb.size
    have n0_ := Aside0.mk (below_step B.out hb)
    clear B
    have B := n0_
    clear n0_
    have n0_ := Aside0.mk (blk_below C2.out hb)
    clear C2
    have C2 := n0_
    clear n0_
    have n0_ := Aside0.mk (Kd.S_below S1.out hb)
    clear S1
    have S1 := n0_
    clear n0_
    have n0_ := Aside0.mk (blk_below CE.out hb)
    clear CE
    have CE := n0_
    clear n0_
    have n0_ := Aside0.mk (blk_below CS.out hb)
    clear CS
    have CS := n0_
    clear n0_
    clear hb
    refine hK.out _ _ ⟨(blk_cell C2.out 0).trans rfl, (blk_cell CS.out 0).trans rfl, (blk_cell CS.out 1).trans rfl, (blk_cell CS.out 2).trans rfl⟩ (fun hHeld => ?_)
    clear hK K
    refine norm_ (a' := ?_) ?_ ?_
    rotate_left
    ·show Act.put _ (some 31) _ = _
     simp only [Act.put, List.setIfInBounds_toArray, List.set_cons_zero, List.set_cons_succ, i64_w, i32_w]
     rfl
    refine one_ (i := 6) (N := some 32) #[true, true, true, true, true, true, true, false, false, false, true, false, false] rfl rfl (by kernel_rfl) (by decide) (fun K hK => ?_)
    have GL := Aside0.mk (blk_lt CE.out)
    refine goes_ Try.func47 (by kernel_rfl) rfl #[.agg #[.slice Af p.length cf], .int .i64 x1, .int .i64 x2, .agg #[.int .i64 s0, .int .i64 s1, .int .i64 s2]] (by rfl) rfl rfl (by (try simp only [List.map_toArray, List.map_cons, List.map_nil]); first | done | rfl) ?_
    refine (spec_PutStep.calls k Af cf p x1 x2 s0 s1 s2 b  o _ (Kd.S_reads' S1.out).2.2 (Kd.S_reads' S1.out).2.1 hS).mono ?_
    rintro e wz8 ⟨v2_, rfl, hs, hb⟩
    refine ⟨_, rfl, ?_⟩
    have z8 := hb.size
    have S2 := Aside0.mk (Made.new (Kd.S_mono hs (fun _ _ => trivial)) B.out.size)
    have n0_ := Aside0.mk (below_step B.out hb)
    clear B
    have B := n0_
    clear n0_
    have n0_ := Aside0.mk (blk_below C2.out hb)
    clear C2
    have C2 := n0_
    clear n0_
    have n0_ := Aside0.mk (Kd.S_below S1.out hb)
    clear S1
    have S1 := n0_
    clear n0_
    have n0_ := Aside0.mk (blk_below CE.out hb)
    clear CE
    have CE := n0_
    clear n0_
    have n0_ := Aside0.mk (blk_below CS.out hb)
    clear CS
    have CS := n0_
    clear n0_
    clear hb hs
    obtain ⟨Ae, ce, ev_⟩ := Kd.S_slice S2.out
    subst ev_
    refine hK.out _ _ ⟨(blk_cell C2.out 0).trans rfl, (blk_cell CS.out 0).trans rfl, (blk_cell CS.out 1).trans rfl, (blk_cell CS.out 2).trans rfl⟩ (fun hHeld => ?_)
    clear hK K
    refine norm_ (a' := ?_) ?_ ?_
    rotate_left
    ·show Act.put _ (some 32) _ = _
     simp only [Act.put, List.setIfInBounds_toArray, List.set_cons_zero, List.set_cons_succ, i64_w, i32_w]
     rfl
    refine pure_ (i := 7) (N := some 25) (v := ?_) (a' := ?_) #[true, true, true, true, true, true, true, true, false, false, true, false, false] rfl rfl (by kernel_rfl) (fun _ _ _ h => h) (Or.inl ⟨by rfl, ?_⟩) ?_ ?_
    rotate_left
    ·intro w'
     go_simp
     with_reducible rfl
    rotate_left
    ·simp only [Act.put, List.setIfInBounds_toArray, List.set_cons_zero, List.set_cons_succ, i64_w, i32_w]
     rfl
    refine pure_ (i := 8) (N := some 33) (v := ?_) (a' := ?_) #[true, true, true, true, true, true, true, true, true, false, true, false, false] rfl rfl (by kernel_rfl) (fun _ _ _ h => h) (Or.inl ⟨by rfl, ?_⟩) ?_ ?_
    rotate_left
    ·intro w'
     go_simp
     with_reducible rfl
    rotate_left
    ·simp only [Act.put, List.setIfInBounds_toArray, List.set_cons_zero, List.set_cons_succ, i64_w, i32_w]
     rfl
    refine pure_ (i := 9) (N := some 34) (v := ?_) (a' := ?_) #[true, true, true, true, true, true, true, true, true, true, true, false, false] rfl rfl (by kernel_rfl) (fun _ _ _ h => h) (Or.inl ⟨by rfl, ?_⟩) ?_ ?_
    rotate_left
    ·intro w'
     go_simp
     with_reducible rfl
    rotate_left
    ·simp only [Act.put, List.setIfInBounds_toArray, List.set_cons_zero, List.set_cons_succ, i64_w, i32_w]
     rfl
    have hN_ := HN0.out
    have hg_ := GE.out
    have hl_ := blk_lt CE.out
    exact norm_ (by
     simp only [putAll, Act.put, List.setIfInBounds_toArray, List.set_cons_zero, List.set_cons_succ]
     try rfl) (HC ⟨_, _, _, _, _⟩ wz8 ⟨wz8.heap.size, B.out, C2.out, CS.out, CE.out, Kd.S_mono S2.out (fun q hq => by have := hq.1; have := hq.2; (try have := GL.out); omega), by (try have := GL.out); omega, hl_, rfl⟩)
  ·
   refine box_step (by rfl) (N := 10) rfl (cs := #[.slice none 0 0]) (t := 28) ?_ ?_
   ·first | (go_simp; done) | (go_simp; rfl)
   intro ge hge wz1_1 hbox hb
   have z1_1 := hb.size
   have n0_ := Aside0.mk (below_step B.out hb)
   clear B
   have B := n0_
   clear n0_
   have n0_ := Aside0.mk (blk_below C2.out hb)
   clear C2
   have C2 := n0_
   clear n0_
   have n0_ := Aside0.mk (blk_below CS.out hb)
   clear CS
   have CS := n0_
   clear n0_
   have CE := Aside0.mk hbox
   have GE := Aside0.mk hge
   clear hb hbox hge
   refine hK.out _ _ ⟨(blk_cell C2.out 0).trans rfl, (blk_cell CS.out 0).trans rfl, (blk_cell CS.out 1).trans rfl, (blk_cell CS.out 2).trans rfl⟩ (fun hHeld => ?_)
   clear hK K
   refine norm_ (a' := ?_) ?_ ?_
   rotate_left
   ·show Act.put _ (some 10) _ = _
    simp only [Act.put, List.setIfInBounds_toArray, List.set_cons_zero, List.set_cons_succ, i64_w, i32_w]
    rfl
   refine one_ (i := 1) (N := some 27) #[true, true, true, true, true, false, false, false, false, false, true, false, false] rfl rfl (by kernel_rfl) (by decide) (fun K hK => ?_)
   refine goes_ Try.func15 (by kernel_rfl) rfl #[.agg #[.slice A0 l0.length c0]] (by rfl) rfl rfl (by (try simp only [List.map_toArray, List.map_cons, List.map_nil]); first | done | rfl) ?_
   refine (laws_toProgram.calls k A0 c0 l0 p _ (Kd.C_below HR.out B.out) hc0 hT).mono ?_
   rintro e wz10 ⟨v1_, rfl, hs, hb⟩
   refine ⟨_, rfl, ?_⟩
   have z10 := hb.size
   have S1 := Aside0.mk hs
   have n0_ := Aside0.mk (below_step B.out hb)
   clear B
   have B := n0_
   clear n0_
   have n0_ := Aside0.mk (blk_below C2.out hb)
   clear C2
   have C2 := n0_
   clear n0_
   have n0_ := Aside0.mk (blk_below CE.out hb)
   clear CE
   have CE := n0_
   clear n0_
   have n0_ := Aside0.mk (blk_below CS.out hb)
   clear CS
   have CS := n0_
   clear n0_
   clear hb hs
   obtain ⟨Af, cf, ev_⟩ := Kd.S_slice S1.out
   subst ev_
   refine hK.out _ _ ⟨(blk_cell C2.out 0).trans rfl, (blk_cell CS.out 0).trans rfl, (blk_cell CS.out 1).trans rfl, (blk_cell CS.out 2).trans rfl⟩ (fun hHeld => ?_)
   clear hK K
   refine norm_ (a' := ?_) ?_ ?_
   rotate_left
   ·show Act.put _ (some 27) _ = _
    simp only [Act.put, List.setIfInBounds_toArray, List.set_cons_zero, List.set_cons_succ, i64_w, i32_w]
    rfl
   refine one_ (i := 5) (N := some 31) #[true, true, true, true, true, true, false, false, false, false, true, false, false] rfl rfl (by kernel_rfl) (by decide) (fun K hK => ?_)
   refine goes_ Try.func48 (by kernel_rfl) rfl #[.agg #[.int .i64 s0, .int .i64 s1, .int .i64 s2]] (by rfl) rfl rfl (by (try simp only [List.map_toArray, List.map_cons, List.map_nil]); first | done | rfl) ?_
   refine (laws_toStep.calls s0 s1 s2 s0 s1 s2 _ rfl).mono ?_
   rintro e wz11 ⟨rfl, hb⟩
   refine ⟨_, rfl, ?_⟩
   have z11 := hb.size
   have n0_ := Aside0.mk (below_step B.out hb)
   clear B
   have B := n0_
   clear n0_
   have n0_ := Aside0.mk (blk_below C2.out hb)
   clear C2
   have C2 := n0_
   clear n0_
   have n0_ := Aside0.mk (blk_below CE.out hb)
   clear CE
   have CE := n0_
   clear n0_
   have n0_ := Aside0.mk (Kd.S_below S1.out hb)
   clear S1
   have S1 := n0_
   clear n0_
   have n0_ := Aside0.mk (blk_below CS.out hb)
   clear CS
   have CS := n0_
   clear n0_
   clear hb
   refine hK.out _ _ ⟨(blk_cell C2.out 0).trans rfl, (blk_cell CS.out 0).trans rfl, (blk_cell CS.out 1).trans rfl, (blk_cell CS.out 2).trans rfl⟩ (fun hHeld => ?_)
   clear hK K
   refine norm_ (a' := ?_) ?_ ?_
   rotate_left
   ·show Act.put _ (some 31) _ = _
    simp only [Act.put, List.setIfInBounds_toArray, List.set_cons_zero, List.set_cons_succ, i64_w, i32_w]
    rfl
   refine one_ (i := 6) (N := some 32) #[true, true, true, true, true, true, true, false, false, false, true, false, false] rfl rfl (by kernel_rfl) (by decide) (fun K hK => ?_)
   have GL := Aside0.mk (blk_lt CE.out)
   refine goes_ Try.func47 (by kernel_rfl) rfl #[.agg #[.slice Af p.length cf], .int .i64 x1, .int .i64 x2, .agg #[.int .i64 s0, .int .i64 s1, .int .i64 s2]] (by rfl) rfl rfl (by (try simp only [List.map_toArray, List.map_cons, List.map_nil]); first | done | rfl) ?_
   refine (spec_PutStep.calls k Af cf p x1 x2 s0 s1 s2 b  o _ (Kd.S_reads' S1.out).2.2 (Kd.S_reads' S1.out).2.1 hS).mono ?_
   rintro e wz12 ⟨v2_, rfl, hs, hb⟩
   refine ⟨_, rfl, ?_⟩
   have z12 := hb.size
   have S2 := Aside0.mk (Made.new (Kd.S_mono hs (fun _ _ => trivial)) B.out.size)
   have n0_ := Aside0.mk (below_step B.out hb)
   clear B
   have B := n0_
   clear n0_
   have n0_ := Aside0.mk (blk_below C2.out hb)
   clear C2
   have C2 := n0_
   clear n0_
   have n0_ := Aside0.mk (blk_below CE.out hb)
   clear CE
   have CE := n0_
   clear n0_
   have n0_ := Aside0.mk (Kd.S_below S1.out hb)
   clear S1
   have S1 := n0_
   clear n0_
   have n0_ := Aside0.mk (blk_below CS.out hb)
   clear CS
   have CS := n0_
   clear n0_
   clear hb hs
   obtain ⟨Ae, ce, ev_⟩ := Kd.S_slice S2.out
   subst ev_
   refine hK.out _ _ ⟨(blk_cell C2.out 0).trans rfl, (blk_cell CS.out 0).trans rfl, (blk_cell CS.out 1).trans rfl, (blk_cell CS.out 2).trans rfl⟩ (fun hHeld => ?_)
   clear hK K
   refine norm_ (a' := ?_) ?_ ?_
   rotate_left
   ·show Act.put _ (some 32) _ = _
    simp only [Act.put, List.setIfInBounds_toArray, List.set_cons_zero, List.set_cons_succ, i64_w, i32_w]
    rfl
   refine pure_ (i := 7) (N := some 25) (v := ?_) (a' := ?_) #[true, true, true, true, true, true, true, true, false, false, true, false, false] rfl rfl (by kernel_rfl) (fun _ _ _ h => h) (Or.inl ⟨by rfl, ?_⟩) ?_ ?_
   rotate_left
   ·intro w'
    go_simp
    with_reducible rfl
   rotate_left
   ·simp only [Act.put, List.setIfInBounds_toArray, List.set_cons_zero, List.set_cons_succ, i64_w, i32_w]
    rfl
   refine pure_ (i := 8) (N := some 33) (v := ?_) (a' := ?_) #[true, true, true, true, true, true, true, true, true, false, true, false, false] rfl rfl (by kernel_rfl) (fun _ _ _ h => h) (Or.inl ⟨by rfl, ?_⟩) ?_ ?_
   rotate_left
   ·intro w'
    go_simp
    with_reducible rfl
   rotate_left
   ·simp only [Act.put, List.setIfInBounds_toArray, List.set_cons_zero, List.set_cons_succ, i64_w, i32_w]
    rfl
   refine pure_ (i := 9) (N := some 34) (v := ?_) (a' := ?_) #[true, true, true, true, true, true, true, true, true, true, true, false, false] rfl rfl (by kernel_rfl) (fun _ _ _ h => h) (Or.inl ⟨by rfl, ?_⟩) ?_ ?_
   rotate_left
   ·intro w'
    go_simp
    with_reducible rfl
   rotate_left
   ·simp only [Act.put, List.setIfInBounds_toArray, List.set_cons_zero, List.set_cons_succ, i64_w, i32_w]
    rfl
   have hN_ := HN0.out
   have hg_ := GE.out
   have hl_ := blk_lt CE.out
   exact norm_ (by
    simp only [putAll, Act.put, List.setIfInBounds_toArray, List.set_cons_zero, List.set_cons_succ]
    try rfl) (HC ⟨_, _, _, _, _⟩ wz12 ⟨wz12.heap.size, B.out, C2.out, CS.out, CE.out, Kd.S_mono S2.out (fun q hq => by have := hq.1; have := hq.2; (try have := GL.out); omega), by (try have := GL.out); omega, hl_, rfl⟩)
 rintro ⟨Av2, cv2, g6, Av1, cv1⟩ w5 ⟨H6, f_0, f_1, f_2, f_3, f_4, f_5, f_6, f_7⟩
 clear B C2 CS hHeld
 have B := Aside0.mk f_0
 have C2 := Aside0.mk f_1
 have CS := Aside0.mk f_2
 have C6 := Aside0.mk f_3
 have S2 := Aside0.mk f_4
 have LTm := Aside0.mk (And.intro LTn.out (And.intro f_5 (And.intro f_6 f_7)))
 clear LTn HN0
 have LT := LTm
 clear LTm f_0 f_1 f_2 f_3 f_4 f_5 f_6 f_7
 refine norm_ (a' := ?_) ?_ ?_
 rotate_left
 ·simp only [putAll, Act.put, List.setIfInBounds_toArray, List.set_cons_zero, List.set_cons_succ]
  rfl
 refine one_ (i := 11) (N := none) #[true, true, true, true, true, true, true, true, true, true, true, true, false] rfl rfl (by kernel_rfl) (by decide) (fun K hK => ?_)
 have hc6_0 : w5.cell? ⟨g6, 0, none⟩ = some (.slice none 0 0) := (blk_cell C6.out 0).trans rfl
 have hf6_0 := blk_frozen C6.out 0
 rw [if_pos (by rfl)]
 unfold Oper.wp
 go_simp
 obtain ⟨w6, hw6⟩ : ∃ w6, w6 = (w5.setCell ⟨g6, 0, none⟩ (.slice Av2 b.length cv2)) := ⟨_, rfl⟩
 rw [← hw6]
 have K6 : Kept w5 w6 (fun q => q = g6) := by
  rw [hw6]
  exact Kept.setCell (S := fun q => q = g6) (p := ⟨g6, 0, none⟩) (Kept.refl w5 (fun q => q = g6)) (.inl rfl) (.slice Av2 b.length cv2)
 have Bn := Aside0.mk (show Below w.heap.size w w6 from by rw [hw6]; exact below_set B.out (by have := LT.out; omega))
 have Cn := Aside0.mk (show w6.heap[g6]? = some (.cells #[.slice Av2 b.length cv2] 28 (0, 0)) from by
  rw [hw6]
  have p0 : (w5.setCell ⟨g6, 0, none⟩ (.slice Av2 b.length cv2)).heap[g6]? = some (.cells #[.slice Av2 b.length cv2] 28 (0, 0)) := blk_put C6.out 0 (.slice Av2 b.length cv2) rfl
  exact p0)
 clear B C6
 have B := Bn
 have C6 := Cn
 clear Bn Cn
 have n0_ := Aside0.mk (blk_kept C2.out K6 (by have := LT.out; omega)); clear C2; have C2 := n0_; clear n0_; have n0_ := Aside0.mk (Kd.S_kept S2.out K6 (fun q hq e_ => by have := LT.out; omega)); clear S2; have S2 := n0_; clear n0_; have n0_ := Aside0.mk (blk_kept CS.out K6 (by have := LT.out; omega)); clear CS; have CS := n0_; clear n0_
 have hz_ := K6.1
 have LTm := Aside0.mk (And.intro LT.out (show H6 ≤ w6.heap.size from by have := LT.out; omega))
 clear LT hz_ hw6 K6 hc6_0 hf6_0
 have LT := LTm
 clear LTm
 refine hK.out _ _ ⟨(blk_cell C2.out 0).trans rfl, (blk_cell CS.out 0).trans rfl, (blk_cell CS.out 1).trans rfl, (blk_cell CS.out 2).trans rfl⟩ (fun hHeld => ?_)
 clear hK K
 refine pure_ (i := 12) (N := some 11) (v := ?_) (a' := ?_) #[true, true, true, true, true, true, true, true, true, true, true, true, true] rfl rfl (by kernel_rfl) (fun _ _ _ h => h) (Or.inl ⟨by rfl, ?_⟩) ?_ ?_
 rotate_left
 ·intro w'
  go_simp
  with_reducible rfl
 rotate_left
 ·simp only [Act.put, List.setIfInBounds_toArray, List.set_cons_zero, List.set_cons_succ, i64_w, i32_w]
  rfl
 refine done_ (by kernel_rfl) ?_
 have hc2_0 : w6.cell? ⟨g2, 0, none⟩ = some (.slice A0 l0.length c0) := (blk_cell C2.out 0).trans rfl
 go_upto_region 7 with (first | (go_at_fn 15; refine (laws_toProgram.calls k A0 c0 l0 p _ (Kd.C_below HR.out B.out) hc0 hT).mono ?_; rintro e w7 ⟨v3, rfl, hs, hb⟩; have L6 := Aside0.mk (blk_lt C6.out); have S3 := Aside0.mk (Made.new (Kd.S_mono hs (fun _ _ => trivial)) B.out.size); have Z3 := Aside0.mk hb.size; have n0_ := Aside0.mk (below_step B.out hb); clear B; have B := n0_; clear n0_; have n0_ := Aside0.mk (blk_below C2.out hb); clear C2; have C2 := n0_; clear n0_; have n0_ := Aside0.mk (blk_below C6.out hb); clear C6; have C6 := n0_; clear n0_; have n0_ := Aside0.mk (Kd.S_below S2.out hb); clear S2; have S2 := n0_; clear n0_; have n0_ := Aside0.mk (blk_below CS.out hb); clear CS; have CS := n0_; clear n0_; clear hb hs; obtain ⟨Av3, cv3, ev3⟩ := Kd.S_slice S3.out; subst ev3) | ((with_reducible refine gate_dst (N := 12) rfl ?_); refine box_event ?hg (N := 12) ?hd (cs := #[.slice none 0 0]) (t := 28) ?hr ?_; (case hd => rfl); (case hg => rfl); (case hr => first | (go_simp; done) | (go_simp; rfl)); intro g8 hg8 w8 hbox hb; have LB := Aside0.mk (show w.heap.size ≤ w7.heap.size from B.out.size); have n0_ := Aside0.mk (below_step B.out hb); clear B; have B := n0_; clear n0_; have n0_ := Aside0.mk (blk_below C2.out hb); clear C2; have C2 := n0_; clear n0_; have n0_ := Aside0.mk (blk_below C6.out hb); clear C6; have C6 := n0_; clear n0_; have n0_ := Aside0.mk (Kd.S_below S2.out hb); clear S2; have S2 := n0_; clear n0_; have n0_ := Aside0.mk (Kd.S_below S3.out hb); clear S3; have S3 := n0_; clear n0_; have n0_ := Aside0.mk (blk_below CS.out hb); clear CS; have CS := n0_; clear n0_; have C8 := Aside0.mk hbox; have G8 := Aside0.mk hg8; clear hb hbox hg8; have hc8_0 : w8.cell? ⟨g8, 0, none⟩ = some (.slice none 0 0) := (blk_cell C8.out 0).trans rfl; have hf8_0 := blk_frozen C8.out 0))
 have LTn := Aside0.mk (And.intro LT.out (show w6.heap.size ≤ w7.heap.size ∧ g8 = w7.heap.size ∧ w.heap.size ≤ g8 from ⟨Z3.out, G8.out, by have := LB.out; have := G8.out; omega⟩))
 clear LT L6 Z3 G8 LB hc2_0
 have LT := LTn
 clear LTn
 obtain ⟨w9, hw9⟩ : ∃ w9, w9 = (w8.setCell ⟨g8, 0, none⟩ (.slice Av3 p.length cv3)) := ⟨_, rfl⟩
 rw [← hw9]
 have K8 : Kept w8 w9 (fun q => q = g8) := by
  rw [hw9]
  exact Kept.setCell (S := fun q => q = g8) (p := ⟨g8, 0, none⟩) (Kept.refl w8 (fun q => q = g8)) (.inl rfl) (.slice Av3 p.length cv3)
 have Bn := Aside0.mk (show Below w.heap.size w w9 from by rw [hw9]; exact below_set B.out (by have := LT.out; omega))
 have Cn := Aside0.mk (show w9.heap[g8]? = some (.cells #[.slice Av3 p.length cv3] 28 (0, 0)) from by
  rw [hw9]
  have p0 : (w8.setCell ⟨g8, 0, none⟩ (.slice Av3 p.length cv3)).heap[g8]? = some (.cells #[.slice Av3 p.length cv3] 28 (0, 0)) := blk_put C8.out 0 (.slice Av3 p.length cv3) rfl
  exact p0)
 clear B C8
 have B := Bn
 have C8 := Cn
 clear Bn Cn
 have n0_ := Aside0.mk (blk_kept C2.out K8 (by have := LT.out; omega)); clear C2; have C2 := n0_; clear n0_; have n0_ := Aside0.mk (blk_kept C6.out K8 (by have := LT.out; omega)); clear C6; have C6 := n0_; clear n0_; have n0_ := Aside0.mk (Kd.S_kept S2.out K8 (fun q hq e_ => by have := LT.out; omega)); clear S2; have S2 := n0_; clear n0_; have n0_ := Aside0.mk (Kd.S_kept S3.out K8 (fun q hq e_ => by have := LT.out; omega)); clear S3; have S3 := n0_; clear n0_; have n0_ := Aside0.mk (blk_kept CS.out K8 (by have := LT.out; omega)); clear CS; have CS := n0_; clear n0_
 clear hw9 K8 hc8_0 hf8_0
 have hc8_0 : w9.cell? ⟨g8, 0, none⟩ = some (.slice Av3 p.length cv3) := (blk_cell C8.out 0).trans rfl
 clear hc8_0
 have hdr : Below w9.heap.size w9 w9.drew := below_drew1 (Below.refl _ _)
 have n0_ := Aside0.mk (below_step B.out hdr)
 clear B
 have B := n0_
 clear n0_
 have n0_ := Aside0.mk (blk_below C2.out hdr)
 clear C2
 have C2 := n0_
 clear n0_
 have n0_ := Aside0.mk (blk_below C6.out hdr)
 clear C6
 have C6 := n0_
 clear n0_
 have n0_ := Aside0.mk (blk_below C8.out hdr)
 clear C8
 have C8 := n0_
 clear n0_
 have n0_ := Aside0.mk (Kd.S_below S2.out hdr)
 clear S2
 have S2 := n0_
 clear n0_
 have n0_ := Aside0.mk (Kd.S_below S3.out hdr)
 clear S3
 have S3 := n0_
 clear n0_
 have n0_ := Aside0.mk (blk_below CS.out hdr)
 clear CS
 have CS := n0_
 clear n0_
 clear hdr
 refine start_ (n := 12) (S := fun w' => w'.cell? ⟨g8, 0, none⟩ = some (.slice Av3 p.length cv3) ∧ w'.cell? ⟨gs, 0, none⟩ = some (.int .i64 s0) ∧ w'.cell? ⟨gs, 1, none⟩ = some (.int .i64 s1) ∧ w'.cell? ⟨gs, 2, none⟩ = some (.int .i64 s2)) (ds := []) #[false, false, false, false, false, false, false, false, false, false, false, false] (by kernel_rfl) rfl rfl ⟨(blk_cell C8.out 0).trans rfl, (blk_cell CS.out 0).trans rfl, (blk_cell CS.out 1).trans rfl, (blk_cell CS.out 2).trans rfl⟩ (fun hHeld => ?_)
 generalize w9.drew = wd_9 at B C2 C6 C8 S2 S3 CS hHeld ⊢
 obtain ⟨N1, hN1⟩ : ∃ n_, n_ = wd_9.heap.size := ⟨_, rfl⟩
 have HN1 := Aside0.mk (show N1 = wd_9.heap.size from hN1)
 have LTn := Aside0.mk (show g8 < N1 from by
  have := hN1
  have := blk_lt C2.out
  have := blk_lt C6.out
  have := blk_lt C8.out
  have := blk_lt CS.out
  have := B.out.size
  have := LT.out
  omega)
 clear hN1
 refine take_ (i := 0) (N := some 38) (v := ?_) (a' := ?_) #[true, false, false, false, false, false, false, false, false, false, false, false] rfl rfl (by kernel_rfl) (fun _ _ _ h => h) (Or.inl ⟨by rfl, ?_⟩) hHeld ?_ ?_
 rotate_left
 ·rintro w' ⟨s0_0, s0_1, s0_2, s0_3⟩
  go_simp
  with_reducible rfl
 rotate_left
 ·simp only [Act.put, List.setIfInBounds_toArray, List.set_cons_zero, List.set_cons_succ, i64_w, i32_w]
  rfl
 refine take_ (i := 1) (N := some 39) (v := ?_) (a' := ?_) #[true, true, false, false, false, false, false, false, false, false, false, false] rfl rfl (by kernel_rfl) (fun _ _ _ h => h) (Or.inl ⟨by rfl, ?_⟩) hHeld ?_ ?_
 rotate_left
 ·rintro w' ⟨s0_0, s0_1, s0_2, s0_3⟩
  go_simp
  with_reducible rfl
 rotate_left
 ·simp only [Act.put, List.setIfInBounds_toArray, List.set_cons_zero, List.set_cons_succ, i64_w, i32_w]
  rfl
 refine take_ (i := 2) (N := some 40) (v := ?_) (a' := ?_) #[true, true, true, false, false, false, false, false, false, false, false, false] rfl rfl (by kernel_rfl) (fun _ _ _ h => h) (Or.inl ⟨by rfl, ?_⟩) hHeld ?_ ?_
 rotate_left
 ·rintro w' ⟨s0_0, s0_1, s0_2, s0_3⟩
  go_simp
  with_reducible rfl
 rotate_left
 ·simp only [Act.put, List.setIfInBounds_toArray, List.set_cons_zero, List.set_cons_succ, i64_w, i32_w]
  rfl
 refine take_ (i := 3) (N := some 41) (v := ?_) (a' := ?_) #[true, true, true, true, false, false, false, false, false, false, false, false] rfl rfl (by kernel_rfl) (fun _ _ _ h => h) (Or.inl ⟨by rfl, ?_⟩) hHeld ?_ ?_
 rotate_left
 ·rintro w' ⟨s0_0, s0_1, s0_2, s0_3⟩
  go_simp
  with_reducible rfl
 rotate_left
 ·simp only [Act.put, List.setIfInBounds_toArray, List.set_cons_zero, List.set_cons_succ, i64_w, i32_w]
  rfl
 refine join_ (σ := Option Addr × Nat × Nat) 2 #[true, true, true, true, true, true, true, true, true, true, false, false] (fun s_ => match s_ with | (Ae, ce, ge) => [(42, .agg #[.int .i64 s0, .int .i64 s1, .int .i64 s2]), (43, .tuple #[.agg #[.slice Ae b.length ce], .bool o]), (37, .tuple #[.agg #[.slice Ae b.length ce], .bool o]), (44, .agg #[.slice Ae b.length ce]), (45, .bool o), (13, .pointer (some ⟨ge, 0, none⟩))]) (fun s_ W_ => match s_ with | (Ae, ce, ge) => Aside0 (∃ H9, Below w.heap.size w W_ ∧ W_.heap[g2]? = some (.cells #[.slice A0 l0.length c0] 24 (0, 0)) ∧ W_.heap[g6]? = some (.cells #[.slice Av2 b.length cv2] 28 (0, 0)) ∧ W_.heap[g8]? = some (.cells #[.slice Av3 p.length cv3] 28 (0, 0)) ∧ Kd.S (Kd.slice 72 k72) 108 W_ w.heap.size (fun q => N0 ≤ q ∧ q < H6 ∧ q ≠ g6) (.slice Av2 b.length cv2) b ∧ Kd.S (Kd.slice 72 k72) 108 W_ w.heap.size (fun q => w6.heap.size ≤ q ∧ q < w7.heap.size) (.slice Av3 p.length cv3) p ∧ W_.heap[gs]? = some (.cells #[.int .i64 s0, .int .i64 s1, .int .i64 s2] 69 (0, 0)) ∧ W_.heap[ge]? = some (.cells #[.slice none 0 0] 28 (0, 0)) ∧ Kd.S (Kd.slice 72 k72) 108 W_ w.heap.size (fun q => N1 ≤ q ∧ q < H9 ∧ q ≠ ge) (.slice Ae b.length ce) b ∧ N1 ≤ ge ∧ ge < H9 ∧ H9 = W_.heap.size)) ?_ ?_
 rotate_left
 ·intro HC
  refine two_ (i := 4) (j := 9) (Ni := some 42) (Nj := some 13) #[true, true, true, true, true, false, false, false, false, false, false, false] #[true, true, true, true, false, false, false, false, false, true, false, false] rfl rfl rfl rfl (by kernel_rfl) (by decide) (by decide) (fun K hK => ?_) (fun K hK => ?_)
  ·
   refine goes_ Try.func48 (by kernel_rfl) rfl #[.agg #[.int .i64 s0, .int .i64 s1, .int .i64 s2]] (by rfl) rfl rfl (by (try simp only [List.map_toArray, List.map_cons, List.map_nil]); first | done | rfl) ?_
   refine (laws_toStep.calls s0 s1 s2 s0 s1 s2 _ rfl).mono ?_
   rintro e wz14_0 ⟨rfl, hb⟩
   refine ⟨_, rfl, ?_⟩
   have z14_0 := hb.size
   have n0_ := Aside0.mk (below_step B.out hb)
   clear B
   have B := n0_
   clear n0_
   have n0_ := Aside0.mk (blk_below C2.out hb)
   clear C2
   have C2 := n0_
   clear n0_
   have n0_ := Aside0.mk (blk_below C6.out hb)
   clear C6
   have C6 := n0_
   clear n0_
   have n0_ := Aside0.mk (blk_below C8.out hb)
   clear C8
   have C8 := n0_
   clear n0_
   have n0_ := Aside0.mk (Kd.S_below S2.out hb)
   clear S2
   have S2 := n0_
   clear n0_
   have n0_ := Aside0.mk (Kd.S_below S3.out hb)
   clear S3
   have S3 := n0_
   clear n0_
   have n0_ := Aside0.mk (blk_below CS.out hb)
   clear CS
   have CS := n0_
   clear n0_
   clear hb
   refine hK.out _ _ ⟨(blk_cell C8.out 0).trans rfl, (blk_cell CS.out 0).trans rfl, (blk_cell CS.out 1).trans rfl, (blk_cell CS.out 2).trans rfl⟩ (fun hHeld => ?_)
   clear hK K
   refine norm_ (a' := ?_) ?_ ?_
   rotate_left
   ·show Act.put _ (some 42) _ = _
    simp only [Act.put, List.setIfInBounds_toArray, List.set_cons_zero, List.set_cons_succ, i64_w, i32_w]
    rfl
   refine two_ (i := 5) (j := 9) (Ni := some 43) (Nj := some 13) #[true, true, true, true, true, true, false, false, false, false, false, false] #[true, true, true, true, true, false, false, false, false, true, false, false] rfl rfl rfl rfl (by kernel_rfl) (by decide) (by decide) (fun K hK => ?_) (fun K hK => ?_)
   ·
    refine goes_ Try.func49 (by kernel_rfl) rfl #[.agg #[.slice Av3 p.length cv3], .int .i64 x1, .int .i64 x2, .agg #[.int .i64 s0, .int .i64 s1, .int .i64 s2]] (by rfl) rfl rfl (by (try simp only [List.map_toArray, List.map_cons, List.map_nil]); first | done | rfl) ?_
    refine (impl_PutStep.calls Av3 cv3 p x1 x2 s0 s1 s2 b  o _ (Kd.S_reads' S3.out).2.2 (Kd.S_reads' S3.out).2.1 hI).mono ?_
    rintro e wz15_0 ⟨v2_, rfl, hs, hb⟩
    refine ⟨_, rfl, ?_⟩
    have z15_0 := hb.size
    have S4 := Aside0.mk (Made.new (Kd.S_mono hs (fun _ _ => trivial)) B.out.size)
    have n0_ := Aside0.mk (below_step B.out hb)
    clear B
    have B := n0_
    clear n0_
    have n0_ := Aside0.mk (blk_below C2.out hb)
    clear C2
    have C2 := n0_
    clear n0_
    have n0_ := Aside0.mk (blk_below C6.out hb)
    clear C6
    have C6 := n0_
    clear n0_
    have n0_ := Aside0.mk (blk_below C8.out hb)
    clear C8
    have C8 := n0_
    clear n0_
    have n0_ := Aside0.mk (Kd.S_below S2.out hb)
    clear S2
    have S2 := n0_
    clear n0_
    have n0_ := Aside0.mk (Kd.S_below S3.out hb)
    clear S3
    have S3 := n0_
    clear n0_
    have n0_ := Aside0.mk (blk_below CS.out hb)
    clear CS
    have CS := n0_
    clear n0_
    clear hb hs
    obtain ⟨Ae, ce, ev_⟩ := Kd.S_slice S4.out
    subst ev_
    refine hK.out _ _ ⟨(blk_cell C8.out 0).trans rfl, (blk_cell CS.out 0).trans rfl, (blk_cell CS.out 1).trans rfl, (blk_cell CS.out 2).trans rfl⟩ (fun hHeld => ?_)
    clear hK K
    refine norm_ (a' := ?_) ?_ ?_
    rotate_left
    ·show Act.put _ (some 43) _ = _
     simp only [Act.put, List.setIfInBounds_toArray, List.set_cons_zero, List.set_cons_succ, i64_w, i32_w]
     rfl
    refine pure_ (i := 6) (N := some 37) (v := ?_) (a' := ?_) #[true, true, true, true, true, true, true, false, false, false, false, false] rfl rfl (by kernel_rfl) (fun _ _ _ h => h) (Or.inl ⟨by rfl, ?_⟩) ?_ ?_
    rotate_left
    ·intro w'
     go_simp
     with_reducible rfl
    rotate_left
    ·simp only [Act.put, List.setIfInBounds_toArray, List.set_cons_zero, List.set_cons_succ, i64_w, i32_w]
     rfl
    refine pure_ (i := 7) (N := some 44) (v := ?_) (a' := ?_) #[true, true, true, true, true, true, true, true, false, false, false, false] rfl rfl (by kernel_rfl) (fun _ _ _ h => h) (Or.inl ⟨by rfl, ?_⟩) ?_ ?_
    rotate_left
    ·intro w'
     go_simp
     with_reducible rfl
    rotate_left
    ·simp only [Act.put, List.setIfInBounds_toArray, List.set_cons_zero, List.set_cons_succ, i64_w, i32_w]
     rfl
    refine pure_ (i := 8) (N := some 45) (v := ?_) (a' := ?_) #[true, true, true, true, true, true, true, true, true, false, false, false] rfl rfl (by kernel_rfl) (fun _ _ _ h => h) (Or.inl ⟨by rfl, ?_⟩) ?_ ?_
    rotate_left
    ·intro w'
     go_simp
     with_reducible rfl
    rotate_left
    ·simp only [Act.put, List.setIfInBounds_toArray, List.set_cons_zero, List.set_cons_succ, i64_w, i32_w]
     rfl
    refine one_ (i := 9) (N := some 13) #[true, true, true, true, true, true, true, true, true, true, false, false] rfl rfl (by kernel_rfl) (by decide) (fun K hK => ?_)
    refine box_step (by rfl) (N := 13) rfl (cs := #[.slice none 0 0]) (t := 28) ?_ ?_
    ·first | (go_simp; done) | (go_simp; rfl)
    intro ge hge wz16 hbox hb
    have z16 := hb.size
    have n0_ := Aside0.mk (below_step B.out hb)
    clear B
    have B := n0_
    clear n0_
    have n0_ := Aside0.mk (blk_below C2.out hb)
    clear C2
    have C2 := n0_
    clear n0_
    have n0_ := Aside0.mk (blk_below C6.out hb)
    clear C6
    have C6 := n0_
    clear n0_
    have n0_ := Aside0.mk (blk_below C8.out hb)
    clear C8
    have C8 := n0_
    clear n0_
    have n0_ := Aside0.mk (Kd.S_below S2.out hb)
    clear S2
    have S2 := n0_
    clear n0_
    have n0_ := Aside0.mk (Kd.S_below S3.out hb)
    clear S3
    have S3 := n0_
    clear n0_
    have n0_ := Aside0.mk (Kd.S_below S4.out hb)
    clear S4
    have S4 := n0_
    clear n0_
    have n0_ := Aside0.mk (blk_below CS.out hb)
    clear CS
    have CS := n0_
    clear n0_
    have CE := Aside0.mk hbox
    have GE := Aside0.mk hge
    clear hb hbox hge
    refine hK.out _ _ ⟨(blk_cell C8.out 0).trans rfl, (blk_cell CS.out 0).trans rfl, (blk_cell CS.out 1).trans rfl, (blk_cell CS.out 2).trans rfl⟩ (fun hHeld => ?_)
    clear hK K
    refine norm_ (a' := ?_) ?_ ?_
    rotate_left
    ·show Act.put _ (some 13) _ = _
     simp only [Act.put, List.setIfInBounds_toArray, List.set_cons_zero, List.set_cons_succ, i64_w, i32_w]
     rfl
    have hN_ := HN1.out
    have hg_ := GE.out
    have hl_ := blk_lt CE.out
    exact norm_ (by
     simp only [putAll, Act.put, List.setIfInBounds_toArray, List.set_cons_zero, List.set_cons_succ]
     try rfl) (HC ⟨_, _, _⟩ wz16 ⟨wz16.heap.size, B.out, C2.out, C6.out, C8.out, S2.out, S3.out, CS.out, CE.out, Kd.S_mono S4.out (fun q hq => by have := hq.1; have := hq.2; (try have := GL.out); omega), by (try have := GL.out); omega, hl_, rfl⟩)
   ·
    refine box_step (by rfl) (N := 13) rfl (cs := #[.slice none 0 0]) (t := 28) ?_ ?_
    ·first | (go_simp; done) | (go_simp; rfl)
    intro ge hge wz15_1 hbox hb
    have z15_1 := hb.size
    have n0_ := Aside0.mk (below_step B.out hb)
    clear B
    have B := n0_
    clear n0_
    have n0_ := Aside0.mk (blk_below C2.out hb)
    clear C2
    have C2 := n0_
    clear n0_
    have n0_ := Aside0.mk (blk_below C6.out hb)
    clear C6
    have C6 := n0_
    clear n0_
    have n0_ := Aside0.mk (blk_below C8.out hb)
    clear C8
    have C8 := n0_
    clear n0_
    have n0_ := Aside0.mk (Kd.S_below S2.out hb)
    clear S2
    have S2 := n0_
    clear n0_
    have n0_ := Aside0.mk (Kd.S_below S3.out hb)
    clear S3
    have S3 := n0_
    clear n0_
    have n0_ := Aside0.mk (blk_below CS.out hb)
    clear CS
    have CS := n0_
    clear n0_
    have CE := Aside0.mk hbox
    have GE := Aside0.mk hge
    clear hb hbox hge
    refine hK.out _ _ ⟨(blk_cell C8.out 0).trans rfl, (blk_cell CS.out 0).trans rfl, (blk_cell CS.out 1).trans rfl, (blk_cell CS.out 2).trans rfl⟩ (fun hHeld => ?_)
    clear hK K
    refine norm_ (a' := ?_) ?_ ?_
    rotate_left
    ·show Act.put _ (some 13) _ = _
     simp only [Act.put, List.setIfInBounds_toArray, List.set_cons_zero, List.set_cons_succ, i64_w, i32_w]
     rfl
    refine one_ (i := 5) (N := some 43) #[true, true, true, true, true, true, false, false, false, true, false, false] rfl rfl (by kernel_rfl) (by decide) (fun K hK => ?_)
    have GL := Aside0.mk (blk_lt CE.out)
    refine goes_ Try.func49 (by kernel_rfl) rfl #[.agg #[.slice Av3 p.length cv3], .int .i64 x1, .int .i64 x2, .agg #[.int .i64 s0, .int .i64 s1, .int .i64 s2]] (by rfl) rfl rfl (by (try simp only [List.map_toArray, List.map_cons, List.map_nil]); first | done | rfl) ?_
    refine (impl_PutStep.calls Av3 cv3 p x1 x2 s0 s1 s2 b  o _ (Kd.S_reads' S3.out).2.2 (Kd.S_reads' S3.out).2.1 hI).mono ?_
    rintro e wz17 ⟨v2_, rfl, hs, hb⟩
    refine ⟨_, rfl, ?_⟩
    have z17 := hb.size
    have S4 := Aside0.mk (Made.new (Kd.S_mono hs (fun _ _ => trivial)) B.out.size)
    have n0_ := Aside0.mk (below_step B.out hb)
    clear B
    have B := n0_
    clear n0_
    have n0_ := Aside0.mk (blk_below C2.out hb)
    clear C2
    have C2 := n0_
    clear n0_
    have n0_ := Aside0.mk (blk_below C6.out hb)
    clear C6
    have C6 := n0_
    clear n0_
    have n0_ := Aside0.mk (blk_below C8.out hb)
    clear C8
    have C8 := n0_
    clear n0_
    have n0_ := Aside0.mk (Kd.S_below S2.out hb)
    clear S2
    have S2 := n0_
    clear n0_
    have n0_ := Aside0.mk (Kd.S_below S3.out hb)
    clear S3
    have S3 := n0_
    clear n0_
    have n0_ := Aside0.mk (blk_below CE.out hb)
    clear CE
    have CE := n0_
    clear n0_
    have n0_ := Aside0.mk (blk_below CS.out hb)
    clear CS
    have CS := n0_
    clear n0_
    clear hb hs
    obtain ⟨Ae, ce, ev_⟩ := Kd.S_slice S4.out
    subst ev_
    refine hK.out _ _ ⟨(blk_cell C8.out 0).trans rfl, (blk_cell CS.out 0).trans rfl, (blk_cell CS.out 1).trans rfl, (blk_cell CS.out 2).trans rfl⟩ (fun hHeld => ?_)
    clear hK K
    refine norm_ (a' := ?_) ?_ ?_
    rotate_left
    ·show Act.put _ (some 43) _ = _
     simp only [Act.put, List.setIfInBounds_toArray, List.set_cons_zero, List.set_cons_succ, i64_w, i32_w]
     rfl
    refine pure_ (i := 6) (N := some 37) (v := ?_) (a' := ?_) #[true, true, true, true, true, true, true, false, false, true, false, false] rfl rfl (by kernel_rfl) (fun _ _ _ h => h) (Or.inl ⟨by rfl, ?_⟩) ?_ ?_
    rotate_left
    ·intro w'
     go_simp
     with_reducible rfl
    rotate_left
    ·simp only [Act.put, List.setIfInBounds_toArray, List.set_cons_zero, List.set_cons_succ, i64_w, i32_w]
     rfl
    refine pure_ (i := 7) (N := some 44) (v := ?_) (a' := ?_) #[true, true, true, true, true, true, true, true, false, true, false, false] rfl rfl (by kernel_rfl) (fun _ _ _ h => h) (Or.inl ⟨by rfl, ?_⟩) ?_ ?_
    rotate_left
    ·intro w'
     go_simp
     with_reducible rfl
    rotate_left
    ·simp only [Act.put, List.setIfInBounds_toArray, List.set_cons_zero, List.set_cons_succ, i64_w, i32_w]
     rfl
    refine pure_ (i := 8) (N := some 45) (v := ?_) (a' := ?_) #[true, true, true, true, true, true, true, true, true, true, false, false] rfl rfl (by kernel_rfl) (fun _ _ _ h => h) (Or.inl ⟨by rfl, ?_⟩) ?_ ?_
    rotate_left
    ·intro w'
     go_simp
     with_reducible rfl
    rotate_left
    ·simp only [Act.put, List.setIfInBounds_toArray, List.set_cons_zero, List.set_cons_succ, i64_w, i32_w]
     rfl
    have hN_ := HN1.out
    have hg_ := GE.out
    have hl_ := blk_lt CE.out
    exact norm_ (by
     simp only [putAll, Act.put, List.setIfInBounds_toArray, List.set_cons_zero, List.set_cons_succ]
     try rfl) (HC ⟨_, _, _⟩ wz17 ⟨wz17.heap.size, B.out, C2.out, C6.out, C8.out, S2.out, S3.out, CS.out, CE.out, Kd.S_mono S4.out (fun q hq => by have := hq.1; have := hq.2; (try have := GL.out); omega), by (try have := GL.out); omega, hl_, rfl⟩)
  ·
   refine box_step (by rfl) (N := 13) rfl (cs := #[.slice none 0 0]) (t := 28) ?_ ?_
   ·first | (go_simp; done) | (go_simp; rfl)
   intro ge hge wz14_1 hbox hb
   have z14_1 := hb.size
   have n0_ := Aside0.mk (below_step B.out hb)
   clear B
   have B := n0_
   clear n0_
   have n0_ := Aside0.mk (blk_below C2.out hb)
   clear C2
   have C2 := n0_
   clear n0_
   have n0_ := Aside0.mk (blk_below C6.out hb)
   clear C6
   have C6 := n0_
   clear n0_
   have n0_ := Aside0.mk (blk_below C8.out hb)
   clear C8
   have C8 := n0_
   clear n0_
   have n0_ := Aside0.mk (Kd.S_below S2.out hb)
   clear S2
   have S2 := n0_
   clear n0_
   have n0_ := Aside0.mk (Kd.S_below S3.out hb)
   clear S3
   have S3 := n0_
   clear n0_
   have n0_ := Aside0.mk (blk_below CS.out hb)
   clear CS
   have CS := n0_
   clear n0_
   have CE := Aside0.mk hbox
   have GE := Aside0.mk hge
   clear hb hbox hge
   refine hK.out _ _ ⟨(blk_cell C8.out 0).trans rfl, (blk_cell CS.out 0).trans rfl, (blk_cell CS.out 1).trans rfl, (blk_cell CS.out 2).trans rfl⟩ (fun hHeld => ?_)
   clear hK K
   refine norm_ (a' := ?_) ?_ ?_
   rotate_left
   ·show Act.put _ (some 13) _ = _
    simp only [Act.put, List.setIfInBounds_toArray, List.set_cons_zero, List.set_cons_succ, i64_w, i32_w]
    rfl
   refine one_ (i := 4) (N := some 42) #[true, true, true, true, true, false, false, false, false, true, false, false] rfl rfl (by kernel_rfl) (by decide) (fun K hK => ?_)
   refine goes_ Try.func48 (by kernel_rfl) rfl #[.agg #[.int .i64 s0, .int .i64 s1, .int .i64 s2]] (by rfl) rfl rfl (by (try simp only [List.map_toArray, List.map_cons, List.map_nil]); first | done | rfl) ?_
   refine (laws_toStep.calls s0 s1 s2 s0 s1 s2 _ rfl).mono ?_
   rintro e wz19 ⟨rfl, hb⟩
   refine ⟨_, rfl, ?_⟩
   have z19 := hb.size
   have n0_ := Aside0.mk (below_step B.out hb)
   clear B
   have B := n0_
   clear n0_
   have n0_ := Aside0.mk (blk_below C2.out hb)
   clear C2
   have C2 := n0_
   clear n0_
   have n0_ := Aside0.mk (blk_below C6.out hb)
   clear C6
   have C6 := n0_
   clear n0_
   have n0_ := Aside0.mk (blk_below C8.out hb)
   clear C8
   have C8 := n0_
   clear n0_
   have n0_ := Aside0.mk (Kd.S_below S2.out hb)
   clear S2
   have S2 := n0_
   clear n0_
   have n0_ := Aside0.mk (Kd.S_below S3.out hb)
   clear S3
   have S3 := n0_
   clear n0_
   have n0_ := Aside0.mk (blk_below CE.out hb)
   clear CE
   have CE := n0_
   clear n0_
   have n0_ := Aside0.mk (blk_below CS.out hb)
   clear CS
   have CS := n0_
   clear n0_
   clear hb
   refine hK.out _ _ ⟨(blk_cell C8.out 0).trans rfl, (blk_cell CS.out 0).trans rfl, (blk_cell CS.out 1).trans rfl, (blk_cell CS.out 2).trans rfl⟩ (fun hHeld => ?_)
   clear hK K
   refine norm_ (a' := ?_) ?_ ?_
   rotate_left
   ·show Act.put _ (some 42) _ = _
    simp only [Act.put, List.setIfInBounds_toArray, List.set_cons_zero, List.set_cons_succ, i64_w, i32_w]
    rfl
   refine one_ (i := 5) (N := some 43) #[true, true, true, true, true, true, false, false, false, true, false, false] rfl rfl (by kernel_rfl) (by decide) (fun K hK => ?_)
   have GL := Aside0.mk (blk_lt CE.out)
   refine goes_ Try.func49 (by kernel_rfl) rfl #[.agg #[.slice Av3 p.length cv3], .int .i64 x1, .int .i64 x2, .agg #[.int .i64 s0, .int .i64 s1, .int .i64 s2]] (by rfl) rfl rfl (by (try simp only [List.map_toArray, List.map_cons, List.map_nil]); first | done | rfl) ?_
   refine (impl_PutStep.calls Av3 cv3 p x1 x2 s0 s1 s2 b  o _ (Kd.S_reads' S3.out).2.2 (Kd.S_reads' S3.out).2.1 hI).mono ?_
   rintro e wz20 ⟨v2_, rfl, hs, hb⟩
   refine ⟨_, rfl, ?_⟩
   have z20 := hb.size
   have S4 := Aside0.mk (Made.new (Kd.S_mono hs (fun _ _ => trivial)) B.out.size)
   have n0_ := Aside0.mk (below_step B.out hb)
   clear B
   have B := n0_
   clear n0_
   have n0_ := Aside0.mk (blk_below C2.out hb)
   clear C2
   have C2 := n0_
   clear n0_
   have n0_ := Aside0.mk (blk_below C6.out hb)
   clear C6
   have C6 := n0_
   clear n0_
   have n0_ := Aside0.mk (blk_below C8.out hb)
   clear C8
   have C8 := n0_
   clear n0_
   have n0_ := Aside0.mk (Kd.S_below S2.out hb)
   clear S2
   have S2 := n0_
   clear n0_
   have n0_ := Aside0.mk (Kd.S_below S3.out hb)
   clear S3
   have S3 := n0_
   clear n0_
   have n0_ := Aside0.mk (blk_below CE.out hb)
   clear CE
   have CE := n0_
   clear n0_
   have n0_ := Aside0.mk (blk_below CS.out hb)
   clear CS
   have CS := n0_
   clear n0_
   clear hb hs
   obtain ⟨Ae, ce, ev_⟩ := Kd.S_slice S4.out
   subst ev_
   refine hK.out _ _ ⟨(blk_cell C8.out 0).trans rfl, (blk_cell CS.out 0).trans rfl, (blk_cell CS.out 1).trans rfl, (blk_cell CS.out 2).trans rfl⟩ (fun hHeld => ?_)
   clear hK K
   refine norm_ (a' := ?_) ?_ ?_
   rotate_left
   ·show Act.put _ (some 43) _ = _
    simp only [Act.put, List.setIfInBounds_toArray, List.set_cons_zero, List.set_cons_succ, i64_w, i32_w]
    rfl
   refine pure_ (i := 6) (N := some 37) (v := ?_) (a' := ?_) #[true, true, true, true, true, true, true, false, false, true, false, false] rfl rfl (by kernel_rfl) (fun _ _ _ h => h) (Or.inl ⟨by rfl, ?_⟩) ?_ ?_
   rotate_left
   ·intro w'
    go_simp
    with_reducible rfl
   rotate_left
   ·simp only [Act.put, List.setIfInBounds_toArray, List.set_cons_zero, List.set_cons_succ, i64_w, i32_w]
    rfl
   refine pure_ (i := 7) (N := some 44) (v := ?_) (a' := ?_) #[true, true, true, true, true, true, true, true, false, true, false, false] rfl rfl (by kernel_rfl) (fun _ _ _ h => h) (Or.inl ⟨by rfl, ?_⟩) ?_ ?_
   rotate_left
   ·intro w'
    go_simp
    with_reducible rfl
   rotate_left
   ·simp only [Act.put, List.setIfInBounds_toArray, List.set_cons_zero, List.set_cons_succ, i64_w, i32_w]
    rfl
   refine pure_ (i := 8) (N := some 45) (v := ?_) (a' := ?_) #[true, true, true, true, true, true, true, true, true, true, false, false] rfl rfl (by kernel_rfl) (fun _ _ _ h => h) (Or.inl ⟨by rfl, ?_⟩) ?_ ?_
   rotate_left
   ·intro w'
    go_simp
    with_reducible rfl
   rotate_left
   ·simp only [Act.put, List.setIfInBounds_toArray, List.set_cons_zero, List.set_cons_succ, i64_w, i32_w]
    rfl
   have hN_ := HN1.out
   have hg_ := GE.out
   have hl_ := blk_lt CE.out
   exact norm_ (by
    simp only [putAll, Act.put, List.setIfInBounds_toArray, List.set_cons_zero, List.set_cons_succ]
    try rfl) (HC ⟨_, _, _⟩ wz20 ⟨wz20.heap.size, B.out, C2.out, C6.out, C8.out, S2.out, S3.out, CS.out, CE.out, Kd.S_mono S4.out (fun q hq => by have := hq.1; have := hq.2; (try have := GL.out); omega), by (try have := GL.out); omega, hl_, rfl⟩)
 rintro ⟨Av4, cv4, g9⟩ w11 ⟨H9, f_0, f_1, f_2, f_3, f_4, f_5, f_6, f_7, f_8, f_9, f_10, f_11⟩
 clear B C2 C6 C8 S2 S3 CS hHeld
 have B := Aside0.mk f_0
 have C2 := Aside0.mk f_1
 have C6 := Aside0.mk f_2
 have C8 := Aside0.mk f_3
 have S2 := Aside0.mk f_4
 have S3 := Aside0.mk f_5
 have CS := Aside0.mk f_6
 have C9 := Aside0.mk f_7
 have S4 := Aside0.mk f_8
 have LTm := Aside0.mk (And.intro (And.intro LT.out LTn.out) (And.intro f_9 (And.intro f_10 f_11)))
 clear LTn HN1 LT
 have LT := LTm
 clear LTm f_0 f_1 f_2 f_3 f_4 f_5 f_6 f_7 f_8 f_9 f_10 f_11
 refine norm_ (a' := ?_) ?_ ?_
 rotate_left
 ·simp only [putAll, Act.put, List.setIfInBounds_toArray, List.set_cons_zero, List.set_cons_succ]
  rfl
 refine one_ (i := 10) (N := none) #[true, true, true, true, true, true, true, true, true, true, true, false] rfl rfl (by kernel_rfl) (by decide) (fun K hK => ?_)
 have hc9_0 : w11.cell? ⟨g9, 0, none⟩ = some (.slice none 0 0) := (blk_cell C9.out 0).trans rfl
 have hf9_0 := blk_frozen C9.out 0
 rw [if_pos (by rfl)]
 unfold Oper.wp
 go_simp
 obtain ⟨w12, hw12⟩ : ∃ w12, w12 = (w11.setCell ⟨g9, 0, none⟩ (.slice Av4 b.length cv4)) := ⟨_, rfl⟩
 rw [← hw12]
 have K9 : Kept w11 w12 (fun q => q = g9) := by
  rw [hw12]
  exact Kept.setCell (S := fun q => q = g9) (p := ⟨g9, 0, none⟩) (Kept.refl w11 (fun q => q = g9)) (.inl rfl) (.slice Av4 b.length cv4)
 have Bn := Aside0.mk (show Below w.heap.size w w12 from by rw [hw12]; exact below_set B.out (by have := LT.out; omega))
 have Cn := Aside0.mk (show w12.heap[g9]? = some (.cells #[.slice Av4 b.length cv4] 28 (0, 0)) from by
  rw [hw12]
  have p0 : (w11.setCell ⟨g9, 0, none⟩ (.slice Av4 b.length cv4)).heap[g9]? = some (.cells #[.slice Av4 b.length cv4] 28 (0, 0)) := blk_put C9.out 0 (.slice Av4 b.length cv4) rfl
  exact p0)
 clear B C9
 have B := Bn
 have C9 := Cn
 clear Bn Cn
 have n0_ := Aside0.mk (blk_kept C2.out K9 (by have := LT.out; omega)); clear C2; have C2 := n0_; clear n0_; have n0_ := Aside0.mk (blk_kept C6.out K9 (by have := LT.out; omega)); clear C6; have C6 := n0_; clear n0_; have n0_ := Aside0.mk (blk_kept C8.out K9 (by have := LT.out; omega)); clear C8; have C8 := n0_; clear n0_; have n0_ := Aside0.mk (Kd.S_kept S2.out K9 (fun q hq e_ => by have := LT.out; omega)); clear S2; have S2 := n0_; clear n0_; have n0_ := Aside0.mk (Kd.S_kept S3.out K9 (fun q hq e_ => by have := LT.out; omega)); clear S3; have S3 := n0_; clear n0_; have n0_ := Aside0.mk (Kd.S_kept S4.out K9 (fun q hq e_ => by have := LT.out; omega)); clear S4; have S4 := n0_; clear n0_; have n0_ := Aside0.mk (blk_kept CS.out K9 (by have := LT.out; omega)); clear CS; have CS := n0_; clear n0_
 have hz_ := K9.1
 have LTm := Aside0.mk (And.intro LT.out (show H9 ≤ w12.heap.size from by have := LT.out; omega))
 clear LT hz_ hw12 K9 hc9_0 hf9_0
 have LT := LTm
 clear LTm
 refine hK.out _ _ ⟨(blk_cell C8.out 0).trans rfl, (blk_cell CS.out 0).trans rfl, (blk_cell CS.out 1).trans rfl, (blk_cell CS.out 2).trans rfl⟩ (fun hHeld => ?_)
 clear hK K
 refine pure_ (i := 11) (N := some 14) (v := ?_) (a' := ?_) #[true, true, true, true, true, true, true, true, true, true, true, true] rfl rfl (by kernel_rfl) (fun _ _ _ h => h) (Or.inl ⟨by rfl, ?_⟩) ?_ ?_
 rotate_left
 ·intro w'
  go_simp
  with_reducible rfl
 rotate_left
 ·simp only [Act.put, List.setIfInBounds_toArray, List.set_cons_zero, List.set_cons_succ, i64_w, i32_w]
  rfl
 refine done_ (by kernel_rfl) ?_
 have hc9_0 : w12.cell? ⟨g9, 0, none⟩ = some (.slice Av4 b.length cv4) := (blk_cell C9.out 0).trans rfl
 have hc6_0 : w12.cell? ⟨g6, 0, none⟩ = some (.slice Av2 b.length cv2) := (blk_cell C6.out 0).trans rfl
 go_upto_region 10 with (first | (go_at_fn 18; refine (laws_eqProgram.calls k Av4 cv4 b  Av2 cv2 b  true _ (Kd.S_reads' S4.out).2.2 (Kd.S_reads' S4.out).2.1 (Kd.S_reads' S2.out).2.2 (Kd.S_reads' S2.out).2.1 hE).mono ?_; rintro e w13 ⟨rfl, hb⟩; have n0_ := Aside0.mk (below_step B.out hb); clear B; have B := n0_; clear n0_; have n0_ := Aside0.mk (blk_below C2.out hb); clear C2; have C2 := n0_; clear n0_; have n0_ := Aside0.mk (blk_below C6.out hb); clear C6; have C6 := n0_; clear n0_; have n0_ := Aside0.mk (blk_below C8.out hb); clear C8; have C8 := n0_; clear n0_; have n0_ := Aside0.mk (blk_below C9.out hb); clear C9; have C9 := n0_; clear n0_; have n0_ := Aside0.mk (Kd.S_below S2.out hb); clear S2; have S2 := n0_; clear n0_; have n0_ := Aside0.mk (Kd.S_below S3.out hb); clear S3; have S3 := n0_; clear n0_; have n0_ := Aside0.mk (Kd.S_below S4.out hb); clear S4; have S4 := n0_; clear n0_; have n0_ := Aside0.mk (blk_below CS.out hb); clear CS; have CS := n0_; clear n0_; clear hb))
 clear hc9_0 hc6_0
 try go_wp2
 have hdr : Below w13.heap.size w13 w13.drew := below_drew1 (Below.refl _ _)
 have n0_ := Aside0.mk (below_step B.out hdr)
 clear B
 have B := n0_
 clear n0_
 have n0_ := Aside0.mk (blk_below C2.out hdr)
 clear C2
 have C2 := n0_
 clear n0_
 have n0_ := Aside0.mk (blk_below C6.out hdr)
 clear C6
 have C6 := n0_
 clear n0_
 have n0_ := Aside0.mk (blk_below C8.out hdr)
 clear C8
 have C8 := n0_
 clear n0_
 have n0_ := Aside0.mk (blk_below C9.out hdr)
 clear C9
 have C9 := n0_
 clear n0_
 have n0_ := Aside0.mk (Kd.S_below S2.out hdr)
 clear S2
 have S2 := n0_
 clear n0_
 have n0_ := Aside0.mk (Kd.S_below S3.out hdr)
 clear S3
 have S3 := n0_
 clear n0_
 have n0_ := Aside0.mk (Kd.S_below S4.out hdr)
 clear S4
 have S4 := n0_
 clear n0_
 have n0_ := Aside0.mk (blk_below CS.out hdr)
 clear CS
 have CS := n0_
 clear n0_
 clear hdr
 refine start_ (n := 5) (S := fun w' => w'.cell? ⟨g8, 0, none⟩ = some (.slice Av3 p.length cv3) ∧ w'.cell? ⟨g2, 0, none⟩ = some (.slice A0 l0.length c0)) (ds := []) #[false, false, false, false, false] (by kernel_rfl) rfl rfl ⟨(blk_cell C8.out 0).trans rfl, (blk_cell C2.out 0).trans rfl⟩ (fun hHeld => ?_)
 generalize w13.drew = wd at B C2 C6 C8 C9 S2 S3 S4 CS hHeld ⊢
 refine take_ (i := 0) (N := some 55) (v := ?_) (a' := ?_) #[true, false, false, false, false] rfl rfl (by kernel_rfl) (fun _ _ _ h => h) (Or.inl ⟨by rfl, ?_⟩) hHeld ?_ ?_
 rotate_left
 ·rintro w' ⟨s0, s1⟩
  go_simp
  with_reducible rfl
 rotate_left
 ·simp only [Act.put, List.setIfInBounds_toArray, List.set_cons_zero, List.set_cons_succ, i64_w, i32_w]
  rfl
 refine take_ (i := 1) (N := some 56) (v := ?_) (a' := ?_) #[true, true, false, false, false] rfl rfl (by kernel_rfl) (fun _ _ _ h => h) (Or.inl ⟨by rfl, ?_⟩) hHeld ?_ ?_
 rotate_left
 ·rintro w' ⟨s0, s1⟩
  go_simp
  with_reducible rfl
 rotate_left
 ·simp only [Act.put, List.setIfInBounds_toArray, List.set_cons_zero, List.set_cons_succ, i64_w, i32_w]
  rfl
 refine one_ (i := 2) (N := some 57) #[true, true, true, false, false] rfl rfl (by kernel_rfl) (by decide) (fun K hK => ?_)
 refine goes_ Try.func15 (by kernel_rfl) rfl #[.agg #[.slice A0 l0.length c0]] (by rfl) rfl rfl (by (try simp only [List.map_toArray, List.map_cons, List.map_nil]); first | done | rfl) ?_
 refine (laws_toProgram.calls k A0 c0 l0 p _ (Kd.C_below HR.out B.out) hc0 hT).mono ?_
 rintro e w14 ⟨v5, rfl, hs, hb⟩
 refine ⟨_, rfl, ?_⟩
 have S5 := Aside0.mk hs
 have n0_ := Aside0.mk (below_step B.out hb)
 clear B
 have B := n0_
 clear n0_
 have n0_ := Aside0.mk (blk_below C2.out hb)
 clear C2
 have C2 := n0_
 clear n0_
 have n0_ := Aside0.mk (blk_below C6.out hb)
 clear C6
 have C6 := n0_
 clear n0_
 have n0_ := Aside0.mk (blk_below C8.out hb)
 clear C8
 have C8 := n0_
 clear n0_
 have n0_ := Aside0.mk (blk_below C9.out hb)
 clear C9
 have C9 := n0_
 clear n0_
 have n0_ := Aside0.mk (Kd.S_below S2.out hb)
 clear S2
 have S2 := n0_
 clear n0_
 have n0_ := Aside0.mk (Kd.S_below S3.out hb)
 clear S3
 have S3 := n0_
 clear n0_
 have n0_ := Aside0.mk (Kd.S_below S4.out hb)
 clear S4
 have S4 := n0_
 clear n0_
 have n0_ := Aside0.mk (blk_below CS.out hb)
 clear CS
 have CS := n0_
 clear n0_
 clear hb hs
 obtain ⟨Av5, cv5, ev5⟩ := Kd.S_slice S5.out
 subst ev5
 refine hK.out _ _ ⟨(blk_cell C8.out 0).trans rfl, (blk_cell C2.out 0).trans rfl⟩ (fun hHeld => ?_)
 clear hK K
 refine norm_ (a' := ?_) ?_ ?_
 rotate_left
 ·show Act.put _ (some 57) _ = _
  simp only [Act.put, List.setIfInBounds_toArray, List.set_cons_zero, List.set_cons_succ, i64_w, i32_w]
  rfl
 refine one_ (i := 3) (N := some 58) #[true, true, true, true, false] rfl rfl (by kernel_rfl) (by decide) (fun K hK => ?_)
 refine goes_ Try.func18 (by kernel_rfl) rfl #[.agg #[.slice Av3 p.length cv3], .agg #[.slice Av5 p.length cv5]] (by rfl) rfl rfl (by (try simp only [List.map_toArray, List.map_cons, List.map_nil]); first | done | rfl) ?_
 refine (laws_eqProgram.calls k Av3 cv3 p  Av5 cv5 p  true _ (Kd.S_reads' S3.out).2.2 (Kd.S_reads' S3.out).2.1 (Kd.S_reads' S5.out).2.2 (Kd.S_reads' S5.out).2.1 hEp).mono ?_
 rintro e w15 ⟨rfl, hb⟩
 refine ⟨_, rfl, ?_⟩
 have n0_ := Aside0.mk (below_step B.out hb)
 clear B
 have B := n0_
 clear n0_
 have n0_ := Aside0.mk (blk_below C2.out hb)
 clear C2
 have C2 := n0_
 clear n0_
 have n0_ := Aside0.mk (blk_below C6.out hb)
 clear C6
 have C6 := n0_
 clear n0_
 have n0_ := Aside0.mk (blk_below C8.out hb)
 clear C8
 have C8 := n0_
 clear n0_
 have n0_ := Aside0.mk (blk_below C9.out hb)
 clear C9
 have C9 := n0_
 clear n0_
 have n0_ := Aside0.mk (Kd.S_below S2.out hb)
 clear S2
 have S2 := n0_
 clear n0_
 have n0_ := Aside0.mk (Kd.S_below S3.out hb)
 clear S3
 have S3 := n0_
 clear n0_
 have n0_ := Aside0.mk (Kd.S_below S4.out hb)
 clear S4
 have S4 := n0_
 clear n0_
 have n0_ := Aside0.mk (blk_below CS.out hb)
 clear CS
 have CS := n0_
 clear n0_
 clear hb S5
 refine hK.out _ _ ⟨(blk_cell C8.out 0).trans rfl, (blk_cell C2.out 0).trans rfl⟩ (fun hHeld => ?_)
 clear hK K
 refine norm_ (a' := ?_) ?_ ?_
 rotate_left
 ·show Act.put _ (some 58) _ = _
  simp only [Act.put, List.setIfInBounds_toArray, List.set_cons_zero, List.set_cons_succ, i64_w, i32_w]
  rfl
 refine pure_ (i := 4) (N := some 59) (v := ?_) (a' := ?_) #[true, true, true, true, true] rfl rfl (by kernel_rfl) (fun _ _ _ h => h) (Or.inl ⟨by rfl, ?_⟩) ?_ ?_
 rotate_left
 ·intro w'
  go_simp
  with_reducible rfl
 rotate_left
 ·simp only [Act.put, List.setIfInBounds_toArray, List.set_cons_zero, List.set_cons_succ, i64_w, i32_w]
  rfl
 refine done_ (by kernel_rfl) ?_
 have hc8_0 : w15.cell? ⟨g8, 0, none⟩ = some (.slice Av3 p.length cv3) := (blk_cell C8.out 0).trans rfl
 go_upto_region 14 with (first | (go_at_fn 19; refine (laws_markProgram.calls k (fun q => w6.heap.size ≤ q ∧ q < w7.heap.size) (.slice Av3 p.length cv3) p  1 m1 p' w _ B.out S3.out hM1).mono ?_; rintro e w16 ⟨rfl, hs, hb, hk⟩; clear B S3; have B := Aside0.mk hb; have n0_ := Aside0.mk (blk_kept C2.out hk (by have := LT.out; omega)); clear C2; have C2 := n0_; clear n0_; have n0_ := Aside0.mk (blk_kept C6.out hk (by have := LT.out; omega)); clear C6; have C6 := n0_; clear n0_; have n0_ := Aside0.mk (blk_kept C9.out hk (by have := LT.out; omega)); clear C9; have C9 := n0_; clear n0_; have n0_ := Aside0.mk (Kd.S_kept S2.out hk (fun q hq e_ => by have := LT.out; omega)); clear S2; have S2 := n0_; clear n0_; have n0_ := Aside0.mk (Kd.S_kept S4.out hk (fun q hq e_ => by have := LT.out; omega)); clear S4; have S4 := n0_; clear n0_; have n0_ := Aside0.mk (blk_kept CS.out hk (by have := LT.out; omega)); clear CS; have CS := n0_; clear n0_; clear hs hb hk C8))
 clear hc8_0
 have hc9_0 : w16.cell? ⟨g9, 0, none⟩ = some (.slice Av4 b.length cv4) := (blk_cell C9.out 0).trans rfl
 have hc6_0 : w16.cell? ⟨g6, 0, none⟩ = some (.slice Av2 b.length cv2) := (blk_cell C6.out 0).trans rfl
 go_upto_region 16 with (first | (go_at_fn 18; refine (laws_eqProgram.calls k Av4 cv4 b  Av2 cv2 b  true _ (Kd.S_reads' S4.out).2.2 (Kd.S_reads' S4.out).2.1 (Kd.S_reads' S2.out).2.2 (Kd.S_reads' S2.out).2.1 hE).mono ?_; rintro e w17 ⟨rfl, hb⟩; have n0_ := Aside0.mk (below_step B.out hb); clear B; have B := n0_; clear n0_; have n0_ := Aside0.mk (blk_below C2.out hb); clear C2; have C2 := n0_; clear n0_; have n0_ := Aside0.mk (blk_below C6.out hb); clear C6; have C6 := n0_; clear n0_; have n0_ := Aside0.mk (blk_below C9.out hb); clear C9; have C9 := n0_; clear n0_; have n0_ := Aside0.mk (Kd.S_below S2.out hb); clear S2; have S2 := n0_; clear n0_; have n0_ := Aside0.mk (Kd.S_below S4.out hb); clear S4; have S4 := n0_; clear n0_; have n0_ := Aside0.mk (blk_below CS.out hb); clear CS; have CS := n0_; clear n0_; clear hb))
 clear hc9_0 hc6_0
 have hc9_0 : w17.cell? ⟨g9, 0, none⟩ = some (.slice Av4 b.length cv4) := (blk_cell C9.out 0).trans rfl
 go_upto_region 18 with (first | (go_at_fn 19; refine (laws_markProgram.calls k (fun q => N1 ≤ q ∧ q < H9 ∧ q ≠ g9) (.slice Av4 b.length cv4) b  1 m2 b' w _ B.out S4.out hM2).mono ?_; rintro e w18 ⟨rfl, hs, hb, hk⟩; clear B S4; have B := Aside0.mk hb; have S4 := Aside0.mk hs; have n0_ := Aside0.mk (blk_kept C2.out hk (by have := LT.out; omega)); clear C2; have C2 := n0_; clear n0_; have n0_ := Aside0.mk (blk_kept C6.out hk (by have := LT.out; omega)); clear C6; have C6 := n0_; clear n0_; have n0_ := Aside0.mk (blk_kept C9.out hk (by have := LT.out; omega)); clear C9; have C9 := n0_; clear n0_; have n0_ := Aside0.mk (Kd.S_kept S2.out hk (fun q hq e_ => by have := LT.out; omega)); clear S2; have S2 := n0_; clear n0_; have n0_ := Aside0.mk (blk_kept CS.out hk (by have := LT.out; omega)); clear CS; have CS := n0_; clear n0_; clear hs hb hk))
 clear hc9_0
 have hl := (Kd.S_reads' S4.out).1
 have hc9_0 : w18.cell? ⟨g9, 0, none⟩ = some (.slice Av4 b.length cv4) := (blk_cell C9.out 0).trans rfl
 have hheld := fun (W : World) (h : Kd.C (Kd.slice 72 k72) W Av4 b'.length b') (hc : b'.length ≤ cv4) => laws_heldProgram.calls k Av4 cv4 b'  1 m2 W h hc hH
 rw [← hl] at hheld
 have HL := Aside0.mk hl
 clear hl
 go_upto_region 24 with (first | (go_at_fn 50; refine (hheld _ (by rw [HL.out]; exact (Kd.S_reads' S4.out).2.2) (Kd.S_reads' S4.out).2.1).mono ?_; rintro e w19 ⟨rfl, hb⟩; have n0_ := Aside0.mk (below_step B.out hb); clear B; have B := n0_; clear n0_; have n0_ := Aside0.mk (blk_below C2.out hb); clear C2; have C2 := n0_; clear n0_; have n0_ := Aside0.mk (blk_below C6.out hb); clear C6; have C6 := n0_; clear n0_; have n0_ := Aside0.mk (blk_below C9.out hb); clear C9; have C9 := n0_; clear n0_; have n0_ := Aside0.mk (Kd.S_below S2.out hb); clear S2; have S2 := n0_; clear n0_; have n0_ := Aside0.mk (Kd.S_below S4.out hb); clear S4; have S4 := n0_; clear n0_; have n0_ := Aside0.mk (blk_below CS.out hb); clear CS; have CS := n0_; clear n0_; clear hb))
 clear hc9_0
 have hc2_0 : w19.cell? ⟨g2, 0, none⟩ = some (.slice A0 l0.length c0) := (blk_cell C2.out 0).trans rfl
 clear hc2_0
 have hdr : Below w19.heap.size w19 w19.drew := below_drew1 (Below.refl _ _)
 have n0_ := Aside0.mk (below_step B.out hdr)
 clear B
 have B := n0_
 clear n0_
 have n0_ := Aside0.mk (blk_below C2.out hdr)
 clear C2
 have C2 := n0_
 clear n0_
 have n0_ := Aside0.mk (blk_below C6.out hdr)
 clear C6
 have C6 := n0_
 clear n0_
 have n0_ := Aside0.mk (blk_below C9.out hdr)
 clear C9
 have C9 := n0_
 clear n0_
 have n0_ := Aside0.mk (Kd.S_below S2.out hdr)
 clear S2
 have S2 := n0_
 clear n0_
 have n0_ := Aside0.mk (Kd.S_below S4.out hdr)
 clear S4
 have S4 := n0_
 clear n0_
 have n0_ := Aside0.mk (blk_below CS.out hdr)
 clear CS
 have CS := n0_
 clear n0_
 clear hdr
 refine start_ (n := 13) (S := fun w' => w'.cell? ⟨g2, 0, none⟩ = some (.slice A0 l0.length c0) ∧ w'.cell? ⟨gs, 0, none⟩ = some (.int .i64 s0) ∧ w'.cell? ⟨gs, 1, none⟩ = some (.int .i64 s1) ∧ w'.cell? ⟨gs, 2, none⟩ = some (.int .i64 s2)) (ds := []) #[false, false, false, false, false, false, false, false, false, false, false, false, false] (by kernel_rfl) rfl rfl ⟨(blk_cell C2.out 0).trans rfl, (blk_cell CS.out 0).trans rfl, (blk_cell CS.out 1).trans rfl, (blk_cell CS.out 2).trans rfl⟩ (fun hHeld => ?_)
 generalize w19.drew = wd_14 at B C2 C6 C9 S2 S4 CS hHeld ⊢
 obtain ⟨N2, hN2⟩ : ∃ n_, n_ = wd_14.heap.size := ⟨_, rfl⟩
 have HN2 := Aside0.mk (show N2 = wd_14.heap.size from hN2)
 have LTn := Aside0.mk (show g2 < N2 ∧ gs < N2 ∧ g6 < N2 ∧ g9 < N2 ∧ w.heap.size ≤ N2 from by
  have := hN2
  have := blk_lt C2.out
  have := blk_lt C6.out
  have := blk_lt C9.out
  have := blk_lt CS.out
  have := B.out.size
  have := LT.out
  omega)
 clear hN2
 have n0_ := Aside0.mk (Kd.S_mono (Kd.S_bound S2.out) (fun q hq => show q < N2 by have := hq.2.2.1; have := HN2.out; omega))
 clear S2
 have S2 := n0_
 clear n0_
 have n0_ := Aside0.mk (Kd.S_mono (Kd.S_bound S4.out) (fun q hq => show q < N2 by have := hq.2.2.1; have := HN2.out; omega))
 clear S4
 have S4 := n0_
 clear n0_
 refine take_ (i := 0) (N := some 88) (v := ?_) (a' := ?_) #[true, false, false, false, false, false, false, false, false, false, false, false, false] rfl rfl (by kernel_rfl) (fun _ _ _ h => h) (Or.inl ⟨by rfl, ?_⟩) hHeld ?_ ?_
 rotate_left
 ·rintro w' ⟨s0_0, s0_1, s0_2, s0_3⟩
  go_simp
  with_reducible rfl
 rotate_left
 ·simp only [Act.put, List.setIfInBounds_toArray, List.set_cons_zero, List.set_cons_succ, i64_w, i32_w]
  rfl
 refine take_ (i := 2) (N := some 90) (v := ?_) (a' := ?_) #[true, false, true, false, false, false, false, false, false, false, false, false, false] rfl rfl (by kernel_rfl) (fun _ _ _ h => h) (Or.inl ⟨by rfl, ?_⟩) hHeld ?_ ?_
 rotate_left
 ·rintro w' ⟨s0_0, s0_1, s0_2, s0_3⟩
  go_simp
  with_reducible rfl
 rotate_left
 ·simp only [Act.put, List.setIfInBounds_toArray, List.set_cons_zero, List.set_cons_succ, i64_w, i32_w]
  rfl
 refine take_ (i := 3) (N := some 91) (v := ?_) (a' := ?_) #[true, false, true, true, false, false, false, false, false, false, false, false, false] rfl rfl (by kernel_rfl) (fun _ _ _ h => h) (Or.inl ⟨by rfl, ?_⟩) hHeld ?_ ?_
 rotate_left
 ·rintro w' ⟨s0_0, s0_1, s0_2, s0_3⟩
  go_simp
  with_reducible rfl
 rotate_left
 ·simp only [Act.put, List.setIfInBounds_toArray, List.set_cons_zero, List.set_cons_succ, i64_w, i32_w]
  rfl
 refine take_ (i := 4) (N := some 92) (v := ?_) (a' := ?_) #[true, false, true, true, true, false, false, false, false, false, false, false, false] rfl rfl (by kernel_rfl) (fun _ _ _ h => h) (Or.inl ⟨by rfl, ?_⟩) hHeld ?_ ?_
 rotate_left
 ·rintro w' ⟨s0_0, s0_1, s0_2, s0_3⟩
  go_simp
  with_reducible rfl
 rotate_left
 ·simp only [Act.put, List.setIfInBounds_toArray, List.set_cons_zero, List.set_cons_succ, i64_w, i32_w]
  rfl
 refine join_ (σ := Option Addr × Nat × Nat × Option Addr × Nat) 2 #[true, true, true, true, true, true, true, true, true, true, true, false, false] (fun s_ => match s_ with | (Ae, ce, ge, Af, cf) => [(89, .agg #[.slice Af p.length cf]), (93, .agg #[.int .i64 s0, .int .i64 s1, .int .i64 s2]), (94, .tuple #[.agg #[.slice Ae b.length ce], .bool o]), (87, .tuple #[.agg #[.slice Ae b.length ce], .bool o]), (95, .agg #[.slice Ae b.length ce]), (96, .bool o), (18, .pointer (some ⟨ge, 0, none⟩))]) (fun s_ W_ => match s_ with | (Ae, ce, ge, Af, cf) => Aside0 (∃ H14, Below w.heap.size w W_ ∧ W_.heap[g2]? = some (.cells #[.slice A0 l0.length c0] 24 (0, 0)) ∧ W_.heap[g6]? = some (.cells #[.slice Av2 b.length cv2] 28 (0, 0)) ∧ W_.heap[g9]? = some (.cells #[.slice Av4 b.length cv4] 28 (0, 0)) ∧ Kd.S (Kd.slice 72 k72) 108 W_ w.heap.size (fun q => q < N2) (.slice Av2 b.length cv2) b ∧ Kd.S (Kd.slice 72 k72) 108 W_ w.heap.size (fun q => q < N2) (.slice Av4 b.length cv4) b' ∧ W_.heap[gs]? = some (.cells #[.int .i64 s0, .int .i64 s1, .int .i64 s2] 69 (0, 0)) ∧ W_.heap[ge]? = some (.cells #[.slice none 0 0] 28 (0, 0)) ∧ Kd.S (Kd.slice 72 k72) 108 W_ w.heap.size (fun q => N2 ≤ q ∧ q < H14 ∧ q ≠ ge) (.slice Ae b.length ce) b ∧ N2 ≤ ge ∧ ge < H14 ∧ H14 = W_.heap.size)) ?_ ?_
 rotate_left
 ·intro HC
  refine two_ (i := 1) (j := 10) (Ni := some 89) (Nj := some 18) #[true, true, true, true, true, false, false, false, false, false, false, false, false] #[true, false, true, true, true, false, false, false, false, false, true, false, false] rfl rfl rfl rfl (by kernel_rfl) (by decide) (by decide) (fun K hK => ?_) (fun K hK => ?_)
  ·
   refine goes_ Try.func15 (by kernel_rfl) rfl #[.agg #[.slice A0 l0.length c0]] (by rfl) rfl rfl (by (try simp only [List.map_toArray, List.map_cons, List.map_nil]); first | done | rfl) ?_
   refine (laws_toProgram.calls k A0 c0 l0 p _ (Kd.C_below HR.out B.out) hc0 hT).mono ?_
   rintro e wz22_0 ⟨v1_, rfl, hs, hb⟩
   refine ⟨_, rfl, ?_⟩
   have z22_0 := hb.size
   have S6 := Aside0.mk hs
   have n0_ := Aside0.mk (below_step B.out hb)
   clear B
   have B := n0_
   clear n0_
   have n0_ := Aside0.mk (blk_below C2.out hb)
   clear C2
   have C2 := n0_
   clear n0_
   have n0_ := Aside0.mk (blk_below C6.out hb)
   clear C6
   have C6 := n0_
   clear n0_
   have n0_ := Aside0.mk (blk_below C9.out hb)
   clear C9
   have C9 := n0_
   clear n0_
   have n0_ := Aside0.mk (Kd.S_below S2.out hb)
   clear S2
   have S2 := n0_
   clear n0_
   have n0_ := Aside0.mk (Kd.S_below S4.out hb)
   clear S4
   have S4 := n0_
   clear n0_
   have n0_ := Aside0.mk (blk_below CS.out hb)
   clear CS
   have CS := n0_
   clear n0_
   clear hb hs
   obtain ⟨Af, cf, ev_⟩ := Kd.S_slice S6.out
   subst ev_
   refine hK.out _ _ ⟨(blk_cell C2.out 0).trans rfl, (blk_cell CS.out 0).trans rfl, (blk_cell CS.out 1).trans rfl, (blk_cell CS.out 2).trans rfl⟩ (fun hHeld => ?_)
   clear hK K
   refine norm_ (a' := ?_) ?_ ?_
   rotate_left
   ·show Act.put _ (some 89) _ = _
    simp only [Act.put, List.setIfInBounds_toArray, List.set_cons_zero, List.set_cons_succ, i64_w, i32_w]
    rfl
   refine two_ (i := 5) (j := 10) (Ni := some 93) (Nj := some 18) #[true, true, true, true, true, true, false, false, false, false, false, false, false] #[true, true, true, true, true, false, false, false, false, false, true, false, false] rfl rfl rfl rfl (by kernel_rfl) (by decide) (by decide) (fun K hK => ?_) (fun K hK => ?_)
   ·
    refine goes_ Try.func48 (by kernel_rfl) rfl #[.agg #[.int .i64 s0, .int .i64 s1, .int .i64 s2]] (by rfl) rfl rfl (by (try simp only [List.map_toArray, List.map_cons, List.map_nil]); first | done | rfl) ?_
    refine (laws_toStep.calls s0 s1 s2 s0 s1 s2 _ rfl).mono ?_
    rintro e wz23_0 ⟨rfl, hb⟩
    refine ⟨_, rfl, ?_⟩
    have z23_0 := hb.size
    have n0_ := Aside0.mk (below_step B.out hb)
    clear B
    have B := n0_
    clear n0_
    have n0_ := Aside0.mk (blk_below C2.out hb)
    clear C2
    have C2 := n0_
    clear n0_
    have n0_ := Aside0.mk (blk_below C6.out hb)
    clear C6
    have C6 := n0_
    clear n0_
    have n0_ := Aside0.mk (blk_below C9.out hb)
    clear C9
    have C9 := n0_
    clear n0_
    have n0_ := Aside0.mk (Kd.S_below S2.out hb)
    clear S2
    have S2 := n0_
    clear n0_
    have n0_ := Aside0.mk (Kd.S_below S4.out hb)
    clear S4
    have S4 := n0_
    clear n0_
    have n0_ := Aside0.mk (Kd.S_below S6.out hb)
    clear S6
    have S6 := n0_
    clear n0_
    have n0_ := Aside0.mk (blk_below CS.out hb)
    clear CS
    have CS := n0_
    clear n0_
    clear hb
    refine hK.out _ _ ⟨(blk_cell C2.out 0).trans rfl, (blk_cell CS.out 0).trans rfl, (blk_cell CS.out 1).trans rfl, (blk_cell CS.out 2).trans rfl⟩ (fun hHeld => ?_)
    clear hK K
    refine norm_ (a' := ?_) ?_ ?_
    rotate_left
    ·show Act.put _ (some 93) _ = _
     simp only [Act.put, List.setIfInBounds_toArray, List.set_cons_zero, List.set_cons_succ, i64_w, i32_w]
     rfl
    refine two_ (i := 6) (j := 10) (Ni := some 94) (Nj := some 18) #[true, true, true, true, true, true, true, false, false, false, false, false, false] #[true, true, true, true, true, true, false, false, false, false, true, false, false] rfl rfl rfl rfl (by kernel_rfl) (by decide) (by decide) (fun K hK => ?_) (fun K hK => ?_)
    ·
     refine goes_ Try.func49 (by kernel_rfl) rfl #[.agg #[.slice Af p.length cf], .int .i64 x1, .int .i64 x2, .agg #[.int .i64 s0, .int .i64 s1, .int .i64 s2]] (by rfl) rfl rfl (by (try simp only [List.map_toArray, List.map_cons, List.map_nil]); first | done | rfl) ?_
     refine (impl_PutStep.calls Af cf p x1 x2 s0 s1 s2 b  o _ (Kd.S_reads' S6.out).2.2 (Kd.S_reads' S6.out).2.1 hI).mono ?_
     rintro e wz24_0 ⟨v2_, rfl, hs, hb⟩
     refine ⟨_, rfl, ?_⟩
     have z24_0 := hb.size
     have S7 := Aside0.mk (Made.new (Kd.S_mono hs (fun _ _ => trivial)) B.out.size)
     have n0_ := Aside0.mk (below_step B.out hb)
     clear B
     have B := n0_
     clear n0_
     have n0_ := Aside0.mk (blk_below C2.out hb)
     clear C2
     have C2 := n0_
     clear n0_
     have n0_ := Aside0.mk (blk_below C6.out hb)
     clear C6
     have C6 := n0_
     clear n0_
     have n0_ := Aside0.mk (blk_below C9.out hb)
     clear C9
     have C9 := n0_
     clear n0_
     have n0_ := Aside0.mk (Kd.S_below S2.out hb)
     clear S2
     have S2 := n0_
     clear n0_
     have n0_ := Aside0.mk (Kd.S_below S4.out hb)
     clear S4
     have S4 := n0_
     clear n0_
     have n0_ := Aside0.mk (Kd.S_below S6.out hb)
     clear S6
     have S6 := n0_
     clear n0_
     have n0_ := Aside0.mk (blk_below CS.out hb)
     clear CS
     have CS := n0_
     clear n0_
     clear hb hs
     obtain ⟨Ae, ce, ev_⟩ := Kd.S_slice S7.out
     subst ev_
     refine hK.out _ _ ⟨(blk_cell C2.out 0).trans rfl, (blk_cell CS.out 0).trans rfl, (blk_cell CS.out 1).trans rfl, (blk_cell CS.out 2).trans rfl⟩ (fun hHeld => ?_)
     clear hK K
     refine norm_ (a' := ?_) ?_ ?_
     rotate_left
     ·show Act.put _ (some 94) _ = _
      simp only [Act.put, List.setIfInBounds_toArray, List.set_cons_zero, List.set_cons_succ, i64_w, i32_w]
      rfl
     refine pure_ (i := 7) (N := some 87) (v := ?_) (a' := ?_) #[true, true, true, true, true, true, true, true, false, false, false, false, false] rfl rfl (by kernel_rfl) (fun _ _ _ h => h) (Or.inl ⟨by rfl, ?_⟩) ?_ ?_
     rotate_left
     ·intro w'
      go_simp
      with_reducible rfl
     rotate_left
     ·simp only [Act.put, List.setIfInBounds_toArray, List.set_cons_zero, List.set_cons_succ, i64_w, i32_w]
      rfl
     refine pure_ (i := 8) (N := some 95) (v := ?_) (a' := ?_) #[true, true, true, true, true, true, true, true, true, false, false, false, false] rfl rfl (by kernel_rfl) (fun _ _ _ h => h) (Or.inl ⟨by rfl, ?_⟩) ?_ ?_
     rotate_left
     ·intro w'
      go_simp
      with_reducible rfl
     rotate_left
     ·simp only [Act.put, List.setIfInBounds_toArray, List.set_cons_zero, List.set_cons_succ, i64_w, i32_w]
      rfl
     refine pure_ (i := 9) (N := some 96) (v := ?_) (a' := ?_) #[true, true, true, true, true, true, true, true, true, true, false, false, false] rfl rfl (by kernel_rfl) (fun _ _ _ h => h) (Or.inl ⟨by rfl, ?_⟩) ?_ ?_
     rotate_left
     ·intro w'
      go_simp
      with_reducible rfl
     rotate_left
     ·simp only [Act.put, List.setIfInBounds_toArray, List.set_cons_zero, List.set_cons_succ, i64_w, i32_w]
      rfl
     refine one_ (i := 10) (N := some 18) #[true, true, true, true, true, true, true, true, true, true, true, false, false] rfl rfl (by kernel_rfl) (by decide) (fun K hK => ?_)
     refine box_step (by rfl) (N := 18) rfl (cs := #[.slice none 0 0]) (t := 28) ?_ ?_
     ·first | (go_simp; done) | (go_simp; rfl)
     intro ge hge wz25 hbox hb
     have z25 := hb.size
     have n0_ := Aside0.mk (below_step B.out hb)
     clear B
     have B := n0_
     clear n0_
     have n0_ := Aside0.mk (blk_below C2.out hb)
     clear C2
     have C2 := n0_
     clear n0_
     have n0_ := Aside0.mk (blk_below C6.out hb)
     clear C6
     have C6 := n0_
     clear n0_
     have n0_ := Aside0.mk (blk_below C9.out hb)
     clear C9
     have C9 := n0_
     clear n0_
     have n0_ := Aside0.mk (Kd.S_below S2.out hb)
     clear S2
     have S2 := n0_
     clear n0_
     have n0_ := Aside0.mk (Kd.S_below S4.out hb)
     clear S4
     have S4 := n0_
     clear n0_
     have n0_ := Aside0.mk (Kd.S_below S6.out hb)
     clear S6
     have S6 := n0_
     clear n0_
     have n0_ := Aside0.mk (Kd.S_below S7.out hb)
     clear S7
     have S7 := n0_
     clear n0_
     have n0_ := Aside0.mk (blk_below CS.out hb)
     clear CS
     have CS := n0_
     clear n0_
     have CE := Aside0.mk hbox
     have GE := Aside0.mk hge
     clear hb hbox hge
     refine hK.out _ _ ⟨(blk_cell C2.out 0).trans rfl, (blk_cell CS.out 0).trans rfl, (blk_cell CS.out 1).trans rfl, (blk_cell CS.out 2).trans rfl⟩ (fun hHeld => ?_)
     clear hK K
     refine norm_ (a' := ?_) ?_ ?_
     rotate_left
     ·show Act.put _ (some 18) _ = _
      simp only [Act.put, List.setIfInBounds_toArray, List.set_cons_zero, List.set_cons_succ, i64_w, i32_w]
      rfl
     have hN_ := HN2.out
     have hg_ := GE.out
     have hl_ := blk_lt CE.out
     exact norm_ (by
      simp only [putAll, Act.put, List.setIfInBounds_toArray, List.set_cons_zero, List.set_cons_succ]
      try rfl) (HC ⟨_, _, _, _, _⟩ wz25 ⟨wz25.heap.size, B.out, C2.out, C6.out, C9.out, S2.out, S4.out, CS.out, CE.out, Kd.S_mono S7.out (fun q hq => by have := hq.1; have := hq.2; (try have := GL.out); omega), by (try have := GL.out); omega, hl_, rfl⟩)
    ·
     refine box_step (by rfl) (N := 18) rfl (cs := #[.slice none 0 0]) (t := 28) ?_ ?_
     ·first | (go_simp; done) | (go_simp; rfl)
     intro ge hge wz24_1 hbox hb
     have z24_1 := hb.size
     have n0_ := Aside0.mk (below_step B.out hb)
     clear B
     have B := n0_
     clear n0_
     have n0_ := Aside0.mk (blk_below C2.out hb)
     clear C2
     have C2 := n0_
     clear n0_
     have n0_ := Aside0.mk (blk_below C6.out hb)
     clear C6
     have C6 := n0_
     clear n0_
     have n0_ := Aside0.mk (blk_below C9.out hb)
     clear C9
     have C9 := n0_
     clear n0_
     have n0_ := Aside0.mk (Kd.S_below S2.out hb)
     clear S2
     have S2 := n0_
     clear n0_
     have n0_ := Aside0.mk (Kd.S_below S4.out hb)
     clear S4
     have S4 := n0_
     clear n0_
     have n0_ := Aside0.mk (Kd.S_below S6.out hb)
     clear S6
     have S6 := n0_
     clear n0_
     have n0_ := Aside0.mk (blk_below CS.out hb)
     clear CS
     have CS := n0_
     clear n0_
     have CE := Aside0.mk hbox
     have GE := Aside0.mk hge
     clear hb hbox hge
     refine hK.out _ _ ⟨(blk_cell C2.out 0).trans rfl, (blk_cell CS.out 0).trans rfl, (blk_cell CS.out 1).trans rfl, (blk_cell CS.out 2).trans rfl⟩ (fun hHeld => ?_)
     clear hK K
     refine norm_ (a' := ?_) ?_ ?_
     rotate_left
     ·show Act.put _ (some 18) _ = _
      simp only [Act.put, List.setIfInBounds_toArray, List.set_cons_zero, List.set_cons_succ, i64_w, i32_w]
      rfl
     refine one_ (i := 6) (N := some 94) #[true, true, true, true, true, true, true, false, false, false, true, false, false] rfl rfl (by kernel_rfl) (by decide) (fun K hK => ?_)
     have GL := Aside0.mk (blk_lt CE.out)
     refine goes_ Try.func49 (by kernel_rfl) rfl #[.agg #[.slice Af p.length cf], .int .i64 x1, .int .i64 x2, .agg #[.int .i64 s0, .int .i64 s1, .int .i64 s2]] (by rfl) rfl rfl (by (try simp only [List.map_toArray, List.map_cons, List.map_nil]); first | done | rfl) ?_
     refine (impl_PutStep.calls Af cf p x1 x2 s0 s1 s2 b  o _ (Kd.S_reads' S6.out).2.2 (Kd.S_reads' S6.out).2.1 hI).mono ?_
     rintro e wz26 ⟨v2_, rfl, hs, hb⟩
     refine ⟨_, rfl, ?_⟩
     have z26 := hb.size
     have S7 := Aside0.mk (Made.new (Kd.S_mono hs (fun _ _ => trivial)) B.out.size)
     have n0_ := Aside0.mk (below_step B.out hb)
     clear B
     have B := n0_
     clear n0_
     have n0_ := Aside0.mk (blk_below C2.out hb)
     clear C2
     have C2 := n0_
     clear n0_
     have n0_ := Aside0.mk (blk_below C6.out hb)
     clear C6
     have C6 := n0_
     clear n0_
     have n0_ := Aside0.mk (blk_below C9.out hb)
     clear C9
     have C9 := n0_
     clear n0_
     have n0_ := Aside0.mk (Kd.S_below S2.out hb)
     clear S2
     have S2 := n0_
     clear n0_
     have n0_ := Aside0.mk (Kd.S_below S4.out hb)
     clear S4
     have S4 := n0_
     clear n0_
     have n0_ := Aside0.mk (Kd.S_below S6.out hb)
     clear S6
     have S6 := n0_
     clear n0_
     have n0_ := Aside0.mk (blk_below CE.out hb)
     clear CE
     have CE := n0_
     clear n0_
     have n0_ := Aside0.mk (blk_below CS.out hb)
     clear CS
     have CS := n0_
     clear n0_
     clear hb hs
     obtain ⟨Ae, ce, ev_⟩ := Kd.S_slice S7.out
     subst ev_
     refine hK.out _ _ ⟨(blk_cell C2.out 0).trans rfl, (blk_cell CS.out 0).trans rfl, (blk_cell CS.out 1).trans rfl, (blk_cell CS.out 2).trans rfl⟩ (fun hHeld => ?_)
     clear hK K
     refine norm_ (a' := ?_) ?_ ?_
     rotate_left
     ·show Act.put _ (some 94) _ = _
      simp only [Act.put, List.setIfInBounds_toArray, List.set_cons_zero, List.set_cons_succ, i64_w, i32_w]
      rfl
     refine pure_ (i := 7) (N := some 87) (v := ?_) (a' := ?_) #[true, true, true, true, true, true, true, true, false, false, true, false, false] rfl rfl (by kernel_rfl) (fun _ _ _ h => h) (Or.inl ⟨by rfl, ?_⟩) ?_ ?_
     rotate_left
     ·intro w'
      go_simp
      with_reducible rfl
     rotate_left
     ·simp only [Act.put, List.setIfInBounds_toArray, List.set_cons_zero, List.set_cons_succ, i64_w, i32_w]
      rfl
     refine pure_ (i := 8) (N := some 95) (v := ?_) (a' := ?_) #[true, true, true, true, true, true, true, true, true, false, true, false, false] rfl rfl (by kernel_rfl) (fun _ _ _ h => h) (Or.inl ⟨by rfl, ?_⟩) ?_ ?_
     rotate_left
     ·intro w'
      go_simp
      with_reducible rfl
     rotate_left
     ·simp only [Act.put, List.setIfInBounds_toArray, List.set_cons_zero, List.set_cons_succ, i64_w, i32_w]
      rfl
     refine pure_ (i := 9) (N := some 96) (v := ?_) (a' := ?_) #[true, true, true, true, true, true, true, true, true, true, true, false, false] rfl rfl (by kernel_rfl) (fun _ _ _ h => h) (Or.inl ⟨by rfl, ?_⟩) ?_ ?_
     rotate_left
     ·intro w'
      go_simp
      with_reducible rfl
     rotate_left
     ·simp only [Act.put, List.setIfInBounds_toArray, List.set_cons_zero, List.set_cons_succ, i64_w, i32_w]
      rfl
     have hN_ := HN2.out
     have hg_ := GE.out
     have hl_ := blk_lt CE.out
     exact norm_ (by
      simp only [putAll, Act.put, List.setIfInBounds_toArray, List.set_cons_zero, List.set_cons_succ]
      try rfl) (HC ⟨_, _, _, _, _⟩ wz26 ⟨wz26.heap.size, B.out, C2.out, C6.out, C9.out, S2.out, S4.out, CS.out, CE.out, Kd.S_mono S7.out (fun q hq => by have := hq.1; have := hq.2; (try have := GL.out); omega), by (try have := GL.out); omega, hl_, rfl⟩)
   ·
    refine box_step (by rfl) (N := 18) rfl (cs := #[.slice none 0 0]) (t := 28) ?_ ?_
    ·first | (go_simp; done) | (go_simp; rfl)
    intro ge hge wz23_1 hbox hb
    have z23_1 := hb.size
    have n0_ := Aside0.mk (below_step B.out hb)
    clear B
    have B := n0_
    clear n0_
    have n0_ := Aside0.mk (blk_below C2.out hb)
    clear C2
    have C2 := n0_
    clear n0_
    have n0_ := Aside0.mk (blk_below C6.out hb)
    clear C6
    have C6 := n0_
    clear n0_
    have n0_ := Aside0.mk (blk_below C9.out hb)
    clear C9
    have C9 := n0_
    clear n0_
    have n0_ := Aside0.mk (Kd.S_below S2.out hb)
    clear S2
    have S2 := n0_
    clear n0_
    have n0_ := Aside0.mk (Kd.S_below S4.out hb)
    clear S4
    have S4 := n0_
    clear n0_
    have n0_ := Aside0.mk (Kd.S_below S6.out hb)
    clear S6
    have S6 := n0_
    clear n0_
    have n0_ := Aside0.mk (blk_below CS.out hb)
    clear CS
    have CS := n0_
    clear n0_
    have CE := Aside0.mk hbox
    have GE := Aside0.mk hge
    clear hb hbox hge
    refine hK.out _ _ ⟨(blk_cell C2.out 0).trans rfl, (blk_cell CS.out 0).trans rfl, (blk_cell CS.out 1).trans rfl, (blk_cell CS.out 2).trans rfl⟩ (fun hHeld => ?_)
    clear hK K
    refine norm_ (a' := ?_) ?_ ?_
    rotate_left
    ·show Act.put _ (some 18) _ = _
     simp only [Act.put, List.setIfInBounds_toArray, List.set_cons_zero, List.set_cons_succ, i64_w, i32_w]
     rfl
    refine one_ (i := 5) (N := some 93) #[true, true, true, true, true, true, false, false, false, false, true, false, false] rfl rfl (by kernel_rfl) (by decide) (fun K hK => ?_)
    refine goes_ Try.func48 (by kernel_rfl) rfl #[.agg #[.int .i64 s0, .int .i64 s1, .int .i64 s2]] (by rfl) rfl rfl (by (try simp only [List.map_toArray, List.map_cons, List.map_nil]); first | done | rfl) ?_
    refine (laws_toStep.calls s0 s1 s2 s0 s1 s2 _ rfl).mono ?_
    rintro e wz28 ⟨rfl, hb⟩
    refine ⟨_, rfl, ?_⟩
    have z28 := hb.size
    have n0_ := Aside0.mk (below_step B.out hb)
    clear B
    have B := n0_
    clear n0_
    have n0_ := Aside0.mk (blk_below C2.out hb)
    clear C2
    have C2 := n0_
    clear n0_
    have n0_ := Aside0.mk (blk_below C6.out hb)
    clear C6
    have C6 := n0_
    clear n0_
    have n0_ := Aside0.mk (blk_below C9.out hb)
    clear C9
    have C9 := n0_
    clear n0_
    have n0_ := Aside0.mk (Kd.S_below S2.out hb)
    clear S2
    have S2 := n0_
    clear n0_
    have n0_ := Aside0.mk (Kd.S_below S4.out hb)
    clear S4
    have S4 := n0_
    clear n0_
    have n0_ := Aside0.mk (Kd.S_below S6.out hb)
    clear S6
    have S6 := n0_
    clear n0_
    have n0_ := Aside0.mk (blk_below CE.out hb)
    clear CE
    have CE := n0_
    clear n0_
    have n0_ := Aside0.mk (blk_below CS.out hb)
    clear CS
    have CS := n0_
    clear n0_
    clear hb
    refine hK.out _ _ ⟨(blk_cell C2.out 0).trans rfl, (blk_cell CS.out 0).trans rfl, (blk_cell CS.out 1).trans rfl, (blk_cell CS.out 2).trans rfl⟩ (fun hHeld => ?_)
    clear hK K
    refine norm_ (a' := ?_) ?_ ?_
    rotate_left
    ·show Act.put _ (some 93) _ = _
     simp only [Act.put, List.setIfInBounds_toArray, List.set_cons_zero, List.set_cons_succ, i64_w, i32_w]
     rfl
    refine one_ (i := 6) (N := some 94) #[true, true, true, true, true, true, true, false, false, false, true, false, false] rfl rfl (by kernel_rfl) (by decide) (fun K hK => ?_)
    have GL := Aside0.mk (blk_lt CE.out)
    refine goes_ Try.func49 (by kernel_rfl) rfl #[.agg #[.slice Af p.length cf], .int .i64 x1, .int .i64 x2, .agg #[.int .i64 s0, .int .i64 s1, .int .i64 s2]] (by rfl) rfl rfl (by (try simp only [List.map_toArray, List.map_cons, List.map_nil]); first | done | rfl) ?_
    refine (impl_PutStep.calls Af cf p x1 x2 s0 s1 s2 b  o _ (Kd.S_reads' S6.out).2.2 (Kd.S_reads' S6.out).2.1 hI).mono ?_
    rintro e wz29 ⟨v2_, rfl, hs, hb⟩
    refine ⟨_, rfl, ?_⟩
    have z29 := hb.size
    have S7 := Aside0.mk (Made.new (Kd.S_mono hs (fun _ _ => trivial)) B.out.size)
    have n0_ := Aside0.mk (below_step B.out hb)
    clear B
    have B := n0_
    clear n0_
    have n0_ := Aside0.mk (blk_below C2.out hb)
    clear C2
    have C2 := n0_
    clear n0_
    have n0_ := Aside0.mk (blk_below C6.out hb)
    clear C6
    have C6 := n0_
    clear n0_
    have n0_ := Aside0.mk (blk_below C9.out hb)
    clear C9
    have C9 := n0_
    clear n0_
    have n0_ := Aside0.mk (Kd.S_below S2.out hb)
    clear S2
    have S2 := n0_
    clear n0_
    have n0_ := Aside0.mk (Kd.S_below S4.out hb)
    clear S4
    have S4 := n0_
    clear n0_
    have n0_ := Aside0.mk (Kd.S_below S6.out hb)
    clear S6
    have S6 := n0_
    clear n0_
    have n0_ := Aside0.mk (blk_below CE.out hb)
    clear CE
    have CE := n0_
    clear n0_
    have n0_ := Aside0.mk (blk_below CS.out hb)
    clear CS
    have CS := n0_
    clear n0_
    clear hb hs
    obtain ⟨Ae, ce, ev_⟩ := Kd.S_slice S7.out
    subst ev_
    refine hK.out _ _ ⟨(blk_cell C2.out 0).trans rfl, (blk_cell CS.out 0).trans rfl, (blk_cell CS.out 1).trans rfl, (blk_cell CS.out 2).trans rfl⟩ (fun hHeld => ?_)
    clear hK K
    refine norm_ (a' := ?_) ?_ ?_
    rotate_left
    ·show Act.put _ (some 94) _ = _
     simp only [Act.put, List.setIfInBounds_toArray, List.set_cons_zero, List.set_cons_succ, i64_w, i32_w]
     rfl
    refine pure_ (i := 7) (N := some 87) (v := ?_) (a' := ?_) #[true, true, true, true, true, true, true, true, false, false, true, false, false] rfl rfl (by kernel_rfl) (fun _ _ _ h => h) (Or.inl ⟨by rfl, ?_⟩) ?_ ?_
    rotate_left
    ·intro w'
     go_simp
     with_reducible rfl
    rotate_left
    ·simp only [Act.put, List.setIfInBounds_toArray, List.set_cons_zero, List.set_cons_succ, i64_w, i32_w]
     rfl
    refine pure_ (i := 8) (N := some 95) (v := ?_) (a' := ?_) #[true, true, true, true, true, true, true, true, true, false, true, false, false] rfl rfl (by kernel_rfl) (fun _ _ _ h => h) (Or.inl ⟨by rfl, ?_⟩) ?_ ?_
    rotate_left
    ·intro w'
     go_simp
     with_reducible rfl
    rotate_left
    ·simp only [Act.put, List.setIfInBounds_toArray, List.set_cons_zero, List.set_cons_succ, i64_w, i32_w]
     rfl
    refine pure_ (i := 9) (N := some 96) (v := ?_) (a' := ?_) #[true, true, true, true, true, true, true, true, true, true, true, false, false] rfl rfl (by kernel_rfl) (fun _ _ _ h => h) (Or.inl ⟨by rfl, ?_⟩) ?_ ?_
    rotate_left
    ·intro w'
     go_simp
     with_reducible rfl
    rotate_left
    ·simp only [Act.put, List.setIfInBounds_toArray, List.set_cons_zero, List.set_cons_succ, i64_w, i32_w]
     rfl
    have hN_ := HN2.out
    have hg_ := GE.out
    have hl_ := blk_lt CE.out
    exact norm_ (by
     simp only [putAll, Act.put, List.setIfInBounds_toArray, List.set_cons_zero, List.set_cons_succ]
     try rfl) (HC ⟨_, _, _, _, _⟩ wz29 ⟨wz29.heap.size, B.out, C2.out, C6.out, C9.out, S2.out, S4.out, CS.out, CE.out, Kd.S_mono S7.out (fun q hq => by have := hq.1; have := hq.2; (try have := GL.out); omega), by (try have := GL.out); omega, hl_, rfl⟩)
  ·
   refine box_step (by rfl) (N := 18) rfl (cs := #[.slice none 0 0]) (t := 28) ?_ ?_
   ·first | (go_simp; done) | (go_simp; rfl)
   intro ge hge wz22_1 hbox hb
   have z22_1 := hb.size
   have n0_ := Aside0.mk (below_step B.out hb)
   clear B
   have B := n0_
   clear n0_
   have n0_ := Aside0.mk (blk_below C2.out hb)
   clear C2
   have C2 := n0_
   clear n0_
   have n0_ := Aside0.mk (blk_below C6.out hb)
   clear C6
   have C6 := n0_
   clear n0_
   have n0_ := Aside0.mk (blk_below C9.out hb)
   clear C9
   have C9 := n0_
   clear n0_
   have n0_ := Aside0.mk (Kd.S_below S2.out hb)
   clear S2
   have S2 := n0_
   clear n0_
   have n0_ := Aside0.mk (Kd.S_below S4.out hb)
   clear S4
   have S4 := n0_
   clear n0_
   have n0_ := Aside0.mk (blk_below CS.out hb)
   clear CS
   have CS := n0_
   clear n0_
   have CE := Aside0.mk hbox
   have GE := Aside0.mk hge
   clear hb hbox hge
   refine hK.out _ _ ⟨(blk_cell C2.out 0).trans rfl, (blk_cell CS.out 0).trans rfl, (blk_cell CS.out 1).trans rfl, (blk_cell CS.out 2).trans rfl⟩ (fun hHeld => ?_)
   clear hK K
   refine norm_ (a' := ?_) ?_ ?_
   rotate_left
   ·show Act.put _ (some 18) _ = _
    simp only [Act.put, List.setIfInBounds_toArray, List.set_cons_zero, List.set_cons_succ, i64_w, i32_w]
    rfl
   refine one_ (i := 1) (N := some 89) #[true, true, true, true, true, false, false, false, false, false, true, false, false] rfl rfl (by kernel_rfl) (by decide) (fun K hK => ?_)
   refine goes_ Try.func15 (by kernel_rfl) rfl #[.agg #[.slice A0 l0.length c0]] (by rfl) rfl rfl (by (try simp only [List.map_toArray, List.map_cons, List.map_nil]); first | done | rfl) ?_
   refine (laws_toProgram.calls k A0 c0 l0 p _ (Kd.C_below HR.out B.out) hc0 hT).mono ?_
   rintro e wz31 ⟨v1_, rfl, hs, hb⟩
   refine ⟨_, rfl, ?_⟩
   have z31 := hb.size
   have S6 := Aside0.mk hs
   have n0_ := Aside0.mk (below_step B.out hb)
   clear B
   have B := n0_
   clear n0_
   have n0_ := Aside0.mk (blk_below C2.out hb)
   clear C2
   have C2 := n0_
   clear n0_
   have n0_ := Aside0.mk (blk_below C6.out hb)
   clear C6
   have C6 := n0_
   clear n0_
   have n0_ := Aside0.mk (blk_below C9.out hb)
   clear C9
   have C9 := n0_
   clear n0_
   have n0_ := Aside0.mk (Kd.S_below S2.out hb)
   clear S2
   have S2 := n0_
   clear n0_
   have n0_ := Aside0.mk (Kd.S_below S4.out hb)
   clear S4
   have S4 := n0_
   clear n0_
   have n0_ := Aside0.mk (blk_below CE.out hb)
   clear CE
   have CE := n0_
   clear n0_
   have n0_ := Aside0.mk (blk_below CS.out hb)
   clear CS
   have CS := n0_
   clear n0_
   clear hb hs
   obtain ⟨Af, cf, ev_⟩ := Kd.S_slice S6.out
   subst ev_
   refine hK.out _ _ ⟨(blk_cell C2.out 0).trans rfl, (blk_cell CS.out 0).trans rfl, (blk_cell CS.out 1).trans rfl, (blk_cell CS.out 2).trans rfl⟩ (fun hHeld => ?_)
   clear hK K
   refine norm_ (a' := ?_) ?_ ?_
   rotate_left
   ·show Act.put _ (some 89) _ = _
    simp only [Act.put, List.setIfInBounds_toArray, List.set_cons_zero, List.set_cons_succ, i64_w, i32_w]
    rfl
   refine one_ (i := 5) (N := some 93) #[true, true, true, true, true, true, false, false, false, false, true, false, false] rfl rfl (by kernel_rfl) (by decide) (fun K hK => ?_)
   refine goes_ Try.func48 (by kernel_rfl) rfl #[.agg #[.int .i64 s0, .int .i64 s1, .int .i64 s2]] (by rfl) rfl rfl (by (try simp only [List.map_toArray, List.map_cons, List.map_nil]); first | done | rfl) ?_
   refine (laws_toStep.calls s0 s1 s2 s0 s1 s2 _ rfl).mono ?_
   rintro e wz32 ⟨rfl, hb⟩
   refine ⟨_, rfl, ?_⟩
   have z32 := hb.size
   have n0_ := Aside0.mk (below_step B.out hb)
   clear B
   have B := n0_
   clear n0_
   have n0_ := Aside0.mk (blk_below C2.out hb)
   clear C2
   have C2 := n0_
   clear n0_
   have n0_ := Aside0.mk (blk_below C6.out hb)
   clear C6
   have C6 := n0_
   clear n0_
   have n0_ := Aside0.mk (blk_below C9.out hb)
   clear C9
   have C9 := n0_
   clear n0_
   have n0_ := Aside0.mk (Kd.S_below S2.out hb)
   clear S2
   have S2 := n0_
   clear n0_
   have n0_ := Aside0.mk (Kd.S_below S4.out hb)
   clear S4
   have S4 := n0_
   clear n0_
   have n0_ := Aside0.mk (blk_below CE.out hb)
   clear CE
   have CE := n0_
   clear n0_
   have n0_ := Aside0.mk (Kd.S_below S6.out hb)
   clear S6
   have S6 := n0_
   clear n0_
   have n0_ := Aside0.mk (blk_below CS.out hb)
   clear CS
   have CS := n0_
   clear n0_
   clear hb
   refine hK.out _ _ ⟨(blk_cell C2.out 0).trans rfl, (blk_cell CS.out 0).trans rfl, (blk_cell CS.out 1).trans rfl, (blk_cell CS.out 2).trans rfl⟩ (fun hHeld => ?_)
   clear hK K
   refine norm_ (a' := ?_) ?_ ?_
   rotate_left
   ·show Act.put _ (some 93) _ = _
    simp only [Act.put, List.setIfInBounds_toArray, List.set_cons_zero, List.set_cons_succ, i64_w, i32_w]
    rfl
   refine one_ (i := 6) (N := some 94) #[true, true, true, true, true, true, true, false, false, false, true, false, false] rfl rfl (by kernel_rfl) (by decide) (fun K hK => ?_)
   have GL := Aside0.mk (blk_lt CE.out)
   refine goes_ Try.func49 (by kernel_rfl) rfl #[.agg #[.slice Af p.length cf], .int .i64 x1, .int .i64 x2, .agg #[.int .i64 s0, .int .i64 s1, .int .i64 s2]] (by rfl) rfl rfl (by (try simp only [List.map_toArray, List.map_cons, List.map_nil]); first | done | rfl) ?_
   refine (impl_PutStep.calls Af cf p x1 x2 s0 s1 s2 b  o _ (Kd.S_reads' S6.out).2.2 (Kd.S_reads' S6.out).2.1 hI).mono ?_
   rintro e wz33 ⟨v2_, rfl, hs, hb⟩
   refine ⟨_, rfl, ?_⟩
   have z33 := hb.size
   have S7 := Aside0.mk (Made.new (Kd.S_mono hs (fun _ _ => trivial)) B.out.size)
   have n0_ := Aside0.mk (below_step B.out hb)
   clear B
   have B := n0_
   clear n0_
   have n0_ := Aside0.mk (blk_below C2.out hb)
   clear C2
   have C2 := n0_
   clear n0_
   have n0_ := Aside0.mk (blk_below C6.out hb)
   clear C6
   have C6 := n0_
   clear n0_
   have n0_ := Aside0.mk (blk_below C9.out hb)
   clear C9
   have C9 := n0_
   clear n0_
   have n0_ := Aside0.mk (Kd.S_below S2.out hb)
   clear S2
   have S2 := n0_
   clear n0_
   have n0_ := Aside0.mk (Kd.S_below S4.out hb)
   clear S4
   have S4 := n0_
   clear n0_
   have n0_ := Aside0.mk (blk_below CE.out hb)
   clear CE
   have CE := n0_
   clear n0_
   have n0_ := Aside0.mk (Kd.S_below S6.out hb)
   clear S6
   have S6 := n0_
   clear n0_
   have n0_ := Aside0.mk (blk_below CS.out hb)
   clear CS
   have CS := n0_
   clear n0_
   clear hb hs
   obtain ⟨Ae, ce, ev_⟩ := Kd.S_slice S7.out
   subst ev_
   refine hK.out _ _ ⟨(blk_cell C2.out 0).trans rfl, (blk_cell CS.out 0).trans rfl, (blk_cell CS.out 1).trans rfl, (blk_cell CS.out 2).trans rfl⟩ (fun hHeld => ?_)
   clear hK K
   refine norm_ (a' := ?_) ?_ ?_
   rotate_left
   ·show Act.put _ (some 94) _ = _
    simp only [Act.put, List.setIfInBounds_toArray, List.set_cons_zero, List.set_cons_succ, i64_w, i32_w]
    rfl
   refine pure_ (i := 7) (N := some 87) (v := ?_) (a' := ?_) #[true, true, true, true, true, true, true, true, false, false, true, false, false] rfl rfl (by kernel_rfl) (fun _ _ _ h => h) (Or.inl ⟨by rfl, ?_⟩) ?_ ?_
   rotate_left
   ·intro w'
    go_simp
    with_reducible rfl
   rotate_left
   ·simp only [Act.put, List.setIfInBounds_toArray, List.set_cons_zero, List.set_cons_succ, i64_w, i32_w]
    rfl
   refine pure_ (i := 8) (N := some 95) (v := ?_) (a' := ?_) #[true, true, true, true, true, true, true, true, true, false, true, false, false] rfl rfl (by kernel_rfl) (fun _ _ _ h => h) (Or.inl ⟨by rfl, ?_⟩) ?_ ?_
   rotate_left
   ·intro w'
    go_simp
    with_reducible rfl
   rotate_left
   ·simp only [Act.put, List.setIfInBounds_toArray, List.set_cons_zero, List.set_cons_succ, i64_w, i32_w]
    rfl
   refine pure_ (i := 9) (N := some 96) (v := ?_) (a' := ?_) #[true, true, true, true, true, true, true, true, true, true, true, false, false] rfl rfl (by kernel_rfl) (fun _ _ _ h => h) (Or.inl ⟨by rfl, ?_⟩) ?_ ?_
   rotate_left
   ·intro w'
    go_simp
    with_reducible rfl
   rotate_left
   ·simp only [Act.put, List.setIfInBounds_toArray, List.set_cons_zero, List.set_cons_succ, i64_w, i32_w]
    rfl
   have hN_ := HN2.out
   have hg_ := GE.out
   have hl_ := blk_lt CE.out
   exact norm_ (by
    simp only [putAll, Act.put, List.setIfInBounds_toArray, List.set_cons_zero, List.set_cons_succ]
    try rfl) (HC ⟨_, _, _, _, _⟩ wz33 ⟨wz33.heap.size, B.out, C2.out, C6.out, C9.out, S2.out, S4.out, CS.out, CE.out, Kd.S_mono S7.out (fun q hq => by have := hq.1; have := hq.2; (try have := GL.out); omega), by (try have := GL.out); omega, hl_, rfl⟩)
 rintro ⟨Av7, cv7, g14, Av6, cv6⟩ w22 ⟨H14, f_0, f_1, f_2, f_3, f_4, f_5, f_6, f_7, f_8, f_9, f_10, f_11⟩
 clear B C2 C6 C9 S2 S4 CS hHeld
 have B := Aside0.mk f_0
 have C2 := Aside0.mk f_1
 have C6 := Aside0.mk f_2
 have C9 := Aside0.mk f_3
 have S2 := Aside0.mk f_4
 have S4 := Aside0.mk f_5
 have CS := Aside0.mk f_6
 have C14 := Aside0.mk f_7
 have S7 := Aside0.mk f_8
 have LTm := Aside0.mk (And.intro (And.intro LT.out LTn.out) (And.intro f_9 (And.intro f_10 f_11)))
 clear LTn HN2 LT
 have LT := LTm
 clear LTm f_0 f_1 f_2 f_3 f_4 f_5 f_6 f_7 f_8 f_9 f_10 f_11
 refine norm_ (a' := ?_) ?_ ?_
 rotate_left
 ·simp only [putAll, Act.put, List.setIfInBounds_toArray, List.set_cons_zero, List.set_cons_succ]
  rfl
 refine one_ (i := 11) (N := none) #[true, true, true, true, true, true, true, true, true, true, true, true, false] rfl rfl (by kernel_rfl) (by decide) (fun K hK => ?_)
 have hc14_0 : w22.cell? ⟨g14, 0, none⟩ = some (.slice none 0 0) := (blk_cell C14.out 0).trans rfl
 have hf14_0 := blk_frozen C14.out 0
 rw [if_pos (by rfl)]
 unfold Oper.wp
 go_simp
 obtain ⟨w23, hw23⟩ : ∃ w23, w23 = (w22.setCell ⟨g14, 0, none⟩ (.slice Av7 b.length cv7)) := ⟨_, rfl⟩
 rw [← hw23]
 have K14 : Kept w22 w23 (fun q => q = g14) := by
  rw [hw23]
  exact Kept.setCell (S := fun q => q = g14) (p := ⟨g14, 0, none⟩) (Kept.refl w22 (fun q => q = g14)) (.inl rfl) (.slice Av7 b.length cv7)
 have Bn := Aside0.mk (show Below w.heap.size w w23 from by rw [hw23]; exact below_set B.out (by have := LT.out; omega))
 have Cn := Aside0.mk (show w23.heap[g14]? = some (.cells #[.slice Av7 b.length cv7] 28 (0, 0)) from by
  rw [hw23]
  have p0 : (w22.setCell ⟨g14, 0, none⟩ (.slice Av7 b.length cv7)).heap[g14]? = some (.cells #[.slice Av7 b.length cv7] 28 (0, 0)) := blk_put C14.out 0 (.slice Av7 b.length cv7) rfl
  exact p0)
 clear B C14
 have B := Bn
 have C14 := Cn
 clear Bn Cn
 have n0_ := Aside0.mk (blk_kept C2.out K14 (by have := LT.out; omega)); clear C2; have C2 := n0_; clear n0_; have n0_ := Aside0.mk (blk_kept C6.out K14 (by have := LT.out; omega)); clear C6; have C6 := n0_; clear n0_; have n0_ := Aside0.mk (blk_kept C9.out K14 (by have := LT.out; omega)); clear C9; have C9 := n0_; clear n0_; have n0_ := Aside0.mk (Kd.S_kept S2.out K14 (fun q hq e_ => by have := LT.out; omega)); clear S2; have S2 := n0_; clear n0_; have n0_ := Aside0.mk (Kd.S_kept S4.out K14 (fun q hq e_ => by have := LT.out; omega)); clear S4; have S4 := n0_; clear n0_; have n0_ := Aside0.mk (Kd.S_kept S7.out K14 (fun q hq e_ => by have := LT.out; omega)); clear S7; have S7 := n0_; clear n0_; have n0_ := Aside0.mk (blk_kept CS.out K14 (by have := LT.out; omega)); clear CS; have CS := n0_; clear n0_
 have hz_ := K14.1
 have LTm := Aside0.mk (And.intro LT.out (show H14 ≤ w23.heap.size from by have := LT.out; omega))
 clear LT hz_ hw23 K14 hc14_0 hf14_0
 have LT := LTm
 clear LTm
 refine hK.out _ _ ⟨(blk_cell C2.out 0).trans rfl, (blk_cell CS.out 0).trans rfl, (blk_cell CS.out 1).trans rfl, (blk_cell CS.out 2).trans rfl⟩ (fun hHeld => ?_)
 clear hK K
 refine pure_ (i := 12) (N := some 19) (v := ?_) (a' := ?_) #[true, true, true, true, true, true, true, true, true, true, true, true, true] rfl rfl (by kernel_rfl) (fun _ _ _ h => h) (Or.inl ⟨by rfl, ?_⟩) ?_ ?_
 rotate_left
 ·intro w'
  go_simp
  with_reducible rfl
 rotate_left
 ·simp only [Act.put, List.setIfInBounds_toArray, List.set_cons_zero, List.set_cons_succ, i64_w, i32_w]
  rfl
 refine done_ (by kernel_rfl) ?_
 have hc14_0 : w23.cell? ⟨g14, 0, none⟩ = some (.slice Av7 b.length cv7) := (blk_cell C14.out 0).trans rfl
 have hc6_0 : w23.cell? ⟨g6, 0, none⟩ = some (.slice Av2 b.length cv2) := (blk_cell C6.out 0).trans rfl
 go_upto_region 27 with (first | (go_at_fn 18; refine (laws_eqProgram.calls k Av7 cv7 b  Av2 cv2 b  true _ (Kd.S_reads' S7.out).2.2 (Kd.S_reads' S7.out).2.1 (Kd.S_reads' S2.out).2.2 (Kd.S_reads' S2.out).2.1 hE).mono ?_; rintro e w24 ⟨rfl, hb⟩; have n0_ := Aside0.mk (below_step B.out hb); clear B; have B := n0_; clear n0_; have n0_ := Aside0.mk (blk_below C9.out hb); clear C9; have C9 := n0_; clear n0_; have n0_ := Aside0.mk (Kd.S_below S4.out hb); clear S4; have S4 := n0_; clear n0_; have n0_ := Aside0.mk (blk_below CS.out hb); clear CS; have CS := n0_; clear n0_; clear hb))
 clear hc14_0 hc6_0
 have hc9_0 : w24.cell? ⟨g9, 0, none⟩ = some (.slice Av4 b.length cv4) := (blk_cell C9.out 0).trans rfl
 go_wp2_with (first | (go_at_fn 50; refine (hheld _ (by rw [HL.out]; exact (Kd.S_reads' S4.out).2.2) (Kd.S_reads' S4.out).2.1).mono ?_; rintro e w25 ⟨rfl, hb⟩; have n0_ := Aside0.mk (below_step B.out hb); clear B; have B := n0_; clear n0_; have n0_ := Aside0.mk (blk_below CS.out hb); clear CS; have CS := n0_; clear n0_; clear hb))
 go_ret
 exact ⟨rfl, B.out⟩
end Go.Proofs.Ythdhhpcbagpmgaa.Pr
end

section
set_option linter.unusedVariables false
set_option linter.unusedSimpArgs false
namespace Go.Proofs.Ythdhhpcbagpmgaa.PureL
open Go.RowKit Go.Proofs.Ythdhhpcbagpmgaa.Pr Go.Proofs.YthdhhpcbagpmgaaW.PrintWords Go.Proofs.YthdhhpcbagpmgaaW.PrintLast
theorem wrap_in {i : Int} (h0 : -9223372036854775808 ≤ i) (h1 : i ≤ 9223372036854775807) : wrap64 i = i := by unfold wrap64; omega
def to72 (s : S69) : S72 := ⟨s.f0, s.f1, s.f2⟩
def total {α : Type} (l : List (List α)) : Nat := (l.map List.length).sum
theorem rd2_at (l : List (List S69)) (i : Nat) (h : i < l.length) : rd_L2 l (i : Int) = l[i] := by unfold rd_L2; rw [Int.toNat_natCast, List.getD_eq_getElem?_getD, List.getElem?_eq_getElem h]; rfl
theorem rd4_at (l : List (List S72)) (i : Nat) (h : i < l.length) : rd_L4 l (i : Int) = l[i] := by unfold rd_L4; rw [Int.toNat_natCast, List.getD_eq_getElem?_getD, List.getElem?_eq_getElem h]; rfl
theorem rd69_at (l : List S69) (i : Nat) (h : i < l.length) : rd_T69 l (i : Int) = l[i] := by unfold rd_T69; rw [Int.toNat_natCast, List.getD_eq_getElem?_getD, List.getElem?_eq_getElem h]; rfl
theorem rd72_at (l : List S72) (i : Nat) (h : i < l.length) : rd_T72 l (i : Int) = l[i] := by unfold rd_T72; rw [Int.toNat_natCast, List.getD_eq_getElem?_getD, List.getElem?_eq_getElem h]; rfl
theorem szSS_l (l : List (List S69)) (hb : ∀ b ∈ l, b.length ≤ 9223372036854775807) (hl : l.length ≤ 9223372036854775807) : ∀ (d i : Nat) (a : Int), d + i = l.length → 0 ≤ a → a ≤ 1048576 →
  ∃ r, (∀ k, d < k → laws_szStepSS.l0 k l a i = some r) ∧ (0 ≤ r → (total (l.drop i) : Int) ≤ a) := by
 intro d
 induction d with
 | zero =>
  intro i a hd h0 h1
  refine ⟨a, fun k hk => ?_, fun _ => ?_⟩
  ·obtain ⟨k, rfl⟩ : ∃ z, k = z + 1 := ⟨k - 1, by omega⟩
   rw [laws_szStepSS.l0, if_neg (by omega)]
  ·rw [List.drop_eq_nil_of_le (by omega)]; simp [total]; omega
 | succ d ih =>
  intro i a hd h0 h1
  have hi : i < l.length := by omega
  have hbi := hb _ (List.getElem_mem hi)
  have hdrop : l.drop i = l[i] :: l.drop (i + 1) := List.drop_eq_getElem_cons hi
  have hw : wrap64 (a - (l[i].length : Int)) = a - (l[i].length : Int) := wrap_in (by omega) (by omega)
  by_cases hc : a - (l[i].length : Int) < 0
  ·refine ⟨-1, fun k hk => ?_, fun h => by omega⟩
   obtain ⟨k, rfl⟩ : ∃ z, k = z + 1 := ⟨k - 1, by omega⟩
   rw [laws_szStepSS.l0, if_pos (by omega), if_pos (by omega), rd2_at l i hi, laws_szStepS.f, hw, if_pos hc, Option.bind_some, if_pos (by omega)]
  ·obtain ⟨r, h2, h3⟩ := ih (i + 1) (a - (l[i].length : Int)) (by omega) (by omega) (by omega)
   refine ⟨r, fun k hk => ?_, fun h => ?_⟩
   ·obtain ⟨k, rfl⟩ : ∃ z, k = z + 1 := ⟨k - 1, by omega⟩
    rw [laws_szStepSS.l0, if_pos (by omega), if_pos (by omega), rd2_at l i hi, laws_szStepS.f, hw, if_neg hc, Option.bind_some, if_neg hc, wrap_in (by omega) (by omega)]
    exact h2 k (by omega)
   ·have := h3 h
    rw [hdrop]
    simp only [total, List.map_cons, List.sum_cons] at this ⊢
    omega
theorem szProgram_ok (l : List (List S69)) (hb : ∀ b ∈ l, b.length ≤ 9223372036854775807) (hl : l.length ≤ 9223372036854775807) :
  ∃ r, (∀ k, l.length + 1 < k → laws_szProgram.f k l 1048576 = some r) ∧ (0 ≤ r → l.length + total l ≤ 1048576) := by
 have hw : wrap64 (1048576 - (l.length : Int)) = 1048576 - (l.length : Int) := wrap_in (by omega) (by omega)
 by_cases hc : 1048576 - (l.length : Int) < 0
 ·refine ⟨-1, fun k hk => ?_, fun h => by omega⟩
  unfold laws_szProgram.f laws_szStepSS.f
  rw [hw, if_pos hc, Option.bind_some, if_pos (by omega)]
 ·obtain ⟨r, h2, h3⟩ := szSS_l l hb hl l.length 0 (1048576 - (l.length : Int)) (by omega) (by omega) (by omega)
  by_cases hr : r < 0
  ·refine ⟨-1, fun k hk => ?_, fun h => by omega⟩
   unfold laws_szProgram.f laws_szStepSS.f
   have := h2 k (by omega)
   rw [Int.natCast_zero] at this
   rw [hw, if_neg hc, this, Option.bind_some, if_pos hr]
  ·refine ⟨r, fun k hk => ?_, fun h => ?_⟩
   ·unfold laws_szProgram.f laws_szStepSS.f
    have := h2 k (by omega)
    rw [Int.natCast_zero] at this
    rw [hw, if_neg hc, this, Option.bind_some, if_neg hr]
   ·have := h3 h
    rw [List.drop_zero] at this
    omega
theorem toStepS_l (l : List S69) (hl : l.length ≤ 1048576) : ∀ (d i : Nat), d + i = l.length → ∀ k, d < k → laws_toStepS.l0 k l ((l.map to72).take i ++ List.replicate d z72) i = some (l.map to72) := by
 intro d
 induction d with
 | zero =>
  intro i hd k hk
  obtain ⟨k, rfl⟩ : ∃ z, k = z + 1 := ⟨k - 1, by omega⟩
  rw [laws_toStepS.l0, if_neg (by omega), List.take_of_length_le (by simp; omega)]
  simp
 | succ d ih =>
  intro i hd k hk
  obtain ⟨k, rfl⟩ : ∃ z, k = z + 1 := ⟨k - 1, by omega⟩
  have hi : i < l.length := by omega
  have hlen : ((l.map to72).take i ++ List.replicate (d + 1) z72).length = l.length := by simp; omega
  have htl : ((l.map to72).take i).length = i := by simp; omega
  rw [laws_toStepS.l0, if_pos (by omega), if_pos (by omega), rd69_at l i hi, laws_toStep.f, Option.bind_some, if_pos (by rw [hlen]; omega), wrap_in (by omega) (by omega), Int.toNat_natCast]
  have hset : ((l.map to72).take i ++ List.replicate (d + 1) z72).set i (to72 l[i]) = (l.map to72).take (i + 1) ++ List.replicate d z72 := by
   rw [List.set_append_right _ _ (by omega), htl, Nat.sub_self, List.replicate_succ, List.set_cons_zero, List.take_add_one, List.getElem?_map, List.getElem?_eq_getElem hi]
   simp
  exact (congrArg (fun z => laws_toStepS.l0 k l z ((i : Int) + 1)) hset).trans (by exact_mod_cast ih (i + 1) (by omega) k (by omega))
theorem toStepS_ok (l : List S69) (hl : l.length ≤ 1048576) (k : Nat) (hk : 1048577 < k) : laws_toStepS.f k l = some (l.map to72) := by
 unfold laws_toStepS.f
 rw [if_pos (by omega), if_pos (by omega), Int.toNat_natCast]
 have := toStepS_l l hl l.length 0 (by omega) k (by omega)
 simpa using this
def toP (l : List (List S69)) : List (List S72) := l.map (·.map to72)
theorem toStepSS_l (l : List (List S69)) (hl : l.length ≤ 1048576) (hb : ∀ b ∈ l, b.length ≤ 1048576) : ∀ (d i : Nat), d + i = l.length → ∀ k, 1048577 + d < k → laws_toStepSS.l0 k l ((toP l).take i ++ List.replicate d []) i = some (toP l) := by
 intro d
 induction d with
 | zero =>
  intro i hd k hk
  obtain ⟨k, rfl⟩ : ∃ z, k = z + 1 := ⟨k - 1, by omega⟩
  rw [laws_toStepSS.l0, if_neg (by omega), List.take_of_length_le (by simp [toP]; omega)]
  simp
 | succ d ih =>
  intro i hd k hk
  obtain ⟨k, rfl⟩ : ∃ z, k = z + 1 := ⟨k - 1, by omega⟩
  have hi : i < l.length := by omega
  have hlen : ((toP l).take i ++ List.replicate (d + 1) []).length = l.length := by simp [toP]; omega
  have htl : ((toP l).take i).length = i := by simp [toP]; omega
  rw [laws_toStepSS.l0, if_pos (by omega), if_pos (by omega), rd2_at l i hi, toStepS_ok _ (hb _ (List.getElem_mem hi)) k (by omega), Option.bind_some, if_pos (by rw [hlen]; omega), wrap_in (by omega) (by omega), Int.toNat_natCast]
  have hset : ((toP l).take i ++ List.replicate (d + 1) []).set i (l[i].map to72) = (toP l).take (i + 1) ++ List.replicate d [] := by
   rw [List.set_append_right _ _ (by omega), htl, Nat.sub_self, List.replicate_succ, List.set_cons_zero, List.take_add_one]
   have : (toP l)[i]? = some (l[i].map to72) := by unfold toP; rw [List.getElem?_map, List.getElem?_eq_getElem hi]; rfl
   rw [this]
   simp
  exact (congrArg (fun z => laws_toStepSS.l0 k l z ((i : Int) + 1)) hset).trans (by exact_mod_cast ih (i + 1) (by omega) k (by omega))
theorem toProgram_ok (l : List (List S69)) (hl : l.length ≤ 1048576) (hb : ∀ b ∈ l, b.length ≤ 1048576) (k : Nat) (hk : 2097154 < k) : laws_toProgram.f k l = some (toP l) := by
 unfold laws_toProgram.f laws_toStepSS.f
 rw [if_pos (by omega), if_pos (by omega), Int.toNat_natCast]
 have := toStepSS_l l hl hb l.length 0 (by omega) k (by omega)
 simp only [List.take_zero, List.nil_append, Int.natCast_zero] at this
 rw [this, Option.bind_some]
theorem eqStepS_l (l : List S72) (hl : l.length ≤ 1048576) : ∀ (d i : Nat), d + i = l.length → ∀ k, d < k → laws_eqStepS.l0 k l l i = some true := by
 intro d
 induction d with
 | zero =>
  intro i hd k hk
  obtain ⟨k, rfl⟩ : ∃ z, k = z + 1 := ⟨k - 1, by omega⟩
  rw [laws_eqStepS.l0, if_neg (by omega)]
 | succ d ih =>
  intro i hd k hk
  obtain ⟨k, rfl⟩ : ∃ z, k = z + 1 := ⟨k - 1, by omega⟩
  rw [laws_eqStepS.l0, if_pos (by omega), if_pos (by omega), if_pos (by omega), laws_eqStep.f, if_pos rfl, if_pos rfl, if_pos rfl, Option.bind_some, if_pos rfl, wrap_in (by omega) (by omega)]
  exact_mod_cast ih (i + 1) (by omega) k (by omega)
theorem eqStepSS_l (l : List (List S72)) (hl : l.length ≤ 1048576) (hb : ∀ b ∈ l, b.length ≤ 1048576) : ∀ (d i : Nat), d + i = l.length → ∀ k, 1048577 + d < k → laws_eqStepSS.l0 k l l i = some true := by
 intro d
 induction d with
 | zero =>
  intro i hd k hk
  obtain ⟨k, rfl⟩ : ∃ z, k = z + 1 := ⟨k - 1, by omega⟩
  rw [laws_eqStepSS.l0, if_neg (by omega)]
 | succ d ih =>
  intro i hd k hk
  obtain ⟨k, rfl⟩ : ∃ z, k = z + 1 := ⟨k - 1, by omega⟩
  have hi : i < l.length := by omega
  have hbi := hb _ (List.getElem_mem hi)
  have h1 := eqStepS_l l[i] hbi l[i].length 0 (by omega) k (by omega)
  rw [Int.natCast_zero] at h1
  rw [laws_eqStepSS.l0, if_pos (by omega), if_pos (by omega), if_pos (by omega), rd4_at l i hi, laws_eqStepS.f, if_pos rfl, h1, Option.bind_some, if_pos rfl, wrap_in (by omega) (by omega)]
  exact_mod_cast ih (i + 1) (by omega) k (by omega)
theorem eqProgram_ok (l : List (List S72)) (hl : l.length ≤ 1048576) (hb : ∀ b ∈ l, b.length ≤ 1048576) (k : Nat) (hk : 2097154 < k) : laws_eqProgram.f k l l = some true := by
 unfold laws_eqProgram.f laws_eqStepSS.f
 have := eqStepSS_l l hl hb l.length 0 (by omega) k (by omega)
 rw [Int.natCast_zero] at this
 rw [if_pos rfl, this, Option.bind_some, if_pos rfl]
end Go.Proofs.Ythdhhpcbagpmgaa.PureL
end

section
set_option linter.unusedVariables false
set_option linter.unusedSimpArgs false
namespace Go.Proofs.Ythdhhpcbagpmgaa.PureL
open Go.RowKit Go.Proofs.Ythdhhpcbagpmgaa.Pr Go.Proofs.YthdhhpcbagpmgaaW.PrintWords Go.Proofs.YthdhhpcbagpmgaaW.PrintLast
def mk3 : Int → Nat → List S72
 | _, 0 => []
 | a, n + 1 => ⟨a, a + 1, a + 2⟩ :: mk3 (a + 3) n
def marks : Int → List (List S72) → List (List S72)
 | _, [] => []
 | a, b :: l => mk3 a b.length :: marks (a + 3 * b.length) l
theorem rd72_mid (d t : List S72) (s : S72) : rd_T72 (d ++ s :: t) (d.length : Int) = s := by rw [rd72_at _ _ (by simp)]; simp
theorem rd4_mid (d t : List (List S72)) (s : List S72) : rd_L4 (d ++ s :: t) (d.length : Int) = s := by rw [rd4_at _ _ (by simp)]; simp
theorem set_mid {α : Type} (d t : List α) (s v : α) : (d ++ s :: t).set d.length v = d ++ v :: t := by rw [List.set_append_right _ _ (Nat.le_refl _), Nat.sub_self, List.set_cons_zero]
theorem markStepS_l : ∀ (t d : List S72) (a : Int), 0 ≤ a → a + 3 * t.length ≤ 1000000000 → d.length + t.length ≤ 100000000 → ∀ k, t.length < k → laws_markStepS.l0 k (d ++ t) a d.length = some (a + 3 * t.length, d ++ mk3 a t.length) := by
 intro t
 induction t with
 | nil =>
  intro d a h0 h1 h2 k hk
  obtain ⟨k, rfl⟩ : ∃ z, k = z + 1 := ⟨k - 1, by omega⟩
  rw [laws_markStepS.l0, if_neg (by simp)]
  simp [mk3]
 | cons s t ih =>
  intro d a h0 h1 h2 k hk
  simp only [List.length_cons] at h1 h2 hk
  obtain ⟨k, rfl⟩ : ∃ z, k = z + 1 := ⟨k - 1, by omega⟩
  rw [laws_markStepS.l0, if_pos (by simp; omega), if_pos (by omega), Option.bind_some]
  simp only [Int.toNat_natCast, set_mid, Option.bind_some, rd72_mid]
  rw [wrap_in (i := a + 1) (by omega) (by omega), wrap_in (i := a + 1 + 1) (by omega) (by omega), wrap_in (i := a + 1 + 1 + 1) (by omega) (by omega), wrap_in (i := (d.length : Int) + 1) (by omega) (by omega)]
  have h := ih (d ++ [⟨a, a + 1, a + 2⟩]) (a + 3) (by omega) (by push_cast at h1 ⊢; omega) (by simp; omega) k (by omega)
  simp only [List.append_assoc, List.singleton_append, List.length_append, List.length_singleton] at h
  have e1 : a + 1 + 1 = a + 2 := by omega
  have e2 : a + 1 + 1 + 1 = a + 3 := by omega
  rw [e2, e1]
  push_cast at h ⊢
  rw [h]
  simp only [List.length_cons, mk3]
  congr 2
  push_cast
  omega
theorem heldStepS_l : ∀ (n : Nat) (d : List S72) (a : Int), 0 ≤ a → a + 3 * n ≤ 1000000000 → d.length + n ≤ 100000000 → ∀ k, n < k → laws_heldStepS.l0 k (d ++ mk3 a n) a d.length = some (a + 3 * n) := by
 intro n
 induction n with
 | zero =>
  intro d a h0 h1 h2 k hk
  obtain ⟨k, rfl⟩ : ∃ z, k = z + 1 := ⟨k - 1, by omega⟩
  rw [laws_heldStepS.l0, if_neg (by simp [mk3])]
  simp
 | succ n ih =>
  intro d a h0 h1 h2 k hk
  obtain ⟨k, rfl⟩ : ∃ z, k = z + 1 := ⟨k - 1, by omega⟩
  rw [mk3, laws_heldStepS.l0, if_pos (by simp; omega), if_pos (by omega), rd72_mid, wrap_in (i := a + 1) (by omega) (by omega), wrap_in (i := a + 1 + 1) (by omega) (by omega), wrap_in (i := a + 1 + 1 + 1) (by omega) (by omega), wrap_in (i := (d.length : Int) + 1) (by omega) (by omega), if_pos rfl, if_pos rfl, if_pos (by dsimp only; omega)]
  have h := ih (d ++ [⟨a, a + 1, a + 2⟩]) (a + 3) (by omega) (by omega) (by simp; omega) k (by omega)
  simp only [List.append_assoc, List.singleton_append, List.length_append, List.length_singleton] at h
  have e2 : a + 1 + 1 + 1 = a + 3 := by omega
  rw [e2]
  push_cast at h ⊢
  rw [h]
  congr 1
  omega
theorem total_cons {α : Type} (b : List α) (l : List (List α)) : total (b :: l) = b.length + total l := by simp [total]
theorem markSS_g (k : Nat) (hk : 10000000 < k) : ∀ (l : List (List S72)) (a : Int), 0 ≤ a → a + 3 * total l ≤ 1000000000 → total l ≤ 2000000 → laws_markStepSS.g k l a = some (a + 3 * total l, marks a l) := by
 intro l
 induction l with
 | nil => intro a _ _ _; simp [laws_markStepSS.g, marks, total]
 | cons b l ih =>
  intro a h0 h1 h2
  rw [total_cons] at h1 h2
  have h := markStepS_l b [] a h0 (by push_cast at h1 ⊢; omega) (by simp; omega) k (by omega)
  simp only [List.nil_append, List.length_nil, Int.natCast_zero] at h
  rw [laws_markStepSS.g, laws_markStepS.f, h, Option.bind_some]
  dsimp only
  rw [ih (a + 3 * b.length) (by omega) (by push_cast at h1 ⊢; omega) (by omega), Option.bind_some, marks, total_cons]
  dsimp only
  congr 2
  push_cast
  omega
theorem heldSS_l : ∀ (l d : List (List S72)) (a : Int), 0 ≤ a → a + 3 * total l ≤ 1000000000 → total l ≤ 2000000 → d.length + l.length ≤ 2000000 → ∀ k, 10000000 + l.length < k → laws_heldStepSS.l0 k (d ++ marks a l) a d.length = some (a + 3 * total l) := by
 intro l
 induction l with
 | nil =>
  intro d a h0 h1 h2 h3 k hk
  obtain ⟨k, rfl⟩ : ∃ z, k = z + 1 := ⟨k - 1, by omega⟩
  rw [laws_heldStepSS.l0, if_neg (by simp [marks])]
  simp [total]
 | cons b l ih =>
  intro d a h0 h1 h2 h3 k hk
  rw [total_cons] at h1 h2
  simp only [List.length_cons] at h3 hk
  obtain ⟨k, rfl⟩ : ∃ z, k = z + 1 := ⟨k - 1, by omega⟩
  have h := heldStepS_l b.length [] a h0 (by push_cast at h1 ⊢; omega) (by simp; omega) k (by omega)
  simp only [List.nil_append, List.length_nil, Int.natCast_zero] at h
  rw [marks, laws_heldStepSS.l0, if_pos (by simp; omega), if_pos (by omega), rd4_mid, laws_heldStepS.f, h, Option.bind_some, if_neg (by omega), wrap_in (i := (d.length : Int) + 1) (by omega) (by omega)]
  have h4 := ih (d ++ [mk3 a b.length]) (a + 3 * b.length) (by omega) (by push_cast at h1 ⊢; omega) (by omega) (by simp; omega) k (by omega)
  simp only [List.append_assoc, List.singleton_append, List.length_append, List.length_singleton] at h4
  push_cast at h4 ⊢
  rw [h4, total_cons]
  congr 1
  push_cast
  omega
theorem mark_ok (l : List (List S72)) (h : total l ≤ 1048576) (k : Nat) (hk : 20000000 < k) : laws_markStepSS.f k l 1 = some (1 + 3 * (total l : Int), marks 1 l) := markSS_g k (by omega) l 1 (by omega) (by omega) (by omega)
theorem sin_eq (a b c : Int) : spec_l1In.f a b c = some (decide (b ≤ a ∧ a ≤ c)) := by
 unfold spec_l1In.f
 by_cases h : a ≥ b
 ·rw [if_pos h]; simp [show b ≤ a from h]
 ·rw [if_neg h]; simp [show ¬ b ≤ a from h]
theorem sStep_eq (l : List (List S72)) (s : S72) (hl : l.length ≤ 6) (k : Nat) (hk : 2 < k) : spec_l2Step.f k l s.f0 s.f1 s.f2 = some (stepOk (l.length : Int) s) := by
 obtain ⟨a, b, c⟩ := s
 obtain ⟨k, rfl⟩ : ∃ z, k = z + 1 := ⟨k - 1, by omega⟩
 obtain ⟨k, rfl⟩ : ∃ z, k = z + 1 := ⟨k - 1, by omega⟩
 have hw : wrap64 ((l.length : Int) - 1) = (l.length : Int) - 1 := wrap_in (by omega) (by omega)
 simp only [stepOk, spec_l2Step.f, spec_l2Step.j0, spec_l2Step.j1, spec_l2Reg.f, spec_l2Number.f, spec_l2Function.f, sin_eq, Option.bind_some, hw]
 generalize (l.length : Int) = n
 by_cases k1 : a = 1
 ·subst k1
  rw [if_pos rfl]
  by_cases hb : 0 ≤ b ∧ b ≤ 3 <;> by_cases hc : -32768 ≤ c ∧ c ≤ 32767 <;> simp [hb, hc]
 rw [if_neg k1]
 by_cases k2 : a = 2
 ·subst k2
  rw [if_pos rfl]
  by_cases hb : 0 ≤ b ∧ b ≤ 3 <;> by_cases hc : 0 ≤ c ∧ c ≤ 3 <;> simp [hb, hc]
 rw [if_neg k2]
 by_cases k4 : a = 4
 ·subst k4
  rw [if_pos rfl]
  by_cases hb : 0 ≤ b ∧ b ≤ n - 1 <;> by_cases hc : 0 ≤ c ∧ c ≤ 3 <;> simp [hb, hc]
 rw [if_neg k4]
 by_cases k5 : a = 5
 ·subst k5
  by_cases hb : 0 ≤ b ∧ b ≤ n - 1 <;> by_cases hc : 0 ≤ c ∧ c ≤ 3 <;> simp [hb, hc]
 have e5 : (a == 5) = false := by simp [k5]
 rw [e5, if_neg (by simp)]
 by_cases k10 : a = 10
 ·subst k10
  by_cases hb : b = 0 <;> by_cases hc : c = 0 <;> simp [hb, hc]
 by_cases k11 : a = 11
 ·subst k11
  by_cases hb : 0 ≤ b ∧ b ≤ 8 <;> by_cases hc : 0 ≤ c ∧ c ≤ 3 <;> simp [hb, hc]
 by_cases hb : 0 ≤ b ∧ b ≤ 3 <;> by_cases hc : c = 0 <;> by_cases k3 : a = 3 <;> by_cases k6 : a = 6 <;> by_cases k7 : a = 7 <;> by_cases k8 : a = 8 <;> by_cases k9 : a = 9 <;> by_cases k12 : a = 12 <;> by_cases k13 : a = 13 <;> simp_all
 all_goals (have hq : ¬ (0 ≤ b ∧ b ≤ 3) := fun h => by have := hb h.1; omega)
 all_goals (rw [if_neg hq, ← Bool.decide_and, decide_eq_false hq])
theorem prog_l1 (l : List (List S72)) (hl : l.length ≤ 6) (i : Nat) (hi : i < l.length) (hb : l[i].length ≤ 8) : ∀ (d j : Nat), d + j = l[i].length → ∀ k, 10 + d < k →
  ∃ k', k ≤ k' + d + 1 ∧ spec_l2Program.l1 k i j l = if ((l[i].drop j).all (stepOk (l.length : Int))) = true then spec_l2Program.l0 k' ((i + 1 : Nat) : Int) l else some false := by
 intro d
 induction d with
 | zero =>
  intro j hd k hk
  obtain ⟨k, rfl⟩ : ∃ z, k = z + 1 := ⟨k - 1, by omega⟩
  refine ⟨k, by omega, ?_⟩
  rw [spec_l2Program.l1, if_pos (by omega), if_pos (by omega), rd4_at l i hi, if_neg (by omega), wrap_in (by omega) (by omega), List.drop_eq_nil_of_le (by omega)]
  simp
 | succ d ih =>
  intro j hd k hk
  obtain ⟨k, rfl⟩ : ∃ z, k = z + 1 := ⟨k - 1, by omega⟩
  have hj : j < l[i].length := by omega
  obtain ⟨k', h1, h2⟩ := ih (j + 1) (by omega) k (by omega)
  have hdrop : l[i].drop j = l[i][j] :: l[i].drop (j + 1) := List.drop_eq_getElem_cons hj
  refine ⟨k', by omega, ?_⟩
  rw [spec_l2Program.l1, if_pos (by omega), if_pos (by omega), rd4_at l i hi, if_pos (by omega), if_pos (by omega), rd72_at _ j hj, sStep_eq l l[i][j] hl k (by omega), Option.bind_some, wrap_in (by omega) (by omega), hdrop]
  cases hs : stepOk (l.length : Int) l[i][j] with
  | true =>
   rw [if_pos rfl, List.all_cons, hs, Bool.true_and]
   exact_mod_cast h2
  | false =>
   rw [if_neg (by simp), List.all_cons, hs, Bool.false_and, if_neg (by simp)]
theorem prog_l0 (l : List (List S72)) (hl : l.length ≤ 6) : ∀ (d i : Nat), d + i = l.length → ∀ k, 100 * d + 20 < k → spec_l2Program.l0 k i l = some ((l.drop i).all (bodyOk (l.length : Int))) := by
 intro d
 induction d with
 | zero =>
  intro i hd k hk
  obtain ⟨k, rfl⟩ : ∃ z, k = z + 1 := ⟨k - 1, by omega⟩
  rw [spec_l2Program.l0, if_neg (by omega), List.drop_eq_nil_of_le (by omega)]
  rfl
 | succ d ih =>
  intro i hd k hk
  obtain ⟨k, rfl⟩ : ∃ z, k = z + 1 := ⟨k - 1, by omega⟩
  have hi : i < l.length := by omega
  have hdrop : l.drop i = l[i] :: l.drop (i + 1) := List.drop_eq_getElem_cons hi
  rw [spec_l2Program.l0, if_pos (by omega), if_pos (by omega), rd4_at l i hi, hdrop, List.all_cons]
  by_cases h8 : l[i].length ≤ 8
  ·obtain ⟨k', h1, h2⟩ := prog_l1 l hl i hi h8 l[i].length 0 (by omega) k (by omega)
   rw [Int.natCast_zero, List.drop_zero] at h2
   have hk : bodyOk (l.length : Int) l[i] = l[i].all (stepOk (l.length : Int)) := by unfold bodyOk; rw [decide_eq_true h8, Bool.true_and]
   rw [if_neg (by omega), h2, hk]
   cases ha : l[i].all (stepOk (l.length : Int)) with
   | true => rw [if_pos rfl, Bool.true_and]; exact ih (i + 1) (by omega) k' (by omega)
   | false => rw [if_neg (by simp), Bool.false_and]
  ·have hk : bodyOk (l.length : Int) l[i] = false := by unfold bodyOk; rw [decide_eq_false h8, Bool.false_and]
   rw [if_pos (by omega), hk, Bool.false_and]
theorem program_ok (l : List (List S72)) (k : Nat) (hk : 1000 < k) : spec_l2Program.f k l = some (progOk l) := by
 unfold spec_l2Program.f progOk
 rw [sin_eq, Option.bind_some]
 by_cases h : 1 ≤ l.length ∧ l.length ≤ 6
 ·have := prog_l0 l h.2 l.length 0 (by omega) k (by omega)
  rw [Int.natCast_zero, List.drop_zero] at this
  rw [decide_eq_true (by omega), if_pos rfl, this, decide_eq_true h.1, decide_eq_true h.2]
  rfl
 ·rw [decide_eq_false (by omega), if_neg (by simp)]
  by_cases h1 : 1 ≤ l.length
  ·rw [decide_eq_false (show ¬ l.length ≤ 6 by omega)]; simp
  ·rw [decide_eq_false h1]; simp
end Go.Proofs.Ythdhhpcbagpmgaa.PureL
end

section
namespace Go.Proofs.Ythdhhpcbagpmgaa.Pr
open Go.RowKit Go.Proofs.YthdhhpcbagpmgaaW.PrintWords Go.Proofs.YthdhhpcbagpmgaaW.PrintLast Go.Proofs.YthdhhpcbagpmgaaW.PrintMore
attribute [local go_sem] max2_int min2_int max_two min_two max_three min_three max_four min_four
set_option linter.unusedVariables false
set_option linter.unusedSimpArgs false

end Go.Proofs.Ythdhhpcbagpmgaa.Pr
end

section
set_option linter.unusedVariables false
set_option linter.unusedSimpArgs false
namespace Go.Proofs.Ythdhhpcbagpmgaa.PureL
open Go.RowKit Go.Proofs.Ythdhhpcbagpmgaa.Pr Go.Proofs.YthdhhpcbagpmgaaW.PrintWords Go.Proofs.YthdhhpcbagpmgaaW.PrintLast Go.Proofs.YthdhhpcbagpmgaaW.PrintMore
theorem putStep_eq (p : List (List S72)) (f at_ : Int) (s : S72) (k : Nat) (hk : 1048577 < k) (hlen : p.length ≤ 1048576) : spec_PutStep.f k p f at_ s.f0 s.f1 s.f2 = impl_PutStep.f p f at_ s.f0 s.f1 s.f2 := by
 unfold spec_PutStep.f impl_PutStep.f
 rw [program_ok p k (by omega), Option.bind_some]
 cases hP : progOk p with
 | false =>
  have : putOk p f at_ s = false := by unfold putOk; rw [hP]; simp
  rw [this]; rfl
 | true =>
  obtain ⟨hl1, hl6, hbs⟩ := progOk_len hP
  rw [if_pos rfl]
  unfold spec_l2Function.f
  rw [wrap_in (by omega) (by omega), sin_eq, Option.bind_some, Option.bind_some]
  by_cases hf : 0 ≤ f ∧ f ≤ (p.length : Int) - 1
  ·rw [decide_eq_true hf, if_pos rfl, if_pos hf.1, if_pos (by omega)]
   obtain ⟨fn, rfl⟩ : ∃ fn : Nat, f = fn := ⟨f.toNat, by omega⟩
   have hfn : fn < p.length := by omega
   have hg : p.getD (fn : Int).toNat [] = p[fn] := by rw [Int.toNat_natCast, List.getD_eq_getElem?_getD, List.getElem?_eq_getElem hfn]; rfl
   obtain ⟨hx8, hst⟩ := hbs _ (List.getElem_mem hfn)
   unfold putOk
   rw [hg, hP, decide_eq_true hf, rd4_at p fn hfn, Bool.true_and, Bool.true_and]
   by_cases h8 : p[fn].length = 8
   ·rw [if_pos (by omega)]
    have : decide (p[fn].length ≠ 8) = false := decide_eq_false (by simpa using h8)
    rw [this, Bool.and_false, Bool.false_and]; rfl
   ·have : decide (p[fn].length ≠ 8) = true := decide_eq_true h8
    rw [if_neg (by omega), sin_eq, Option.bind_some, this, Bool.and_true]
    by_cases h2 : 0 ≤ at_ ∧ at_ ≤ (p[fn].length : Int)
    ·rw [decide_eq_true h2, if_pos rfl, Bool.true_and, sStep_eq p s hl6 k (by omega), Option.bind_some]
     cases hs : stepOk (p.length : Int) s with
     | false => rfl
     | true =>
      obtain ⟨an, rfl⟩ : ∃ an : Nat, at_ = an := ⟨at_.toNat, by omega⟩
      have hl2 : spec_l2Put.f p fn an s.f0 s.f1 s.f2 = some (p.set fn (putB an s p[fn])) := by
       unfold spec_l2Put.f
       rw [hg, hP, decide_eq_true hf, decide_eq_true h2, Bool.and_self, if_pos (by rfl), Int.toNat_natCast]
      rw [if_pos rfl, hl2, Option.bind_some, if_pos rfl, Int.toNat_natCast]
    ·rw [decide_eq_false h2, Bool.false_and]; rfl
  ·have : putOk p f at_ s = false := by unfold putOk; rw [hP, decide_eq_false hf]; simp
   rw [decide_eq_false hf, this]; rfl
theorem putStep_small (p : List (List S72)) (f at_ k a b : Int) (r : List (List S72)) (o : Bool) (h : impl_PutStep.f p f at_ k a b = some (r, o)) : r.length ≤ 6 ∧ ∀ b ∈ r, b.length ≤ 9 := by
 unfold impl_PutStep.f at h
 by_cases hp : putOk p f at_ ⟨k, a, b⟩ = true
 ·rw [if_pos hp] at h
  obtain ⟨rfl, rfl⟩ := Prod.mk.inj (Option.some.inj h)
  unfold putOk at hp
  simp only [Bool.and_eq_true, decide_eq_true_eq] at hp
  obtain ⟨hl1, hl6, hbs⟩ := progOk_len hp.1.1.1.1
  have hg := getD_mem p f.toNat (by omega)
  refine ⟨by rw [List.length_set]; exact hl6, fun c hc => ?_⟩
  rcases List.mem_or_eq_of_mem_set hc with hc | rfl
  ·have := (hbs _ hc).1; omega
  ·have h8 := (hbs _ hg).1
   unfold putB
   simp only [List.length_append, List.length_take, List.length_map, List.length_cons, List.length_drop]
   omega
 ·rw [if_neg hp] at h
  obtain ⟨rfl, rfl⟩ := Prod.mk.inj (Option.some.inj h)
  exact ⟨by decide, fun c hc => by cases hc⟩
end Go.Proofs.Ythdhhpcbagpmgaa.PureL
end

section
set_option linter.unusedVariables false
set_option linter.unusedSimpArgs false
namespace Go.Proofs.Ythdhhpcbagpmgaa.PureL
open Go.RowKit Go.Proofs.Ythdhhpcbagpmgaa.Pr Go.Proofs.YthdhhpcbagpmgaaW.PrintWords Go.Proofs.YthdhhpcbagpmgaaW.PrintLast
theorem total_toP' (l : List (List S69)) : total (toP l) = total l := by
 unfold total toP
 rw [List.map_map]
 congr 1
 apply List.map_congr_left
 intro b _
 simp
theorem mem_total' {α : Type} : ∀ (l : List (List α)) (b : List α), b ∈ l → b.length ≤ total l := by
 intro l
 induction l with
 | nil => intro b h; cases h
 | cons c l ih =>
  intro b h
  rw [total_cons]
  rcases List.mem_cons.1 h with h | h
  ·subst h; omega
  ·have := ih b h; omega
theorem total_le {l : List (List S72)} {n : Nat} (hb : ∀ b ∈ l, b.length ≤ n) : total l ≤ l.length * n := by
 induction l with
 | nil => simp [total]
 | cons c l ih =>
  rw [total_cons, List.length_cons, Nat.succ_mul]
  have := ih (fun b h => hb b (List.mem_cons_of_mem _ h))
  have := hb c List.mem_cons_self
  omega
theorem heldP_ok (l : List (List S72)) (h : total l ≤ 1048576) (hl : l.length ≤ 1048576) (k : Nat) (hk : 20000000 < k) : laws_heldProgram.f k (marks 1 l) 1 = some (1 + 3 * (total l : Int)) := by
 have h1 := heldSS_l l [] 1 (by omega) (by omega) (by omega) (by simp; omega) k (by omega)
 simp only [List.nil_append, List.length_nil, Int.natCast_zero] at h1
 unfold laws_heldProgram.f laws_heldStepSS.f
 rw [h1, Option.bind_some, if_neg (by omega)]
theorem prog_facts (l0 : List (List S69)) (hb : ∀ b ∈ l0, b.length ≤ 9223372036854775807) (hl : l0.length ≤ 9223372036854775807) : ∃ (sz : Int) (k : Nat), 30000000 < k ∧ laws_szProgram.f k l0 1048576 = some sz ∧
  (0 ≤ sz → laws_toProgram.f k l0 = some (toP l0) ∧ laws_eqProgram.f k (toP l0) (toP l0) = some true ∧ laws_markStepSS.f k (toP l0) 1 = some (1 + 3 * (total (toP l0) : Int), marks 1 (toP l0)) ∧ (toP l0).length ≤ 1048576 ∧ (∀ b ∈ toP l0, b.length ≤ 1048576)) := by
 obtain ⟨sz, h1, h2⟩ := szProgram_ok l0 hb hl
 obtain ⟨k, hk⟩ : ∃ k, 30000000 + l0.length < k := ⟨_, Nat.lt_succ_self _⟩
 refine ⟨sz, k, by omega, h1 k (by omega), fun h0 => ?_⟩
 have hs := h2 (by omega)
 have hb2 : ∀ b ∈ l0, b.length ≤ 1048576 := fun b hb => by have := mem_total' l0 b hb; omega
 have hpl : (toP l0).length ≤ 1048576 := by unfold toP; rw [List.length_map]; omega
 have htp : total (toP l0) ≤ 1048576 := by rw [total_toP']; omega
 have hpb : ∀ b ∈ toP l0, b.length ≤ 1048576 := fun b hb => by have := mem_total' _ b hb; omega
 exact ⟨toProgram_ok l0 (by omega) hb2 k (by omega), eqProgram_ok _ hpl hpb k (by omega), mark_ok _ htp k (by omega), hpl, hpb⟩
theorem small_facts (b : List (List S72)) (hl : b.length ≤ 7) (hb : ∀ x ∈ b, x.length ≤ 20) (k : Nat) (hk : 30000000 < k) :
  laws_eqProgram.f k b b = some true ∧ laws_markStepSS.f k b 1 = some (1 + 3 * (total b : Int), marks 1 b) ∧ laws_heldProgram.f k (marks 1 b) 1 = some (1 + 3 * (total b : Int)) := by
 have ht : total b ≤ 1048576 := by
  have := total_le hb
  have : b.length * 20 ≤ 7 * 20 := Nat.mul_le_mul_right _ hl
  omega
 exact ⟨eqProgram_ok b (by omega) (fun x hx => by have := hb x hx; omega) k (by omega), mark_ok b ht k (by omega), heldP_ok b ht (by omega) k (by omega)⟩
end Go.Proofs.Ythdhhpcbagpmgaa.PureL
end

section
set_option linter.unusedVariables false
set_option linter.unusedSimpArgs false
namespace Go.Proofs.Ythdhhpcbagpmgaa.PureL
open Go.RowKit Go.Proofs.Ythdhhpcbagpmgaa.Pr Go.Proofs.YthdhhpcbagpmgaaW.PrintWords Go.Proofs.YthdhhpcbagpmgaaW.PrintLast
theorem FnExactPutStep (A0 : Option Addr) (c0 : Nat) (l0 : List (List S69)) (x1 x2 s0 s1 s2 : Int) (w : World) (hr0 : Kd.C (Kd.slice 69 k69) w A0 l0.length l0) (hc0 : l0.length ≤ c0) (hb : ∀ b ∈ l0, b.length ≤ 9223372036854775807) (hl : l0.length ≤ 9223372036854775807) :
  Calls Try.prog 6 #[.agg #[.slice A0 l0.length c0], .int .i64 x1, .int .i64 x2, .agg #[.int .i64 s0, .int .i64 s1, .int .i64 s2]] w fun e w' => e = .returned (.bool true) ∧ Below w.heap.size w w' := by
 obtain ⟨sz, k, hk, h1, h2⟩ := prog_facts l0 hb hl
 by_cases h0 : sz < 0
 ·exact putStep_big k A0 c0 l0 x1 x2 s0 s1 s2 w hr0 hc0 sz h1 h0
 ·obtain ⟨hT, hEp, hM, hpl, hpb⟩ := h2 (by omega)
  have n1 := putStep_eq (toP l0) x1 x2 ⟨s0, s1, s2⟩ k (by omega) hpl
  obtain ⟨⟨b, o⟩, hR⟩ : ∃ R, impl_PutStep.f (toP l0) x1 x2 s0 s1 s2 = some R := ⟨_, rfl⟩
  have hsm := putStep_small _ _ _ _ _ _ b o hR
  obtain ⟨hE, hM2, hH⟩ := small_facts b (by omega) (fun x hx => by have := hsm.2 x hx; omega) k hk
  exact putStep_walk k A0 c0 l0 x1 x2 s0 s1 s2 w hr0 hc0 sz (toP l0) b o _ _ _ _ h1 (by omega) hT (n1.trans hR) hR hE hEp hM (by omega) hM2 hH (by omega)
end Go.Proofs.Ythdhhpcbagpmgaa.PureL
end

section
namespace Go.Proofs.Ythdhhpcbagpmgaa.PureL
open Go.RowKit Go.Proofs.Ythdhhpcbagpmgaa.Pr Go.Proofs.YthdhhpcbagpmgaaW.PrintWords Go.Proofs.YthdhhpcbagpmgaaW.PrintLast Go.ChangeShapes Go.WideShapes
set_option linter.unusedVariables false
set_option linter.unusedSimpArgs false
section
variable {H : Type} {enc : TypeId × Value → H} {w : World} {base : Nat} {spare : Nat → Bool} {held : Bool}
def Opens {α : Type} (enc : TypeId × Value → H) (w : World) (base : Nat) (spare : Nat → Bool) (held : Bool) (d : Kd α) (t : TypeId) (good : α → Prop) : Prop :=
 ∀ (fuel : Nat) (cs : List Value) (x : DataW H × List MemPlace), DataW.trod enc Try.prog w base spare held fuel t cs = some x → ∃ y, d.K w y cs ∧ good y
theorem opens_slice {α : Type} {d : Kd α} {t e : TypeId} {good : α → Prop} (ht : Try.prog.underlying t = some (.slice e)) (hc : Try.prog.cellsOf e = d.sz) (h : Opens enc w base spare held d e good) :
  Opens enc w base spare held (Kd.slice e d) t (fun l => l.length ≤ maxLen ∧ ∀ y ∈ l, good y) := by
 intro fuel cs x hx
 rcases DataW.trod_slice ht hx with ⟨rfl, _⟩ | ⟨a, len, cap, elems, rest, n, _, rfl, _, hb, hl, hm, hlen, hel, _, _⟩
 ·exact ⟨[], ⟨none, 0, rfl, Nat.le_refl _, rfl, by simp, fun h => absurd h (by simp)⟩, by simp, by simp⟩
 ·have each : ∀ i, i < len → ∃ y, (∃ c, c.length = d.sz ∧ d.K w y c ∧ ∀ q u, c[q]? = some u → w.cell? (a.add (i * d.sz + q)) = some u) ∧ good y := by
   intro i hi
   have he := hel i hi
   rw [List.getElem?_eq_getElem (by omega), Option.bind_eq_some_iff] at he
   obtain ⟨c, hcs, hy⟩ := he
   obtain ⟨y, hK, hg⟩ := h n c _ hy
   obtain ⟨_, hcl, hcell⟩ := World.cells?_some hcs
   rw [hc] at hcl hcell
   refine ⟨y, ⟨c, hcl, hK, fun q u hq => ?_⟩, hg⟩
   have hq' : q < c.length := (List.getElem?_eq_some_iff.1 hq).1
   have := hcell q (by omega)
   rw [hq, Addr.add_add] at this
   exact this
  have build : ∀ m, m ≤ len → ∃ l : List α, l.length = m ∧ (∀ j p, l[j]? = some p → ∃ c, c.length = d.sz ∧ d.K w p c ∧ ∀ q u, c[q]? = some u → w.cell? (a.add (j * d.sz + q)) = some u) ∧ ∀ y ∈ l, good y := by
   intro m
   induction m with
   | zero => intro _; exact ⟨[], rfl, fun j p h => by simp at h, by simp⟩
   | succ m ih =>
    intro hm
    obtain ⟨l, h1, h2, h3⟩ := ih (by omega)
    obtain ⟨y, hy, hg⟩ := each m (by omega)
    refine ⟨l ++ [y], by simp [h1], fun j p hp => ?_, fun z hz => ?_⟩
    ·by_cases hj : j < l.length
     ·rw [List.getElem?_append_left hj] at hp; exact h2 j p hp
     ·have hj2 : j < (l ++ [y]).length := (List.getElem?_eq_some_iff.1 hp).1
      have hjm : j = m := by simp only [List.length_append, List.length_singleton] at hj2; omega
      subst hjm
      rw [List.getElem?_append_right (by omega), h1, Nat.sub_self] at hp
      simp only [List.getElem?_cons_zero, Option.some.injEq] at hp
      subst hp
      exact hy
    ·rcases List.mem_append.1 hz with hz | hz
     ·exact h3 z hz
     ·rw [List.mem_singleton] at hz; subst hz; exact hg
  obtain ⟨l, h1, h2, h3⟩ := build len (Nat.le_refl _)
  have hmx : maxLen ≤ 9223372036854775807 := by simp only [maxLen]; decide
  refine ⟨l, ⟨some a, cap, by rw [h1], by omega, h1 ▸ rfl, by omega, fun _ => ⟨a, rfl, h2⟩⟩, by omega, h3⟩
set_option maxRecDepth 100000 in
theorem opens_step : Opens enc w base spare held k69 69 (fun s => (Lit.int .i64 s.f0).wf = true ∧ (Lit.int .i64 s.f1).wf = true ∧ (Lit.int .i64 s.f2).wf = true) := by
 intro fuel cs x hx
 obtain ⟨xs, n, _, _, hl, hlen, hf⟩ := DataW.trod_struct Try.underlying69 hx
 have hcl : cs.length = 3 := hl.trans (by kernel_rfl)
 have h3 : Try.prog.cellsOf 3 = 1 := by kernel_rfl
 have h0 := hf 0 { name := "Kind", type := 3, offset := 0, embedded := false, tag := "", pkgPath := "", byteOffset := 0 } rfl
 have h1 := hf 1 { name := "A", type := 3, offset := 1, embedded := false, tag := "", pkgPath := "", byteOffset := 8 } rfl
 have h2 := hf 2 { name := "B", type := 3, offset := 2, embedded := false, tag := "", pkgPath := "", byteOffset := 16 } rfl
 have hx3 : xs.length = 3 := hlen
 match cs, hcl with
 | [c0, c1, c2], _ =>
  dsimp only at h0 h1 h2
  rw [h3] at h0 h1 h2
  rw [List.getElem?_eq_getElem (by omega)] at h0 h1 h2
  obtain ⟨n0, e0, _, w0⟩ := DataW.trod_int Try.underlying3 h0
  obtain ⟨n1, e1, _, w1⟩ := DataW.trod_int Try.underlying3 h1
  obtain ⟨n2, e2, _, w2⟩ := DataW.trod_int Try.underlying3 h2
  simp at e0 e1 e2
  subst e0 e1 e2
  exact ⟨⟨n0, n1, n2⟩, k69_mk w ⟨n0, n1, n2⟩, w0, w1, w2⟩
theorem opens_body : Opens enc w base spare held (Kd.slice 69 k69) 138 (fun l => l.length ≤ maxLen ∧ ∀ s ∈ l, (Lit.int .i64 s.f0).wf = true ∧ (Lit.int .i64 s.f1).wf = true ∧ (Lit.int .i64 s.f2).wf = true) :=
 opens_slice Try.underlying138 (by kernel_rfl) opens_step
theorem opens_bodies : Opens enc w base spare held (Kd.slice 138 (Kd.slice 69 k69)) 22 (fun l => l.length ≤ maxLen ∧ ∀ b ∈ l, b.length ≤ maxLen ∧ ∀ s ∈ b, (Lit.int .i64 s.f0).wf = true ∧ (Lit.int .i64 s.f1).wf = true ∧ (Lit.int .i64 s.f2).wf = true) :=
 opens_slice Try.underlying22 (by kernel_rfl) opens_body
set_option maxRecDepth 100000 in
theorem open_program {fuel : Nat} {cs : List Value} {x : DataW H × List MemPlace} (h : DataW.trod enc Try.prog w base spare held fuel 24 cs = some x) :
  ∃ (l : List (List S69)) (A : Option Addr) (c : Nat), cs = [.slice A l.length c] ∧ l.length ≤ c ∧ Kd.C (Kd.slice 69 k69) w A l.length l ∧ l.length ≤ maxLen ∧ ∀ b ∈ l, b.length ≤ maxLen ∧ ∀ s ∈ b, (Lit.int .i64 s.f0).wf = true ∧ (Lit.int .i64 s.f1).wf = true ∧ (Lit.int .i64 s.f2).wf = true := by
 obtain ⟨y0, n, _, hl, hy⟩ := trod_struct1 Try.underlying24 h
 have hcl : cs.length = 1 := hl.trans (by kernel_rfl)
 have h22 : Try.prog.cellsOf 22 = 1 := by kernel_rfl
 match cs, hcl with
 | [v], _ =>
  rw [h22] at hy
  obtain ⟨l, ⟨A, c, e, hc, hC⟩, hg⟩ := opens_bodies n _ _ hy
  simp at e
  subst e
  exact ⟨l, A, c, rfl, hc, hC, hg⟩
end
end Go.Proofs.Ythdhhpcbagpmgaa.PureL
end
