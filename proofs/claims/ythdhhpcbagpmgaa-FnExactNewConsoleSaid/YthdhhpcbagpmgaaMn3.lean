-- texts of this session, and of the kit's print, cut to what the claim leans on
import Derived.Test.YthdhhpcbagpmgaaMn1
import Derived.Test.YthdhhpcbagpmgaaMn2
import Derived.Test.YthdhhpcbagpmgaaMn0
import Derived.ChangeSame
import Derived.ChangeSlices
section
namespace Go.Proofs.Ythdhhpcbagpmgaa.Pr
open Go.RowKit Go.Proofs.YthdhhpcbagpmgaaW.PrintWords Go.Proofs.YthdhhpcbagpmgaaW.PrintLast Go.Proofs.YthdhhpcbagpmgaaW.PrintMore
attribute [local go_sem] max2_int min2_int max_two min_two max_three min_three max_four min_four
set_option linter.unusedVariables false
set_option linter.unusedSimpArgs false
def laws_eqConsole.f (k : Nat) (l0_0 : List (List (S72))) (a0_1 : Int) (a0_2 : Int) (a0_3 : ByteArray) (a0_4 : ByteArray) (a0_5 : Int) (l1_0 : List (List (S72))) (a1_1 : Int) (a1_2 : Int) (a1_3 : ByteArray) (a1_4 : ByteArray) (a1_5 : Int) : Option (Bool) := (laws_eqBench.f k l0_0 a0_1 a0_2 l1_0 a1_1 a1_2).bind fun t299 => (if t299 = true then ((laws_eqLog.f a0_3 a0_4 a0_5 a1_3 a1_4 a1_5).bind fun t300 => (if t300 = true then (some true) else (some false))) else (some false))
set_option maxHeartbeats 8000000 in
set_option maxRecDepth 100000 in
theorem laws_eqConsole.calls (k : Nat) (A0_0 : Option Addr) (c0_0 : Nat) (l0_0 : List (List (S72))) (a0_1 : Int) (a0_2 : Int) (a0_3 : ByteArray) (a0_4 : ByteArray) (a0_5 : Int) (A1_0 : Option Addr) (c1_0 : Nat) (l1_0 : List (List (S72))) (a1_1 : Int) (a1_2 : Int) (a1_3 : ByteArray) (a1_4 : ByteArray) (a1_5 : Int) (r : Bool) (w : World) (hr0_0 : Kd.C (Kd.slice 72 k72) w A0_0 l0_0.length l0_0) (hc0_0 : l0_0.length ≤ c0_0) (hr1_0 : Kd.C (Kd.slice 72 k72) w A1_0 l1_0.length l1_0) (hc1_0 : l1_0.length ≤ c1_0) (h : laws_eqConsole.f k l0_0 a0_1 a0_2 a0_3 a0_4 a0_5 l1_0 a1_1 a1_2 a1_3 a1_4 a1_5 = some r) :
  Calls Try.prog 26 #[.agg #[.slice A0_0 l0_0.length c0_0, .int .i64 a0_1, .int .i64 a0_2, .string a0_3, .string a0_4, .int .i64 a0_5], .agg #[.slice A1_0 l1_0.length c1_0, .int .i64 a1_1, .int .i64 a1_2, .string a1_3, .string a1_4, .int .i64 a1_5]] w fun e w' => e = .returned (.bool r) ∧ Below w.heap.size w w' := by
 have hu45 := Try.underlying45
 have hu30 := Try.underlying30
 have hu43 := Try.underlying43
 have HR0_0 := am hr0_0
 have HC0_0 := am hc0_0
 clear hr0_0 hc0_0
 have HR1_0 := am hr1_0
 have HC1_0 := am hc1_0
 clear hr1_0 hc1_0
 have HB := am (Below.refl w.heap.size w)
 have H : ((laws_eqBench.f k l0_0 a0_1 a0_2 l1_0 a1_1 a1_2).bind fun t299 => (if t299 = true then ((laws_eqLog.f a0_3 a0_4 a0_5 a1_3 a1_4 a1_5).bind fun t300 => (if t300 = true then (some true) else (some false))) else (some false))) = some r := h
 clear h
 replace H := bem H
 obtain ⟨t299, A30, H⟩ := H
 replace H : (if t299 = true then ((laws_eqLog.f a0_3 a0_4 a0_5 a1_3 a1_4 a1_5).bind fun t300 => (if t300 = true then (some true) else (some false))) else (some false)) = some r := H
 have A3 := am A30
 clear A30
 by_cases c4 : t299 = true
 ·subst c4
  have H1 : ((laws_eqLog.f a0_3 a0_4 a0_5 a1_3 a1_4 a1_5).bind fun t300 => (if t300 = true then (some true) else (some false))) = some r := by rw [if_pos rfl] at H; exact H
  clear H
  have H := H1
  clear H1
  replace H := bem H
  obtain ⟨t300, A50, H⟩ := H
  replace H : (if t300 = true then (some true) else (some false)) = some r := H
  have A5 := am A50
  clear A50
  by_cases c6 : t300 = true
  ·subst c6
   have H1 : (some true) = some r := by rw [if_pos rfl] at H; exact H
   clear H
   have H := H1
   clear H1
   obtain rfl := Option.some.inj H
   go_enter Try.func26, Try.ntmps26
   go_wp2_with (first | ((with_reducible refine gate_dst (N := 2) rfl ?_); refine box_event ?hg (N := 2) ?hd (cs := #[.slice A0_0 l0_0.length c0_0, .int .i64 a0_1, .int .i64 a0_2, .string a0_3, .string a0_4, .int .i64 a0_5]) (t := 45) ?hr ?_; (case hd => rfl); (case hg => rfl); (case hr => first | (go_simp; done) | (go_simp; rfl)); intro gb297 hg w7 hbox hb; have n0_ := am (below_step zq0 hb); have n1_ := am (hbox); have n2_ := am ((zq12 : w.heap.size ≤ gb297)); have n3_ := am ((zq12 : w.heap.size ≤ gb297)); clear HB; have HB := n0_; have BK297 := n1_; have GW297 := n2_; have GE297 := n3_; clear n0_ n1_ n2_ n3_; clear hb hbox hg) | ((with_reducible refine gate_dst (N := 3) rfl ?_); refine box_event ?hg (N := 3) ?hd (cs := #[.slice A1_0 l1_0.length c1_0, .int .i64 a1_1, .int .i64 a1_2, .string a1_3, .string a1_4, .int .i64 a1_5]) (t := 45) ?hr ?_; (case hd => rfl); (case hg => rfl); (case hr => first | (go_simp; done) | (go_simp; rfl)); intro gb298 hg w8 hbox hb; have n0_ := am (blk_below (g := gb297) (o := .cells #[.slice A0_0 l0_0.length c0_0, .int .i64 a0_1, .int .i64 a0_2, .string a0_3, .string a0_4, .int .i64 a0_5] 45 (0, 0)) zq93 hb); have n1_ := am (below_step zq95 hb); have n2_ := am (hbox); have n3_ := am ((zq106 : w.heap.size ≤ gb298)); have n4_ := am ((zq106 : w.heap.size ≤ gb298)); have n5_ := am ((zq98 : gb297 ≠ gb298)); have n6_ := am ((zq99 : gb298 ≠ gb297)); clear BK297; clear HB; have BK297 := n0_; have HB := n1_; have BK298 := n2_; have GW298 := n3_; have GE298 := n4_; have NB297_298 := n5_; have NB298_297 := n6_; clear n0_ n1_ n2_ n3_ n4_ n5_ n6_; clear hb hbox hg; have hnb9 := NB297_298.out; have hnc9 := NB298_297.out; have hcz10_0 : w8.cell? ⟨gb297, 0, none⟩ = some (.slice A0_0 l0_0.length c0_0) := (blk_cell BK297.out 0).trans rfl; have hcz10_1 : w8.cell? ⟨gb297, 1, none⟩ = some (.int .i64 a0_1) := (blk_cell BK297.out 1).trans rfl; have hcz10_2 : w8.cell? ⟨gb297, 2, none⟩ = some (.int .i64 a0_2) := (blk_cell BK297.out 2).trans rfl; have hcz10_3 : w8.cell? ⟨gb297, 3, none⟩ = some (.string a0_3) := (blk_cell BK297.out 3).trans rfl; have hcz10_4 : w8.cell? ⟨gb297, 4, none⟩ = some (.string a0_4) := (blk_cell BK297.out 4).trans rfl; have hcz10_5 : w8.cell? ⟨gb297, 5, none⟩ = some (.int .i64 a0_5) := (blk_cell BK297.out 5).trans rfl; have hfz10_0 := blk_frozen BK297.out 0; have hfz10_1 := blk_frozen BK297.out 1; have hfz10_2 := blk_frozen BK297.out 2; have hfz10_3 := blk_frozen BK297.out 3; have hfz10_4 := blk_frozen BK297.out 4; have hfz10_5 := blk_frozen BK297.out 5; have hcz11_0 : w8.cell? ⟨gb298, 0, none⟩ = some (.slice A1_0 l1_0.length c1_0) := (blk_cell BK298.out 0).trans rfl; have hcz11_1 : w8.cell? ⟨gb298, 1, none⟩ = some (.int .i64 a1_1) := (blk_cell BK298.out 1).trans rfl; have hcz11_2 : w8.cell? ⟨gb298, 2, none⟩ = some (.int .i64 a1_2) := (blk_cell BK298.out 2).trans rfl; have hcz11_3 : w8.cell? ⟨gb298, 3, none⟩ = some (.string a1_3) := (blk_cell BK298.out 3).trans rfl; have hcz11_4 : w8.cell? ⟨gb298, 4, none⟩ = some (.string a1_4) := (blk_cell BK298.out 4).trans rfl; have hcz11_5 : w8.cell? ⟨gb298, 5, none⟩ = some (.int .i64 a1_5) := (blk_cell BK298.out 5).trans rfl; have hfz11_0 := blk_frozen BK298.out 0; have hfz11_1 := blk_frozen BK298.out 1; have hfz11_2 := blk_frozen BK298.out 2; have hfz11_3 := blk_frozen BK298.out 3; have hfz11_4 := blk_frozen BK298.out 4; have hfz11_5 := blk_frozen BK298.out 5) | ((with_reducible refine gate_callee (f := 17) rfl ?_); refine goesL_ (some 9) rfl rfl Try.func17 zq17 rfl #[.agg #[.slice A0_0 l0_0.length c0_0, .int .i64 a0_1, .int .i64 a0_2], .agg #[.slice A1_0 l1_0.length c1_0, .int .i64 a1_1, .int .i64 a1_2]] rfl zq1 ?_; (with_reducible refine (laws_eqBench.calls k _ _ l0_0 a0_1 a0_2 _ _ l1_0 a1_1 a1_2 true _ ?side1 ?side2 ?side3 ?side4 A3.out).mono ?_); (case side1 => repeat (first | exact (Kd.C_below HR0_0.out HB.out) | (with_reducible refine Kd.C_alloc ?_ _) | (with_reducible refine Kd.C_drewN ?_ _) | (with_reducible refine Kd.C_drew ?_))); (case side2 => exact HC0_0.out); (case side3 => repeat (first | exact (Kd.C_below HR1_0.out HB.out) | (with_reducible refine Kd.C_alloc ?_ _) | (with_reducible refine Kd.C_drewN ?_ _) | (with_reducible refine Kd.C_drew ?_))); (case side4 => exact HC1_0.out); rintro e w12 ⟨rfl, hb⟩; refine ⟨_, rfl, ?_⟩; have n0_ := am (blk_below (g := gb297) (o := .cells #[.slice A0_0 l0_0.length c0_0, .int .i64 a0_1, .int .i64 a0_2, .string a0_3, .string a0_4, .int .i64 a0_5] 45 (0, 0)) zq93 hb); have n1_ := am (blk_below (g := gb298) (o := .cells #[.slice A1_0 l1_0.length c1_0, .int .i64 a1_1, .int .i64 a1_2, .string a1_3, .string a1_4, .int .i64 a1_5] 45 (0, 0)) zq97 hb); have n2_ := am (below_step zq94 hb); clear BK297; clear BK298; clear HB; have BK297 := n0_; have BK298 := n1_; have HB := n2_; clear n0_ n1_ n2_; (try clear hb); (try clear hb2); (try clear hk); (try clear hi); have hcz13_0 : w12.cell? ⟨gb297, 0, none⟩ = some (.slice A0_0 l0_0.length c0_0) := (blk_cell BK297.out 0).trans rfl; have hcz13_1 : w12.cell? ⟨gb297, 1, none⟩ = some (.int .i64 a0_1) := (blk_cell BK297.out 1).trans rfl; have hcz13_2 : w12.cell? ⟨gb297, 2, none⟩ = some (.int .i64 a0_2) := (blk_cell BK297.out 2).trans rfl; have hcz13_3 : w12.cell? ⟨gb297, 3, none⟩ = some (.string a0_3) := (blk_cell BK297.out 3).trans rfl; have hcz13_4 : w12.cell? ⟨gb297, 4, none⟩ = some (.string a0_4) := (blk_cell BK297.out 4).trans rfl; have hcz13_5 : w12.cell? ⟨gb297, 5, none⟩ = some (.int .i64 a0_5) := (blk_cell BK297.out 5).trans rfl; have hfz13_0 := blk_frozen BK297.out 0; have hfz13_1 := blk_frozen BK297.out 1; have hfz13_2 := blk_frozen BK297.out 2; have hfz13_3 := blk_frozen BK297.out 3; have hfz13_4 := blk_frozen BK297.out 4; have hfz13_5 := blk_frozen BK297.out 5; have hcz14_0 : w12.cell? ⟨gb298, 0, none⟩ = some (.slice A1_0 l1_0.length c1_0) := (blk_cell BK298.out 0).trans rfl; have hcz14_1 : w12.cell? ⟨gb298, 1, none⟩ = some (.int .i64 a1_1) := (blk_cell BK298.out 1).trans rfl; have hcz14_2 : w12.cell? ⟨gb298, 2, none⟩ = some (.int .i64 a1_2) := (blk_cell BK298.out 2).trans rfl; have hcz14_3 : w12.cell? ⟨gb298, 3, none⟩ = some (.string a1_3) := (blk_cell BK298.out 3).trans rfl; have hcz14_4 : w12.cell? ⟨gb298, 4, none⟩ = some (.string a1_4) := (blk_cell BK298.out 4).trans rfl; have hcz14_5 : w12.cell? ⟨gb298, 5, none⟩ = some (.int .i64 a1_5) := (blk_cell BK298.out 5).trans rfl; have hfz14_0 := blk_frozen BK298.out 0; have hfz14_1 := blk_frozen BK298.out 1; have hfz14_2 := blk_frozen BK298.out 2; have hfz14_3 := blk_frozen BK298.out 3; have hfz14_4 := blk_frozen BK298.out 4; have hfz14_5 := blk_frozen BK298.out 5) | ((with_reducible refine gate_callee (f := 74) rfl ?_); refine goesL_ (some 15) rfl rfl Try.func74 zq17 rfl #[.agg #[.string a0_3, .string a0_4, .int .i64 a0_5], .agg #[.string a1_3, .string a1_4, .int .i64 a1_5]] rfl zq1 ?_; (with_reducible refine (laws_eqLog.calls a0_3 a0_4 a0_5 a1_3 a1_4 a1_5 true _ A5.out).mono ?_); rintro e w15 ⟨rfl, hb⟩; refine ⟨_, rfl, ?_⟩; have n0_ := am (blk_below (g := gb297) (o := .cells #[.slice A0_0 l0_0.length c0_0, .int .i64 a0_1, .int .i64 a0_2, .string a0_3, .string a0_4, .int .i64 a0_5] 45 (0, 0)) zq93 hb); have n1_ := am (blk_below (g := gb298) (o := .cells #[.slice A1_0 l1_0.length c1_0, .int .i64 a1_1, .int .i64 a1_2, .string a1_3, .string a1_4, .int .i64 a1_5] 45 (0, 0)) zq97 hb); have n2_ := am (below_step zq94 hb); clear BK297; clear BK298; clear HB; have BK297 := n0_; have BK298 := n1_; have HB := n2_; clear n0_ n1_ n2_; (try clear hb); (try clear hb2); (try clear hk); (try clear hi)))
   go_ret
   exact ⟨zq8, zq94⟩
  ·replace c6 := Bool.eq_false_iff.mpr c6
   subst c6
   have H1 : (some false) = some r := by rw [if_neg (show ¬ (false = true) by decide)] at H; exact H
   clear H
   have H := H1
   clear H1
   obtain rfl := Option.some.inj H
   go_enter Try.func26, Try.ntmps26
   go_wp2_with (first | ((with_reducible refine gate_dst (N := 2) rfl ?_); refine box_event ?hg (N := 2) ?hd (cs := #[.slice A0_0 l0_0.length c0_0, .int .i64 a0_1, .int .i64 a0_2, .string a0_3, .string a0_4, .int .i64 a0_5]) (t := 45) ?hr ?_; (case hd => rfl); (case hg => rfl); (case hr => first | (go_simp; done) | (go_simp; rfl)); intro gb297 hg w16 hbox hb; have n0_ := am (below_step zq0 hb); have n1_ := am (hbox); have n2_ := am ((zq12 : w.heap.size ≤ gb297)); have n3_ := am ((zq12 : w.heap.size ≤ gb297)); clear HB; have HB := n0_; have BK297 := n1_; have GW297 := n2_; have GE297 := n3_; clear n0_ n1_ n2_ n3_; clear hb hbox hg) | ((with_reducible refine gate_dst (N := 3) rfl ?_); refine box_event ?hg (N := 3) ?hd (cs := #[.slice A1_0 l1_0.length c1_0, .int .i64 a1_1, .int .i64 a1_2, .string a1_3, .string a1_4, .int .i64 a1_5]) (t := 45) ?hr ?_; (case hd => rfl); (case hg => rfl); (case hr => first | (go_simp; done) | (go_simp; rfl)); intro gb298 hg w17 hbox hb; have n0_ := am (blk_below (g := gb297) (o := .cells #[.slice A0_0 l0_0.length c0_0, .int .i64 a0_1, .int .i64 a0_2, .string a0_3, .string a0_4, .int .i64 a0_5] 45 (0, 0)) zq93 hb); have n1_ := am (below_step zq95 hb); have n2_ := am (hbox); have n3_ := am ((zq106 : w.heap.size ≤ gb298)); have n4_ := am ((zq106 : w.heap.size ≤ gb298)); have n5_ := am ((zq98 : gb297 ≠ gb298)); have n6_ := am ((zq99 : gb298 ≠ gb297)); clear BK297; clear HB; have BK297 := n0_; have HB := n1_; have BK298 := n2_; have GW298 := n3_; have GE298 := n4_; have NB297_298 := n5_; have NB298_297 := n6_; clear n0_ n1_ n2_ n3_ n4_ n5_ n6_; clear hb hbox hg; have hnb18 := NB297_298.out; have hnc18 := NB298_297.out; have hcz19_0 : w17.cell? ⟨gb297, 0, none⟩ = some (.slice A0_0 l0_0.length c0_0) := (blk_cell BK297.out 0).trans rfl; have hcz19_1 : w17.cell? ⟨gb297, 1, none⟩ = some (.int .i64 a0_1) := (blk_cell BK297.out 1).trans rfl; have hcz19_2 : w17.cell? ⟨gb297, 2, none⟩ = some (.int .i64 a0_2) := (blk_cell BK297.out 2).trans rfl; have hcz19_3 : w17.cell? ⟨gb297, 3, none⟩ = some (.string a0_3) := (blk_cell BK297.out 3).trans rfl; have hcz19_4 : w17.cell? ⟨gb297, 4, none⟩ = some (.string a0_4) := (blk_cell BK297.out 4).trans rfl; have hcz19_5 : w17.cell? ⟨gb297, 5, none⟩ = some (.int .i64 a0_5) := (blk_cell BK297.out 5).trans rfl; have hfz19_0 := blk_frozen BK297.out 0; have hfz19_1 := blk_frozen BK297.out 1; have hfz19_2 := blk_frozen BK297.out 2; have hfz19_3 := blk_frozen BK297.out 3; have hfz19_4 := blk_frozen BK297.out 4; have hfz19_5 := blk_frozen BK297.out 5; have hcz20_0 : w17.cell? ⟨gb298, 0, none⟩ = some (.slice A1_0 l1_0.length c1_0) := (blk_cell BK298.out 0).trans rfl; have hcz20_1 : w17.cell? ⟨gb298, 1, none⟩ = some (.int .i64 a1_1) := (blk_cell BK298.out 1).trans rfl; have hcz20_2 : w17.cell? ⟨gb298, 2, none⟩ = some (.int .i64 a1_2) := (blk_cell BK298.out 2).trans rfl; have hcz20_3 : w17.cell? ⟨gb298, 3, none⟩ = some (.string a1_3) := (blk_cell BK298.out 3).trans rfl; have hcz20_4 : w17.cell? ⟨gb298, 4, none⟩ = some (.string a1_4) := (blk_cell BK298.out 4).trans rfl; have hcz20_5 : w17.cell? ⟨gb298, 5, none⟩ = some (.int .i64 a1_5) := (blk_cell BK298.out 5).trans rfl; have hfz20_0 := blk_frozen BK298.out 0; have hfz20_1 := blk_frozen BK298.out 1; have hfz20_2 := blk_frozen BK298.out 2; have hfz20_3 := blk_frozen BK298.out 3; have hfz20_4 := blk_frozen BK298.out 4; have hfz20_5 := blk_frozen BK298.out 5) | ((with_reducible refine gate_callee (f := 17) rfl ?_); refine goesL_ (some 9) rfl rfl Try.func17 zq17 rfl #[.agg #[.slice A0_0 l0_0.length c0_0, .int .i64 a0_1, .int .i64 a0_2], .agg #[.slice A1_0 l1_0.length c1_0, .int .i64 a1_1, .int .i64 a1_2]] rfl zq1 ?_; (with_reducible refine (laws_eqBench.calls k _ _ l0_0 a0_1 a0_2 _ _ l1_0 a1_1 a1_2 true _ ?side1 ?side2 ?side3 ?side4 A3.out).mono ?_); (case side1 => repeat (first | exact (Kd.C_below HR0_0.out HB.out) | (with_reducible refine Kd.C_alloc ?_ _) | (with_reducible refine Kd.C_drewN ?_ _) | (with_reducible refine Kd.C_drew ?_))); (case side2 => exact HC0_0.out); (case side3 => repeat (first | exact (Kd.C_below HR1_0.out HB.out) | (with_reducible refine Kd.C_alloc ?_ _) | (with_reducible refine Kd.C_drewN ?_ _) | (with_reducible refine Kd.C_drew ?_))); (case side4 => exact HC1_0.out); rintro e w21 ⟨rfl, hb⟩; refine ⟨_, rfl, ?_⟩; have n0_ := am (blk_below (g := gb297) (o := .cells #[.slice A0_0 l0_0.length c0_0, .int .i64 a0_1, .int .i64 a0_2, .string a0_3, .string a0_4, .int .i64 a0_5] 45 (0, 0)) zq93 hb); have n1_ := am (blk_below (g := gb298) (o := .cells #[.slice A1_0 l1_0.length c1_0, .int .i64 a1_1, .int .i64 a1_2, .string a1_3, .string a1_4, .int .i64 a1_5] 45 (0, 0)) zq97 hb); have n2_ := am (below_step zq94 hb); clear BK297; clear BK298; clear HB; have BK297 := n0_; have BK298 := n1_; have HB := n2_; clear n0_ n1_ n2_; (try clear hb); (try clear hb2); (try clear hk); (try clear hi); have hcz22_0 : w21.cell? ⟨gb297, 0, none⟩ = some (.slice A0_0 l0_0.length c0_0) := (blk_cell BK297.out 0).trans rfl; have hcz22_1 : w21.cell? ⟨gb297, 1, none⟩ = some (.int .i64 a0_1) := (blk_cell BK297.out 1).trans rfl; have hcz22_2 : w21.cell? ⟨gb297, 2, none⟩ = some (.int .i64 a0_2) := (blk_cell BK297.out 2).trans rfl; have hcz22_3 : w21.cell? ⟨gb297, 3, none⟩ = some (.string a0_3) := (blk_cell BK297.out 3).trans rfl; have hcz22_4 : w21.cell? ⟨gb297, 4, none⟩ = some (.string a0_4) := (blk_cell BK297.out 4).trans rfl; have hcz22_5 : w21.cell? ⟨gb297, 5, none⟩ = some (.int .i64 a0_5) := (blk_cell BK297.out 5).trans rfl; have hfz22_0 := blk_frozen BK297.out 0; have hfz22_1 := blk_frozen BK297.out 1; have hfz22_2 := blk_frozen BK297.out 2; have hfz22_3 := blk_frozen BK297.out 3; have hfz22_4 := blk_frozen BK297.out 4; have hfz22_5 := blk_frozen BK297.out 5; have hcz23_0 : w21.cell? ⟨gb298, 0, none⟩ = some (.slice A1_0 l1_0.length c1_0) := (blk_cell BK298.out 0).trans rfl; have hcz23_1 : w21.cell? ⟨gb298, 1, none⟩ = some (.int .i64 a1_1) := (blk_cell BK298.out 1).trans rfl; have hcz23_2 : w21.cell? ⟨gb298, 2, none⟩ = some (.int .i64 a1_2) := (blk_cell BK298.out 2).trans rfl; have hcz23_3 : w21.cell? ⟨gb298, 3, none⟩ = some (.string a1_3) := (blk_cell BK298.out 3).trans rfl; have hcz23_4 : w21.cell? ⟨gb298, 4, none⟩ = some (.string a1_4) := (blk_cell BK298.out 4).trans rfl; have hcz23_5 : w21.cell? ⟨gb298, 5, none⟩ = some (.int .i64 a1_5) := (blk_cell BK298.out 5).trans rfl; have hfz23_0 := blk_frozen BK298.out 0; have hfz23_1 := blk_frozen BK298.out 1; have hfz23_2 := blk_frozen BK298.out 2; have hfz23_3 := blk_frozen BK298.out 3; have hfz23_4 := blk_frozen BK298.out 4; have hfz23_5 := blk_frozen BK298.out 5) | ((with_reducible refine gate_callee (f := 74) rfl ?_); refine goesL_ (some 15) rfl rfl Try.func74 zq17 rfl #[.agg #[.string a0_3, .string a0_4, .int .i64 a0_5], .agg #[.string a1_3, .string a1_4, .int .i64 a1_5]] rfl zq1 ?_; (with_reducible refine (laws_eqLog.calls a0_3 a0_4 a0_5 a1_3 a1_4 a1_5 false _ A5.out).mono ?_); rintro e w24 ⟨rfl, hb⟩; refine ⟨_, rfl, ?_⟩; have n0_ := am (blk_below (g := gb297) (o := .cells #[.slice A0_0 l0_0.length c0_0, .int .i64 a0_1, .int .i64 a0_2, .string a0_3, .string a0_4, .int .i64 a0_5] 45 (0, 0)) zq93 hb); have n1_ := am (blk_below (g := gb298) (o := .cells #[.slice A1_0 l1_0.length c1_0, .int .i64 a1_1, .int .i64 a1_2, .string a1_3, .string a1_4, .int .i64 a1_5] 45 (0, 0)) zq97 hb); have n2_ := am (below_step zq94 hb); clear BK297; clear BK298; clear HB; have BK297 := n0_; have BK298 := n1_; have HB := n2_; clear n0_ n1_ n2_; (try clear hb); (try clear hb2); (try clear hk); (try clear hi)))
   go_ret
   exact ⟨zq8, zq94⟩
 ·replace c4 := Bool.eq_false_iff.mpr c4
  subst c4
  have H1 : (some false) = some r := by rw [if_neg (show ¬ (false = true) by decide)] at H; exact H
  clear H
  have H := H1
  clear H1
  obtain rfl := Option.some.inj H
  go_enter Try.func26, Try.ntmps26
  go_wp2_with (first | ((with_reducible refine gate_dst (N := 2) rfl ?_); refine box_event ?hg (N := 2) ?hd (cs := #[.slice A0_0 l0_0.length c0_0, .int .i64 a0_1, .int .i64 a0_2, .string a0_3, .string a0_4, .int .i64 a0_5]) (t := 45) ?hr ?_; (case hd => rfl); (case hg => rfl); (case hr => first | (go_simp; done) | (go_simp; rfl)); intro gb297 hg w25 hbox hb; have n0_ := am (below_step zq0 hb); have n1_ := am (hbox); have n2_ := am ((zq12 : w.heap.size ≤ gb297)); have n3_ := am ((zq12 : w.heap.size ≤ gb297)); clear HB; have HB := n0_; have BK297 := n1_; have GW297 := n2_; have GE297 := n3_; clear n0_ n1_ n2_ n3_; clear hb hbox hg) | ((with_reducible refine gate_dst (N := 3) rfl ?_); refine box_event ?hg (N := 3) ?hd (cs := #[.slice A1_0 l1_0.length c1_0, .int .i64 a1_1, .int .i64 a1_2, .string a1_3, .string a1_4, .int .i64 a1_5]) (t := 45) ?hr ?_; (case hd => rfl); (case hg => rfl); (case hr => first | (go_simp; done) | (go_simp; rfl)); intro gb298 hg w26 hbox hb; have n0_ := am (blk_below (g := gb297) (o := .cells #[.slice A0_0 l0_0.length c0_0, .int .i64 a0_1, .int .i64 a0_2, .string a0_3, .string a0_4, .int .i64 a0_5] 45 (0, 0)) zq93 hb); have n1_ := am (below_step zq95 hb); have n2_ := am (hbox); have n3_ := am ((zq106 : w.heap.size ≤ gb298)); have n4_ := am ((zq106 : w.heap.size ≤ gb298)); have n5_ := am ((zq98 : gb297 ≠ gb298)); have n6_ := am ((zq99 : gb298 ≠ gb297)); clear BK297; clear HB; have BK297 := n0_; have HB := n1_; have BK298 := n2_; have GW298 := n3_; have GE298 := n4_; have NB297_298 := n5_; have NB298_297 := n6_; clear n0_ n1_ n2_ n3_ n4_ n5_ n6_; clear hb hbox hg; have hnb27 := NB297_298.out; have hnc27 := NB298_297.out; have hcz28_0 : w26.cell? ⟨gb297, 0, none⟩ = some (.slice A0_0 l0_0.length c0_0) := (blk_cell BK297.out 0).trans rfl; have hcz28_1 : w26.cell? ⟨gb297, 1, none⟩ = some (.int .i64 a0_1) := (blk_cell BK297.out 1).trans rfl; have hcz28_2 : w26.cell? ⟨gb297, 2, none⟩ = some (.int .i64 a0_2) := (blk_cell BK297.out 2).trans rfl; have hcz28_3 : w26.cell? ⟨gb297, 3, none⟩ = some (.string a0_3) := (blk_cell BK297.out 3).trans rfl; have hcz28_4 : w26.cell? ⟨gb297, 4, none⟩ = some (.string a0_4) := (blk_cell BK297.out 4).trans rfl; have hcz28_5 : w26.cell? ⟨gb297, 5, none⟩ = some (.int .i64 a0_5) := (blk_cell BK297.out 5).trans rfl; have hfz28_0 := blk_frozen BK297.out 0; have hfz28_1 := blk_frozen BK297.out 1; have hfz28_2 := blk_frozen BK297.out 2; have hfz28_3 := blk_frozen BK297.out 3; have hfz28_4 := blk_frozen BK297.out 4; have hfz28_5 := blk_frozen BK297.out 5; have hcz29_0 : w26.cell? ⟨gb298, 0, none⟩ = some (.slice A1_0 l1_0.length c1_0) := (blk_cell BK298.out 0).trans rfl; have hcz29_1 : w26.cell? ⟨gb298, 1, none⟩ = some (.int .i64 a1_1) := (blk_cell BK298.out 1).trans rfl; have hcz29_2 : w26.cell? ⟨gb298, 2, none⟩ = some (.int .i64 a1_2) := (blk_cell BK298.out 2).trans rfl; have hcz29_3 : w26.cell? ⟨gb298, 3, none⟩ = some (.string a1_3) := (blk_cell BK298.out 3).trans rfl; have hcz29_4 : w26.cell? ⟨gb298, 4, none⟩ = some (.string a1_4) := (blk_cell BK298.out 4).trans rfl; have hcz29_5 : w26.cell? ⟨gb298, 5, none⟩ = some (.int .i64 a1_5) := (blk_cell BK298.out 5).trans rfl; have hfz29_0 := blk_frozen BK298.out 0; have hfz29_1 := blk_frozen BK298.out 1; have hfz29_2 := blk_frozen BK298.out 2; have hfz29_3 := blk_frozen BK298.out 3; have hfz29_4 := blk_frozen BK298.out 4; have hfz29_5 := blk_frozen BK298.out 5) | ((with_reducible refine gate_callee (f := 17) rfl ?_); refine goesL_ (some 9) rfl rfl Try.func17 zq17 rfl #[.agg #[.slice A0_0 l0_0.length c0_0, .int .i64 a0_1, .int .i64 a0_2], .agg #[.slice A1_0 l1_0.length c1_0, .int .i64 a1_1, .int .i64 a1_2]] rfl zq1 ?_; (with_reducible refine (laws_eqBench.calls k _ _ l0_0 a0_1 a0_2 _ _ l1_0 a1_1 a1_2 false _ ?side1 ?side2 ?side3 ?side4 A3.out).mono ?_); (case side1 => repeat (first | exact (Kd.C_below HR0_0.out HB.out) | (with_reducible refine Kd.C_alloc ?_ _) | (with_reducible refine Kd.C_drewN ?_ _) | (with_reducible refine Kd.C_drew ?_))); (case side2 => exact HC0_0.out); (case side3 => repeat (first | exact (Kd.C_below HR1_0.out HB.out) | (with_reducible refine Kd.C_alloc ?_ _) | (with_reducible refine Kd.C_drewN ?_ _) | (with_reducible refine Kd.C_drew ?_))); (case side4 => exact HC1_0.out); rintro e w30 ⟨rfl, hb⟩; refine ⟨_, rfl, ?_⟩; have n0_ := am (blk_below (g := gb297) (o := .cells #[.slice A0_0 l0_0.length c0_0, .int .i64 a0_1, .int .i64 a0_2, .string a0_3, .string a0_4, .int .i64 a0_5] 45 (0, 0)) zq93 hb); have n1_ := am (blk_below (g := gb298) (o := .cells #[.slice A1_0 l1_0.length c1_0, .int .i64 a1_1, .int .i64 a1_2, .string a1_3, .string a1_4, .int .i64 a1_5] 45 (0, 0)) zq97 hb); have n2_ := am (below_step zq94 hb); clear BK297; clear BK298; clear HB; have BK297 := n0_; have BK298 := n1_; have HB := n2_; clear n0_ n1_ n2_; (try clear hb); (try clear hb2); (try clear hk); (try clear hi)))
  go_ret
  exact ⟨zq8, zq94⟩
def laws_heldConsole.f (k : Nat) (l0_0 : List (List (S72))) (a0_1 : Int) (a0_2 : Int) (a0_3 : ByteArray) (a0_4 : ByteArray) (a0_5 : Int) (a1 : Int) : Option (Int) := (laws_heldBench.f k l0_0 a0_1 a0_2 a1).bind fun t303 => (if t303 < 0 then (some (-1)) else (some t303))
set_option maxHeartbeats 8000000 in
set_option maxRecDepth 100000 in
theorem laws_heldConsole.calls (k : Nat) (A0_0 : Option Addr) (c0_0 : Nat) (l0_0 : List (List (S72))) (a0_1 : Int) (a0_2 : Int) (a0_3 : ByteArray) (a0_4 : ByteArray) (a0_5 : Int) (a1 : Int) (r : Int) (w : World) (hr0_0 : Kd.C (Kd.slice 72 k72) w A0_0 l0_0.length l0_0) (hc0_0 : l0_0.length ≤ c0_0) (h : laws_heldConsole.f k l0_0 a0_1 a0_2 a0_3 a0_4 a0_5 a1 = some r) :
  Calls Try.prog 28 #[.agg #[.slice A0_0 l0_0.length c0_0, .int .i64 a0_1, .int .i64 a0_2, .string a0_3, .string a0_4, .int .i64 a0_5], .int .i64 a1] w fun e w' => e = .returned (.int .i64 r) ∧ Below w.heap.size w w' := by
 have hu45 := Try.underlying45
 have hu30 := Try.underlying30
 have HR0_0 := am hr0_0
 have HC0_0 := am hc0_0
 clear hr0_0 hc0_0
 have HB := am (Below.refl w.heap.size w)
 have H : ((laws_heldBench.f k l0_0 a0_1 a0_2 a1).bind fun t303 => (if t303 < 0 then (some (-1)) else (some t303))) = some r := h
 clear h
 replace H := bem H
 obtain ⟨t303, A30, H⟩ := H
 replace H : (if t303 < 0 then (some (-1)) else (some t303)) = some r := H
 have A3 := am A30
 clear A30
 by_cases c4 : t303 < 0
 ·rw [if_pos c4] at H
  have c4b0 : decide (t303 < 0) = true := decide_eq_true c4
  clear c4
  obtain rfl := Option.some.inj H
  go_enter Try.func28, Try.ntmps28
  go_wp2_with (first | ((with_reducible refine gate_dst (N := 2) rfl ?_); refine box_event ?hg (N := 2) ?hd (cs := #[.slice A0_0 l0_0.length c0_0, .int .i64 a0_1, .int .i64 a0_2, .string a0_3, .string a0_4, .int .i64 a0_5]) (t := 45) ?hr ?_; (case hd => rfl); (case hg => rfl); (case hr => first | (go_simp; done) | (go_simp; rfl)); intro gb302 hg w5 hbox hb; have n0_ := am (below_step zq0 hb); have n1_ := am (hbox); have n2_ := am ((zq12 : w.heap.size ≤ gb302)); have n3_ := am ((zq12 : w.heap.size ≤ gb302)); clear HB; have HB := n0_; have BK302 := n1_; have GW302 := n2_; have GE302 := n3_; clear n0_ n1_ n2_ n3_; clear hb hbox hg; have hcz6_0 : w5.cell? ⟨gb302, 0, none⟩ = some (.slice A0_0 l0_0.length c0_0) := (blk_cell BK302.out 0).trans rfl; have hcz6_1 : w5.cell? ⟨gb302, 1, none⟩ = some (.int .i64 a0_1) := (blk_cell BK302.out 1).trans rfl; have hcz6_2 : w5.cell? ⟨gb302, 2, none⟩ = some (.int .i64 a0_2) := (blk_cell BK302.out 2).trans rfl; have hcz6_3 : w5.cell? ⟨gb302, 3, none⟩ = some (.string a0_3) := (blk_cell BK302.out 3).trans rfl; have hcz6_4 : w5.cell? ⟨gb302, 4, none⟩ = some (.string a0_4) := (blk_cell BK302.out 4).trans rfl; have hcz6_5 : w5.cell? ⟨gb302, 5, none⟩ = some (.int .i64 a0_5) := (blk_cell BK302.out 5).trans rfl; have hfz6_0 := blk_frozen BK302.out 0; have hfz6_1 := blk_frozen BK302.out 1; have hfz6_2 := blk_frozen BK302.out 2; have hfz6_3 := blk_frozen BK302.out 3; have hfz6_4 := blk_frozen BK302.out 4; have hfz6_5 := blk_frozen BK302.out 5) | ((with_reducible refine gate_callee (f := 21) rfl ?_); refine goesL_ (some 8) rfl rfl Try.func21 zq17 rfl #[.agg #[.slice A0_0 l0_0.length c0_0, .int .i64 a0_1, .int .i64 a0_2], .int .i64 a1] rfl zq1 ?_; (with_reducible refine (laws_heldBench.calls k _ _ l0_0 a0_1 a0_2 a1 t303 _ ?side1 ?side2 A3.out).mono ?_); (case side1 => repeat (first | exact (Kd.C_below HR0_0.out HB.out) | (with_reducible refine Kd.C_alloc ?_ _) | (with_reducible refine Kd.C_drewN ?_ _) | (with_reducible refine Kd.C_drew ?_))); (case side2 => exact HC0_0.out); rintro e w7 ⟨rfl, hb⟩; refine ⟨_, rfl, ?_⟩; have n0_ := am (blk_below (g := gb302) (o := .cells #[.slice A0_0 l0_0.length c0_0, .int .i64 a0_1, .int .i64 a0_2, .string a0_3, .string a0_4, .int .i64 a0_5] 45 (0, 0)) zq120 hb); have n1_ := am (below_step zq96 hb); clear BK302; clear HB; have BK302 := n0_; have HB := n1_; clear n0_ n1_; (try clear hb); (try clear hb2); (try clear hk); (try clear hi)))
  go_ret
  exact ⟨zq8, zq96⟩
 ·rw [if_neg c4] at H
  have c4b0 : decide (t303 < 0) = false := decide_eq_false c4
  clear c4
  obtain rfl := Option.some.inj H
  go_enter Try.func28, Try.ntmps28
  go_wp2_with (first | ((with_reducible refine gate_dst (N := 2) rfl ?_); refine box_event ?hg (N := 2) ?hd (cs := #[.slice A0_0 l0_0.length c0_0, .int .i64 a0_1, .int .i64 a0_2, .string a0_3, .string a0_4, .int .i64 a0_5]) (t := 45) ?hr ?_; (case hd => rfl); (case hg => rfl); (case hr => first | (go_simp; done) | (go_simp; rfl)); intro gb302 hg w8 hbox hb; have n0_ := am (below_step zq0 hb); have n1_ := am (hbox); have n2_ := am ((zq12 : w.heap.size ≤ gb302)); have n3_ := am ((zq12 : w.heap.size ≤ gb302)); clear HB; have HB := n0_; have BK302 := n1_; have GW302 := n2_; have GE302 := n3_; clear n0_ n1_ n2_ n3_; clear hb hbox hg; have hcz9_0 : w8.cell? ⟨gb302, 0, none⟩ = some (.slice A0_0 l0_0.length c0_0) := (blk_cell BK302.out 0).trans rfl; have hcz9_1 : w8.cell? ⟨gb302, 1, none⟩ = some (.int .i64 a0_1) := (blk_cell BK302.out 1).trans rfl; have hcz9_2 : w8.cell? ⟨gb302, 2, none⟩ = some (.int .i64 a0_2) := (blk_cell BK302.out 2).trans rfl; have hcz9_3 : w8.cell? ⟨gb302, 3, none⟩ = some (.string a0_3) := (blk_cell BK302.out 3).trans rfl; have hcz9_4 : w8.cell? ⟨gb302, 4, none⟩ = some (.string a0_4) := (blk_cell BK302.out 4).trans rfl; have hcz9_5 : w8.cell? ⟨gb302, 5, none⟩ = some (.int .i64 a0_5) := (blk_cell BK302.out 5).trans rfl; have hfz9_0 := blk_frozen BK302.out 0; have hfz9_1 := blk_frozen BK302.out 1; have hfz9_2 := blk_frozen BK302.out 2; have hfz9_3 := blk_frozen BK302.out 3; have hfz9_4 := blk_frozen BK302.out 4; have hfz9_5 := blk_frozen BK302.out 5) | ((with_reducible refine gate_callee (f := 21) rfl ?_); refine goesL_ (some 8) rfl rfl Try.func21 zq17 rfl #[.agg #[.slice A0_0 l0_0.length c0_0, .int .i64 a0_1, .int .i64 a0_2], .int .i64 a1] rfl zq1 ?_; (with_reducible refine (laws_heldBench.calls k _ _ l0_0 a0_1 a0_2 a1 t303 _ ?side1 ?side2 A3.out).mono ?_); (case side1 => repeat (first | exact (Kd.C_below HR0_0.out HB.out) | (with_reducible refine Kd.C_alloc ?_ _) | (with_reducible refine Kd.C_drewN ?_ _) | (with_reducible refine Kd.C_drew ?_))); (case side2 => exact HC0_0.out); rintro e w10 ⟨rfl, hb⟩; refine ⟨_, rfl, ?_⟩; have n0_ := am (blk_below (g := gb302) (o := .cells #[.slice A0_0 l0_0.length c0_0, .int .i64 a0_1, .int .i64 a0_2, .string a0_3, .string a0_4, .int .i64 a0_5] 45 (0, 0)) zq120 hb); have n1_ := am (below_step zq96 hb); clear BK302; clear HB; have BK302 := n0_; have HB := n1_; clear n0_ n1_; (try clear hb); (try clear hb2); (try clear hk); (try clear hi)))
  go_ret
  exact ⟨zq8, zq96⟩
end Go.Proofs.Ythdhhpcbagpmgaa.Pr
end

section
namespace Go.Proofs.Ythdhhpcbagpmgaa.Pr
open Go.RowKit Go.Proofs.YthdhhpcbagpmgaaW.PrintWords Go.Proofs.YthdhhpcbagpmgaaW.PrintLast Go.Proofs.YthdhhpcbagpmgaaW.PrintMore
set_option linter.unusedVariables false
set_option linter.unusedSimpArgs false
set_option maxHeartbeats 8000000 in
set_option maxRecDepth 100000 in
theorem newConsole_big (k : Nat) (A0 : Option Addr) (c0 : Nat) (l0 : List (List S69)) (u v : Int) (w : World) (hr0 : Kd.C (Kd.slice 69 k69) w A0 l0.length l0) (hc0 : l0.length ≤ c0) (sz : Int) (hsz : laws_szBench.f k l0 u v 1048576 = some sz) (hsz0 : sz < 0) :
  Calls Try.prog 4 #[.agg #[.slice A0 l0.length c0, .int .i64 u, .int .i64 v]] w fun e w' => e = .returned (.bool true) ∧ Below w.heap.size w w' := by
 have hu24 := Try.underlying24
 have hu28 := Try.underlying28
 have hu30 := Try.underlying30
 have hu40 := Try.underlying40
 have hu45 := Try.underlying45
 have e17 : ∀ args w, (callFunc 17 args).run Try.prog w = .ok (.enter 17 args) w := enters_of Try.func17 (by kernel_rfl) rfl
 have e20 : ∀ args w, (callFunc 20 args).run Try.prog w = .ok (.enter 20 args) w := enters_of Try.func20 (by kernel_rfl) rfl
 have e22 : ∀ args w, (callFunc 22 args).run Try.prog w = .ok (.enter 22 args) w := enters_of Try.func22 (by kernel_rfl) rfl
 have e23 : ∀ args w, (callFunc 23 args).run Try.prog w = .ok (.enter 23 args) w := enters_of Try.func23 (by kernel_rfl) rfl
 have e24 : ∀ args w, (callFunc 24 args).run Try.prog w = .ok (.enter 24 args) w := enters_of Try.func24 (by kernel_rfl) rfl
 have e25 : ∀ args w, (callFunc 25 args).run Try.prog w = .ok (.enter 25 args) w := enters_of Try.func25 (by kernel_rfl) rfl
 have e26 : ∀ args w, (callFunc 26 args).run Try.prog w = .ok (.enter 26 args) w := enters_of Try.func26 (by kernel_rfl) rfl
 have e27 : ∀ args w, (callFunc 27 args).run Try.prog w = .ok (.enter 27 args) w := enters_of Try.func27 (by kernel_rfl) rfl
 have e28 : ∀ args w, (callFunc 28 args).run Try.prog w = .ok (.enter 28 args) w := enters_of Try.func28 (by kernel_rfl) rfl
 have hszd : decide (sz < 0) = true := decide_eq_true hsz0
 clear hsz0
 have HR := Aside0.mk hr0
 clear hr0
 go_enter Try.func4, Try.ntmps4
 go_upto_region 2 with (first | ((with_reducible refine gate_dst (N := 1) rfl ?_); refine box_event ?hg (N := 1) ?hd (cs := #[.slice A0 l0.length c0, .int .i64 u, .int .i64 v]) (t := 40) ?hr ?_; (case hd => rfl); (case hg => rfl); (case hr => first | (go_simp; done) | (go_simp; rfl)); intro g2 hg2 w1 hbox hb; have B := Aside0.mk hb; have C2 := Aside0.mk hbox; clear hb hbox hg2))
 have hc2_0 : w1.cell? ⟨g2, 0, none⟩ = some (.slice A0 l0.length c0) := (blk_cell C2.out 0).trans rfl
 have hc2_1 : w1.cell? ⟨g2, 1, none⟩ = some (.int .i64 u) := (blk_cell C2.out 1).trans rfl
 have hc2_2 : w1.cell? ⟨g2, 2, none⟩ = some (.int .i64 v) := (blk_cell C2.out 2).trans rfl
 go_wp2_with (first | (go_at_fn 22; refine (laws_szBench.calls k A0 c0 l0 u v 1048576 sz _ (Kd.C_below HR.out B.out) hc0 hsz).mono ?_; rintro e w2 ⟨rfl, hb⟩; have n0_ := Aside0.mk (below_step B.out hb); clear B; have B := n0_; clear n0_; have n0_ := Aside0.mk (blk_below C2.out hb); clear C2; have C2 := n0_; clear n0_; clear hb))
 go_ret
 exact ⟨rfl, B.out⟩
set_option maxHeartbeats 8000000 in
set_option maxRecDepth 100000 in
theorem newConsole_walk (k : Nat) (A0 : Option Addr) (c0 : Nat) (l0 : List (List S69)) (u v : Int) (w : World) (hr0 : Kd.C (Kd.slice 69 k69) w A0 l0.length l0) (hc0 : l0.length ≤ c0)
  (sz : Int) (p b : List (List S72)) (f c : Int) (s1 s2 : ByteArray) (n : Int) (o : Bool) (m1 m2 : Int) (p' b' : List (List S72))
  (hsz : laws_szBench.f k l0 u v 1048576 = some sz) (hsz0 : 0 ≤ sz) (hT : laws_toBench.f k l0 u v = some (p, u, v)) (hS : spec_NewConsole.f k p u v = some (b, f, c, s1, s2, n, o)) (hI : impl_NewConsole.f k p u v = some (b, f, c, s1, s2, n, o)) (hE : laws_eqConsole.f k b f c s1 s2 n b f c s1 s2 n = some true) (hEp : laws_eqBench.f k p u v p u v = some true) (hM1 : laws_markStepSS.f k p 1 = some (m1, p')) (h1 : 0 ≤ m1) (hM2 : laws_markStepSS.f k b 1 = some (m2, b')) (hH : laws_heldConsole.f k b' f c s1 s2 n 1 = some m2) (h2 : 0 ≤ m2) :
  Calls Try.prog 4 #[.agg #[.slice A0 l0.length c0, .int .i64 u, .int .i64 v]] w fun e w' => e = .returned (.bool true) ∧ Below w.heap.size w w' := by
 have hu24 := Try.underlying24
 have hu28 := Try.underlying28
 have hu30 := Try.underlying30
 have hu40 := Try.underlying40
 have hu45 := Try.underlying45
 have e17 : ∀ args w, (callFunc 17 args).run Try.prog w = .ok (.enter 17 args) w := enters_of Try.func17 (by kernel_rfl) rfl
 have e20 : ∀ args w, (callFunc 20 args).run Try.prog w = .ok (.enter 20 args) w := enters_of Try.func20 (by kernel_rfl) rfl
 have e22 : ∀ args w, (callFunc 22 args).run Try.prog w = .ok (.enter 22 args) w := enters_of Try.func22 (by kernel_rfl) rfl
 have e23 : ∀ args w, (callFunc 23 args).run Try.prog w = .ok (.enter 23 args) w := enters_of Try.func23 (by kernel_rfl) rfl
 have e24 : ∀ args w, (callFunc 24 args).run Try.prog w = .ok (.enter 24 args) w := enters_of Try.func24 (by kernel_rfl) rfl
 have e25 : ∀ args w, (callFunc 25 args).run Try.prog w = .ok (.enter 25 args) w := enters_of Try.func25 (by kernel_rfl) rfl
 have e26 : ∀ args w, (callFunc 26 args).run Try.prog w = .ok (.enter 26 args) w := enters_of Try.func26 (by kernel_rfl) rfl
 have e27 : ∀ args w, (callFunc 27 args).run Try.prog w = .ok (.enter 27 args) w := enters_of Try.func27 (by kernel_rfl) rfl
 have e28 : ∀ args w, (callFunc 28 args).run Try.prog w = .ok (.enter 28 args) w := enters_of Try.func28 (by kernel_rfl) rfl
 have hszd : decide (sz < 0) = false := decide_eq_false (by omega)
 have ho : (o != o) = false := by simp
 have hd1 : decide (m1 < 0) = false := decide_eq_false (by omega)
 have hd2 : decide (m2 < 0) = false := decide_eq_false (by omega)
 have hn2 : (m2 != m2) = false := by simp
 have HR := Aside0.mk hr0
 clear hr0
 go_enter Try.func4, Try.ntmps4
 go_upto_region 2 with (first | ((with_reducible refine gate_dst (N := 1) rfl ?_); refine box_event ?hg (N := 1) ?hd (cs := #[.slice A0 l0.length c0, .int .i64 u, .int .i64 v]) (t := 40) ?hr ?_; (case hd => rfl); (case hg => rfl); (case hr => first | (go_simp; done) | (go_simp; rfl)); intro g2 hg2 w1 hbox hb; have B := Aside0.mk hb; have C2 := Aside0.mk hbox; clear hb hbox hg2))
 have hc2_0 : w1.cell? ⟨g2, 0, none⟩ = some (.slice A0 l0.length c0) := (blk_cell C2.out 0).trans rfl
 have hc2_1 : w1.cell? ⟨g2, 1, none⟩ = some (.int .i64 u) := (blk_cell C2.out 1).trans rfl
 have hc2_2 : w1.cell? ⟨g2, 2, none⟩ = some (.int .i64 v) := (blk_cell C2.out 2).trans rfl
 go_upto_region 5 with (first | (go_at_fn 22; refine (laws_szBench.calls k A0 c0 l0 u v 1048576 sz _ (Kd.C_below HR.out B.out) hc0 hsz).mono ?_; rintro e w2 ⟨rfl, hb⟩; have n0_ := Aside0.mk (below_step B.out hb); clear B; have B := n0_; clear n0_; have n0_ := Aside0.mk (blk_below C2.out hb); clear C2; have C2 := n0_; clear n0_; clear hb))
 clear hc2_0 hc2_1 hc2_2
 have hc2_0 : w2.cell? ⟨g2, 0, none⟩ = some (.slice A0 l0.length c0) := (blk_cell C2.out 0).trans rfl
 have hc2_1 : w2.cell? ⟨g2, 1, none⟩ = some (.int .i64 u) := (blk_cell C2.out 1).trans rfl
 have hc2_2 : w2.cell? ⟨g2, 2, none⟩ = some (.int .i64 v) := (blk_cell C2.out 2).trans rfl
 go_upto_region 6 with (first | (go_at_fn 24; refine (laws_toBench.calls k A0 c0 l0 u v p u v _ (Kd.C_below HR.out B.out) hc0 hT).mono ?_; rintro e w3 ⟨v1, rfl, hs, hb⟩; have S1 := Aside0.mk (Made.new hs B.out.size); have Z1 := Aside0.mk hb.size; have n0_ := Aside0.mk (below_step B.out hb); clear B; have B := n0_; clear n0_; have n0_ := Aside0.mk (blk_below C2.out hb); clear C2; have C2 := n0_; clear n0_; clear hb hs; obtain ⟨Av1, cv1, ev1⟩ := Kd.S_slice S1.out; subst ev1) | (go_at_fn 23; refine (spec_NewConsole.calls k Av1 cv1 p u v b f c s1 s2 n o _ (Kd.S_reads' S1.out).2.2 (Kd.S_reads' S1.out).2.1 hS).mono ?_; rintro e w4 ⟨v2, rfl, hs, hb⟩; have S2 := Aside0.mk (Made.new hs B.out.size); have Z2 := Aside0.mk hb.size; have n0_ := Aside0.mk (below_step B.out hb); clear B; have B := n0_; clear n0_; have n0_ := Aside0.mk (blk_below C2.out hb); clear C2; have C2 := n0_; clear n0_; have n0_ := Aside0.mk (Kd.S_below S1.out hb); clear S1; have S1 := n0_; clear n0_; clear hb hs; obtain ⟨Av2, cv2, ev2⟩ := Kd.S_slice S2.out; subst ev2) | ((with_reducible refine gate_dst (N := 4) rfl ?_); refine box_event ?hg (N := 4) ?hd (cs := #[.slice none 0 0, .int .i64 0, .int .i64 0, .string ⟨#[]⟩, .string ⟨#[]⟩, .int .i64 0]) (t := 45) ?hr ?_; (case hd => rfl); (case hg => rfl); (case hr => first | (go_simp; done) | (go_simp; rfl)); intro g6 hg6 w5 hbox hb; have LT := Aside0.mk (show g2 < g6 ∧ w4.heap.size = g6 ∧ w.heap.size ≤ g6 from ⟨by rw [hg6]; exact blk_lt C2.out, hg6.symm, by rw [hg6]; exact B.out.size⟩); have n0_ := Aside0.mk (below_step B.out hb); clear B; have B := n0_; clear n0_; have n0_ := Aside0.mk (blk_below C2.out hb); clear C2; have C2 := n0_; clear n0_; have n0_ := Aside0.mk (Kd.S_below S2.out hb); clear S2; have S2 := n0_; clear n0_; have C6 := Aside0.mk hbox; have G6 := Aside0.mk hg6; clear hb hbox hg6; have hc6_0 : w5.cell? ⟨g6, 0, none⟩ = some (.slice none 0 0) := (blk_cell C6.out 0).trans rfl; have hf6_0 := blk_frozen C6.out 0; have hc6_1 : w5.cell? ⟨g6, 1, none⟩ = some (.int .i64 0) := (blk_cell C6.out 1).trans rfl; have hf6_1 := blk_frozen C6.out 1; have hc6_2 : w5.cell? ⟨g6, 2, none⟩ = some (.int .i64 0) := (blk_cell C6.out 2).trans rfl; have hf6_2 := blk_frozen C6.out 2; have hc6_3 : w5.cell? ⟨g6, 3, none⟩ = some (.string ⟨#[]⟩) := (blk_cell C6.out 3).trans rfl; have hf6_3 := blk_frozen C6.out 3; have hc6_4 : w5.cell? ⟨g6, 4, none⟩ = some (.string ⟨#[]⟩) := (blk_cell C6.out 4).trans rfl; have hf6_4 := blk_frozen C6.out 4; have hc6_5 : w5.cell? ⟨g6, 5, none⟩ = some (.int .i64 0) := (blk_cell C6.out 5).trans rfl; have hf6_5 := blk_frozen C6.out 5))
 clear S1 Z1 Z2 G6 hc2_0 hc2_1 hc2_2
 obtain ⟨w6, hw6⟩ : ∃ w6, w6 = ((((((w5.setCell ⟨g6, 0, none⟩ (.slice Av2 b.length cv2)).setCell ⟨g6, 1, none⟩ (.int .i64 f)).setCell ⟨g6, 2, none⟩ (.int .i64 c)).setCell ⟨g6, 3, none⟩ (.string s1)).setCell ⟨g6, 4, none⟩ (.string s2)).setCell ⟨g6, 5, none⟩ (.int .i64 n)) := ⟨_, rfl⟩
 rw [← hw6]
 have K6 : Kept w5 w6 (fun q => q = g6) := by
  rw [hw6]
  exact Kept.setCell (S := fun q => q = g6) (p := ⟨g6, 5, none⟩) (Kept.setCell (S := fun q => q = g6) (p := ⟨g6, 4, none⟩) (Kept.setCell (S := fun q => q = g6) (p := ⟨g6, 3, none⟩) (Kept.setCell (S := fun q => q = g6) (p := ⟨g6, 2, none⟩) (Kept.setCell (S := fun q => q = g6) (p := ⟨g6, 1, none⟩) (Kept.setCell (S := fun q => q = g6) (p := ⟨g6, 0, none⟩) (Kept.refl w5 (fun q => q = g6)) (.inl rfl) (.slice Av2 b.length cv2)) (.inl rfl) (.int .i64 f)) (.inl rfl) (.int .i64 c)) (.inl rfl) (.string s1)) (.inl rfl) (.string s2)) (.inl rfl) (.int .i64 n)
 have Bn := Aside0.mk (show Below w.heap.size w w6 from by rw [hw6]; exact below_set (below_set (below_set (below_set (below_set (below_set (B.out) (LT.out.2.2)) (LT.out.2.2)) (LT.out.2.2)) (LT.out.2.2)) (LT.out.2.2)) (LT.out.2.2))
 have Cn := Aside0.mk (show w6.heap[g6]? = some (.cells #[.slice Av2 b.length cv2, .int .i64 f, .int .i64 c, .string s1, .string s2, .int .i64 n] 45 (0, 0)) from by
  rw [hw6]
  have p0 : (w5.setCell ⟨g6, 0, none⟩ (.slice Av2 b.length cv2)).heap[g6]? = some (.cells #[.slice Av2 b.length cv2, .int .i64 0, .int .i64 0, .string ⟨#[]⟩, .string ⟨#[]⟩, .int .i64 0] 45 (0, 0)) := blk_put C6.out 0 (.slice Av2 b.length cv2) rfl
  have p1 : ((w5.setCell ⟨g6, 0, none⟩ (.slice Av2 b.length cv2)).setCell ⟨g6, 1, none⟩ (.int .i64 f)).heap[g6]? = some (.cells #[.slice Av2 b.length cv2, .int .i64 f, .int .i64 0, .string ⟨#[]⟩, .string ⟨#[]⟩, .int .i64 0] 45 (0, 0)) := blk_put p0 1 (.int .i64 f) rfl
  have p2 : (((w5.setCell ⟨g6, 0, none⟩ (.slice Av2 b.length cv2)).setCell ⟨g6, 1, none⟩ (.int .i64 f)).setCell ⟨g6, 2, none⟩ (.int .i64 c)).heap[g6]? = some (.cells #[.slice Av2 b.length cv2, .int .i64 f, .int .i64 c, .string ⟨#[]⟩, .string ⟨#[]⟩, .int .i64 0] 45 (0, 0)) := blk_put p1 2 (.int .i64 c) rfl
  have p3 : ((((w5.setCell ⟨g6, 0, none⟩ (.slice Av2 b.length cv2)).setCell ⟨g6, 1, none⟩ (.int .i64 f)).setCell ⟨g6, 2, none⟩ (.int .i64 c)).setCell ⟨g6, 3, none⟩ (.string s1)).heap[g6]? = some (.cells #[.slice Av2 b.length cv2, .int .i64 f, .int .i64 c, .string s1, .string ⟨#[]⟩, .int .i64 0] 45 (0, 0)) := blk_put p2 3 (.string s1) rfl
  have p4 : (((((w5.setCell ⟨g6, 0, none⟩ (.slice Av2 b.length cv2)).setCell ⟨g6, 1, none⟩ (.int .i64 f)).setCell ⟨g6, 2, none⟩ (.int .i64 c)).setCell ⟨g6, 3, none⟩ (.string s1)).setCell ⟨g6, 4, none⟩ (.string s2)).heap[g6]? = some (.cells #[.slice Av2 b.length cv2, .int .i64 f, .int .i64 c, .string s1, .string s2, .int .i64 0] 45 (0, 0)) := blk_put p3 4 (.string s2) rfl
  have p5 : ((((((w5.setCell ⟨g6, 0, none⟩ (.slice Av2 b.length cv2)).setCell ⟨g6, 1, none⟩ (.int .i64 f)).setCell ⟨g6, 2, none⟩ (.int .i64 c)).setCell ⟨g6, 3, none⟩ (.string s1)).setCell ⟨g6, 4, none⟩ (.string s2)).setCell ⟨g6, 5, none⟩ (.int .i64 n)).heap[g6]? = some (.cells #[.slice Av2 b.length cv2, .int .i64 f, .int .i64 c, .string s1, .string s2, .int .i64 n] 45 (0, 0)) := blk_put p4 5 (.int .i64 n) rfl
  exact p5)
 clear B C6
 have B := Bn
 have C6 := Cn
 clear Bn Cn
 have n0_ := Aside0.mk (blk_kept C2.out K6 (by have := LT.out; omega)); clear C2; have C2 := n0_; clear n0_; have n0_ := Aside0.mk (Kd.S_kept S2.out K6 (fun q hq e_ => by have := LT.out; omega)); clear S2; have S2 := n0_; clear n0_
 clear hw6 K6 hc6_0 hf6_0 hc6_1 hf6_1 hc6_2 hf6_2 hc6_3 hf6_3 hc6_4 hf6_4 hc6_5 hf6_5
 have hc2_0 : w6.cell? ⟨g2, 0, none⟩ = some (.slice A0 l0.length c0) := (blk_cell C2.out 0).trans rfl
 have hc2_1 : w6.cell? ⟨g2, 1, none⟩ = some (.int .i64 u) := (blk_cell C2.out 1).trans rfl
 have hc2_2 : w6.cell? ⟨g2, 2, none⟩ = some (.int .i64 v) := (blk_cell C2.out 2).trans rfl
 go_upto_region 7 with (first | (go_at_fn 24; refine (laws_toBench.calls k A0 c0 l0 u v p u v _ (Kd.C_below HR.out B.out) hc0 hT).mono ?_; rintro e w7 ⟨v3, rfl, hs, hb⟩; have L6 := Aside0.mk (blk_lt C6.out); have S3 := Aside0.mk (Made.new hs B.out.size); have Z3 := Aside0.mk hb.size; have n0_ := Aside0.mk (below_step B.out hb); clear B; have B := n0_; clear n0_; have n0_ := Aside0.mk (blk_below C2.out hb); clear C2; have C2 := n0_; clear n0_; have n0_ := Aside0.mk (blk_below C6.out hb); clear C6; have C6 := n0_; clear n0_; have n0_ := Aside0.mk (Kd.S_below S2.out hb); clear S2; have S2 := n0_; clear n0_; clear hb hs; obtain ⟨Av3, cv3, ev3⟩ := Kd.S_slice S3.out; subst ev3) | ((with_reducible refine gate_dst (N := 6) rfl ?_); refine box_event ?hg (N := 6) ?hd (cs := #[.slice none 0 0, .int .i64 0, .int .i64 0]) (t := 30) ?hr ?_; (case hd => rfl); (case hg => rfl); (case hr => first | (go_simp; done) | (go_simp; rfl)); intro g8 hg8 w8 hbox hb; have LB := Aside0.mk (show w.heap.size ≤ w7.heap.size from B.out.size); have n0_ := Aside0.mk (below_step B.out hb); clear B; have B := n0_; clear n0_; have n0_ := Aside0.mk (blk_below C2.out hb); clear C2; have C2 := n0_; clear n0_; have n0_ := Aside0.mk (blk_below C6.out hb); clear C6; have C6 := n0_; clear n0_; have n0_ := Aside0.mk (Kd.S_below S2.out hb); clear S2; have S2 := n0_; clear n0_; have n0_ := Aside0.mk (Kd.S_below S3.out hb); clear S3; have S3 := n0_; clear n0_; have C8 := Aside0.mk hbox; have G8 := Aside0.mk hg8; clear hb hbox hg8; have hc8_0 : w8.cell? ⟨g8, 0, none⟩ = some (.slice none 0 0) := (blk_cell C8.out 0).trans rfl; have hf8_0 := blk_frozen C8.out 0; have hc8_1 : w8.cell? ⟨g8, 1, none⟩ = some (.int .i64 0) := (blk_cell C8.out 1).trans rfl; have hf8_1 := blk_frozen C8.out 1; have hc8_2 : w8.cell? ⟨g8, 2, none⟩ = some (.int .i64 0) := (blk_cell C8.out 2).trans rfl; have hf8_2 := blk_frozen C8.out 2))
 have LTn := Aside0.mk (show g2 < g6 ∧ w4.heap.size = g6 ∧ g6 < w6.heap.size ∧ w6.heap.size ≤ w7.heap.size ∧ g8 = w7.heap.size ∧ w.heap.size ≤ g8 from ⟨LT.out.1, LT.out.2.1, L6.out, Z3.out, G8.out, by have := LB.out; have := G8.out; omega⟩)
 clear LT L6 Z3 G8 LB hc2_0 hc2_1 hc2_2
 have LT := LTn
 clear LTn
 obtain ⟨w9, hw9⟩ : ∃ w9, w9 = (((w8.setCell ⟨g8, 0, none⟩ (.slice Av3 p.length cv3)).setCell ⟨g8, 1, none⟩ (.int .i64 u)).setCell ⟨g8, 2, none⟩ (.int .i64 v)) := ⟨_, rfl⟩
 rw [← hw9]
 have K8 : Kept w8 w9 (fun q => q = g8) := by
  rw [hw9]
  exact Kept.setCell (S := fun q => q = g8) (p := ⟨g8, 2, none⟩) (Kept.setCell (S := fun q => q = g8) (p := ⟨g8, 1, none⟩) (Kept.setCell (S := fun q => q = g8) (p := ⟨g8, 0, none⟩) (Kept.refl w8 (fun q => q = g8)) (.inl rfl) (.slice Av3 p.length cv3)) (.inl rfl) (.int .i64 u)) (.inl rfl) (.int .i64 v)
 have Bn := Aside0.mk (show Below w.heap.size w w9 from by rw [hw9]; exact below_set (below_set (below_set (B.out) (LT.out.2.2.2.2.2)) (LT.out.2.2.2.2.2)) (LT.out.2.2.2.2.2))
 have Cn := Aside0.mk (show w9.heap[g8]? = some (.cells #[.slice Av3 p.length cv3, .int .i64 u, .int .i64 v] 30 (0, 0)) from by
  rw [hw9]
  have p0 : (w8.setCell ⟨g8, 0, none⟩ (.slice Av3 p.length cv3)).heap[g8]? = some (.cells #[.slice Av3 p.length cv3, .int .i64 0, .int .i64 0] 30 (0, 0)) := blk_put C8.out 0 (.slice Av3 p.length cv3) rfl
  have p1 : ((w8.setCell ⟨g8, 0, none⟩ (.slice Av3 p.length cv3)).setCell ⟨g8, 1, none⟩ (.int .i64 u)).heap[g8]? = some (.cells #[.slice Av3 p.length cv3, .int .i64 u, .int .i64 0] 30 (0, 0)) := blk_put p0 1 (.int .i64 u) rfl
  have p2 : (((w8.setCell ⟨g8, 0, none⟩ (.slice Av3 p.length cv3)).setCell ⟨g8, 1, none⟩ (.int .i64 u)).setCell ⟨g8, 2, none⟩ (.int .i64 v)).heap[g8]? = some (.cells #[.slice Av3 p.length cv3, .int .i64 u, .int .i64 v] 30 (0, 0)) := blk_put p1 2 (.int .i64 v) rfl
  exact p2)
 clear B C8
 have B := Bn
 have C8 := Cn
 clear Bn Cn
 have n0_ := Aside0.mk (blk_kept C2.out K8 (by have := LT.out; omega)); clear C2; have C2 := n0_; clear n0_; have n0_ := Aside0.mk (blk_kept C6.out K8 (by have := LT.out; omega)); clear C6; have C6 := n0_; clear n0_; have n0_ := Aside0.mk (Kd.S_kept S2.out K8 (fun q hq e_ => by have := LT.out; omega)); clear S2; have S2 := n0_; clear n0_; have n0_ := Aside0.mk (Kd.S_kept S3.out K8 (fun q hq e_ => by have := LT.out; omega)); clear S3; have S3 := n0_; clear n0_
 clear hw9 K8 hc8_0 hf8_0 hc8_1 hf8_1 hc8_2 hf8_2
 have hc8_0 : w9.cell? ⟨g8, 0, none⟩ = some (.slice Av3 p.length cv3) := (blk_cell C8.out 0).trans rfl
 have hc8_1 : w9.cell? ⟨g8, 1, none⟩ = some (.int .i64 u) := (blk_cell C8.out 1).trans rfl
 have hc8_2 : w9.cell? ⟨g8, 2, none⟩ = some (.int .i64 v) := (blk_cell C8.out 2).trans rfl
 go_upto_region 8 with (first | (go_at_fn 25; refine (impl_NewConsole.calls k Av3 cv3 p u v b f c s1 s2 n o _ (Kd.S_reads' S3.out).2.2 (Kd.S_reads' S3.out).2.1 hI).mono ?_; rintro e w10 ⟨v4, rfl, hs, hb⟩; have L8 := Aside0.mk (blk_lt C8.out); have S4 := Aside0.mk (Made.new hs B.out.size); have Z4 := Aside0.mk hb.size; have n0_ := Aside0.mk (below_step B.out hb); clear B; have B := n0_; clear n0_; have n0_ := Aside0.mk (blk_below C2.out hb); clear C2; have C2 := n0_; clear n0_; have n0_ := Aside0.mk (blk_below C6.out hb); clear C6; have C6 := n0_; clear n0_; have n0_ := Aside0.mk (blk_below C8.out hb); clear C8; have C8 := n0_; clear n0_; have n0_ := Aside0.mk (Kd.S_below S2.out hb); clear S2; have S2 := n0_; clear n0_; have n0_ := Aside0.mk (Kd.S_below S3.out hb); clear S3; have S3 := n0_; clear n0_; clear hb hs; obtain ⟨Av4, cv4, ev4⟩ := Kd.S_slice S4.out; subst ev4) | ((with_reducible refine gate_dst (N := 7) rfl ?_); refine box_event ?hg (N := 7) ?hd (cs := #[.slice none 0 0, .int .i64 0, .int .i64 0, .string ⟨#[]⟩, .string ⟨#[]⟩, .int .i64 0]) (t := 45) ?hr ?_; (case hd => rfl); (case hg => rfl); (case hr => first | (go_simp; done) | (go_simp; rfl)); intro g9 hg9 w11 hbox hb; have n0_ := Aside0.mk (below_step B.out hb); clear B; have B := n0_; clear n0_; have n0_ := Aside0.mk (blk_below C2.out hb); clear C2; have C2 := n0_; clear n0_; have n0_ := Aside0.mk (blk_below C6.out hb); clear C6; have C6 := n0_; clear n0_; have n0_ := Aside0.mk (blk_below C8.out hb); clear C8; have C8 := n0_; clear n0_; have n0_ := Aside0.mk (Kd.S_below S2.out hb); clear S2; have S2 := n0_; clear n0_; have n0_ := Aside0.mk (Kd.S_below S3.out hb); clear S3; have S3 := n0_; clear n0_; have n0_ := Aside0.mk (Kd.S_below S4.out hb); clear S4; have S4 := n0_; clear n0_; have C9 := Aside0.mk hbox; have G9 := Aside0.mk hg9; clear hb hbox hg9; have hc9_0 : w11.cell? ⟨g9, 0, none⟩ = some (.slice none 0 0) := (blk_cell C9.out 0).trans rfl; have hf9_0 := blk_frozen C9.out 0; have hc9_1 : w11.cell? ⟨g9, 1, none⟩ = some (.int .i64 0) := (blk_cell C9.out 1).trans rfl; have hf9_1 := blk_frozen C9.out 1; have hc9_2 : w11.cell? ⟨g9, 2, none⟩ = some (.int .i64 0) := (blk_cell C9.out 2).trans rfl; have hf9_2 := blk_frozen C9.out 2; have hc9_3 : w11.cell? ⟨g9, 3, none⟩ = some (.string ⟨#[]⟩) := (blk_cell C9.out 3).trans rfl; have hf9_3 := blk_frozen C9.out 3; have hc9_4 : w11.cell? ⟨g9, 4, none⟩ = some (.string ⟨#[]⟩) := (blk_cell C9.out 4).trans rfl; have hf9_4 := blk_frozen C9.out 4; have hc9_5 : w11.cell? ⟨g9, 5, none⟩ = some (.int .i64 0) := (blk_cell C9.out 5).trans rfl; have hf9_5 := blk_frozen C9.out 5))
 have LTn := Aside0.mk (show g2 < g6 ∧ w4.heap.size = g6 ∧ g6 < w6.heap.size ∧ w6.heap.size ≤ w7.heap.size ∧ g8 = w7.heap.size ∧ w.heap.size ≤ g8 ∧ g8 < w9.heap.size ∧ w9.heap.size ≤ w10.heap.size ∧ g9 = w10.heap.size from ⟨LT.out.1, LT.out.2.1, LT.out.2.2.1, LT.out.2.2.2.1, LT.out.2.2.2.2.1, LT.out.2.2.2.2.2, L8.out, Z4.out, G9.out⟩)
 clear LT L8 Z4 G9 hc8_0 hc8_1 hc8_2
 have LT := LTn
 clear LTn
 obtain ⟨w12, hw12⟩ : ∃ w12, w12 = ((((((w11.setCell ⟨g9, 0, none⟩ (.slice Av4 b.length cv4)).setCell ⟨g9, 1, none⟩ (.int .i64 f)).setCell ⟨g9, 2, none⟩ (.int .i64 c)).setCell ⟨g9, 3, none⟩ (.string s1)).setCell ⟨g9, 4, none⟩ (.string s2)).setCell ⟨g9, 5, none⟩ (.int .i64 n)) := ⟨_, rfl⟩
 rw [← hw12]
 have K9 : Kept w11 w12 (fun q => q = g9) := by
  rw [hw12]
  exact Kept.setCell (S := fun q => q = g9) (p := ⟨g9, 5, none⟩) (Kept.setCell (S := fun q => q = g9) (p := ⟨g9, 4, none⟩) (Kept.setCell (S := fun q => q = g9) (p := ⟨g9, 3, none⟩) (Kept.setCell (S := fun q => q = g9) (p := ⟨g9, 2, none⟩) (Kept.setCell (S := fun q => q = g9) (p := ⟨g9, 1, none⟩) (Kept.setCell (S := fun q => q = g9) (p := ⟨g9, 0, none⟩) (Kept.refl w11 (fun q => q = g9)) (.inl rfl) (.slice Av4 b.length cv4)) (.inl rfl) (.int .i64 f)) (.inl rfl) (.int .i64 c)) (.inl rfl) (.string s1)) (.inl rfl) (.string s2)) (.inl rfl) (.int .i64 n)
 have Bn := Aside0.mk (show Below w.heap.size w w12 from by rw [hw12]; exact below_set (below_set (below_set (below_set (below_set (below_set (B.out) (by have := LT.out; omega)) (by have := LT.out; omega)) (by have := LT.out; omega)) (by have := LT.out; omega)) (by have := LT.out; omega)) (by have := LT.out; omega))
 have Cn := Aside0.mk (show w12.heap[g9]? = some (.cells #[.slice Av4 b.length cv4, .int .i64 f, .int .i64 c, .string s1, .string s2, .int .i64 n] 45 (0, 0)) from by
  rw [hw12]
  have p0 : (w11.setCell ⟨g9, 0, none⟩ (.slice Av4 b.length cv4)).heap[g9]? = some (.cells #[.slice Av4 b.length cv4, .int .i64 0, .int .i64 0, .string ⟨#[]⟩, .string ⟨#[]⟩, .int .i64 0] 45 (0, 0)) := blk_put C9.out 0 (.slice Av4 b.length cv4) rfl
  have p1 : ((w11.setCell ⟨g9, 0, none⟩ (.slice Av4 b.length cv4)).setCell ⟨g9, 1, none⟩ (.int .i64 f)).heap[g9]? = some (.cells #[.slice Av4 b.length cv4, .int .i64 f, .int .i64 0, .string ⟨#[]⟩, .string ⟨#[]⟩, .int .i64 0] 45 (0, 0)) := blk_put p0 1 (.int .i64 f) rfl
  have p2 : (((w11.setCell ⟨g9, 0, none⟩ (.slice Av4 b.length cv4)).setCell ⟨g9, 1, none⟩ (.int .i64 f)).setCell ⟨g9, 2, none⟩ (.int .i64 c)).heap[g9]? = some (.cells #[.slice Av4 b.length cv4, .int .i64 f, .int .i64 c, .string ⟨#[]⟩, .string ⟨#[]⟩, .int .i64 0] 45 (0, 0)) := blk_put p1 2 (.int .i64 c) rfl
  have p3 : ((((w11.setCell ⟨g9, 0, none⟩ (.slice Av4 b.length cv4)).setCell ⟨g9, 1, none⟩ (.int .i64 f)).setCell ⟨g9, 2, none⟩ (.int .i64 c)).setCell ⟨g9, 3, none⟩ (.string s1)).heap[g9]? = some (.cells #[.slice Av4 b.length cv4, .int .i64 f, .int .i64 c, .string s1, .string ⟨#[]⟩, .int .i64 0] 45 (0, 0)) := blk_put p2 3 (.string s1) rfl
  have p4 : (((((w11.setCell ⟨g9, 0, none⟩ (.slice Av4 b.length cv4)).setCell ⟨g9, 1, none⟩ (.int .i64 f)).setCell ⟨g9, 2, none⟩ (.int .i64 c)).setCell ⟨g9, 3, none⟩ (.string s1)).setCell ⟨g9, 4, none⟩ (.string s2)).heap[g9]? = some (.cells #[.slice Av4 b.length cv4, .int .i64 f, .int .i64 c, .string s1, .string s2, .int .i64 0] 45 (0, 0)) := blk_put p3 4 (.string s2) rfl
  have p5 : ((((((w11.setCell ⟨g9, 0, none⟩ (.slice Av4 b.length cv4)).setCell ⟨g9, 1, none⟩ (.int .i64 f)).setCell ⟨g9, 2, none⟩ (.int .i64 c)).setCell ⟨g9, 3, none⟩ (.string s1)).setCell ⟨g9, 4, none⟩ (.string s2)).setCell ⟨g9, 5, none⟩ (.int .i64 n)).heap[g9]? = some (.cells #[.slice Av4 b.length cv4, .int .i64 f, .int .i64 c, .string s1, .string s2, .int .i64 n] 45 (0, 0)) := blk_put p4 5 (.int .i64 n) rfl
  exact p5)
 clear B C9
 have B := Bn
 have C9 := Cn
 clear Bn Cn
 have n0_ := Aside0.mk (blk_kept C2.out K9 (by have := LT.out; omega)); clear C2; have C2 := n0_; clear n0_; have n0_ := Aside0.mk (blk_kept C6.out K9 (by have := LT.out; omega)); clear C6; have C6 := n0_; clear n0_; have n0_ := Aside0.mk (blk_kept C8.out K9 (by have := LT.out; omega)); clear C8; have C8 := n0_; clear n0_; have n0_ := Aside0.mk (Kd.S_kept S2.out K9 (fun q hq e_ => by have := LT.out; omega)); clear S2; have S2 := n0_; clear n0_; have n0_ := Aside0.mk (Kd.S_kept S3.out K9 (fun q hq e_ => by have := LT.out; omega)); clear S3; have S3 := n0_; clear n0_; have n0_ := Aside0.mk (Kd.S_kept S4.out K9 (fun q hq e_ => by have := LT.out; omega)); clear S4; have S4 := n0_; clear n0_
 clear hw12 K9 hc9_0 hf9_0 hc9_1 hf9_1 hc9_2 hf9_2 hc9_3 hf9_3 hc9_4 hf9_4 hc9_5 hf9_5
 have hc9_0 : w12.cell? ⟨g9, 0, none⟩ = some (.slice Av4 b.length cv4) := (blk_cell C9.out 0).trans rfl
 have hc9_1 : w12.cell? ⟨g9, 1, none⟩ = some (.int .i64 f) := (blk_cell C9.out 1).trans rfl
 have hc9_2 : w12.cell? ⟨g9, 2, none⟩ = some (.int .i64 c) := (blk_cell C9.out 2).trans rfl
 have hc9_3 : w12.cell? ⟨g9, 3, none⟩ = some (.string s1) := (blk_cell C9.out 3).trans rfl
 have hc9_4 : w12.cell? ⟨g9, 4, none⟩ = some (.string s2) := (blk_cell C9.out 4).trans rfl
 have hc9_5 : w12.cell? ⟨g9, 5, none⟩ = some (.int .i64 n) := (blk_cell C9.out 5).trans rfl
 have hc6_0 : w12.cell? ⟨g6, 0, none⟩ = some (.slice Av2 b.length cv2) := (blk_cell C6.out 0).trans rfl
 have hc6_1 : w12.cell? ⟨g6, 1, none⟩ = some (.int .i64 f) := (blk_cell C6.out 1).trans rfl
 have hc6_2 : w12.cell? ⟨g6, 2, none⟩ = some (.int .i64 c) := (blk_cell C6.out 2).trans rfl
 have hc6_3 : w12.cell? ⟨g6, 3, none⟩ = some (.string s1) := (blk_cell C6.out 3).trans rfl
 have hc6_4 : w12.cell? ⟨g6, 4, none⟩ = some (.string s2) := (blk_cell C6.out 4).trans rfl
 have hc6_5 : w12.cell? ⟨g6, 5, none⟩ = some (.int .i64 n) := (blk_cell C6.out 5).trans rfl
 go_upto_region 10 with (first | (go_at_fn 26; refine (laws_eqConsole.calls k Av4 cv4 b f c s1 s2 n Av2 cv2 b f c s1 s2 n true _ (Kd.S_reads' S4.out).2.2 (Kd.S_reads' S4.out).2.1 (Kd.S_reads' S2.out).2.2 (Kd.S_reads' S2.out).2.1 hE).mono ?_; rintro e w13 ⟨rfl, hb⟩; have n0_ := Aside0.mk (below_step B.out hb); clear B; have B := n0_; clear n0_; have n0_ := Aside0.mk (blk_below C2.out hb); clear C2; have C2 := n0_; clear n0_; have n0_ := Aside0.mk (blk_below C6.out hb); clear C6; have C6 := n0_; clear n0_; have n0_ := Aside0.mk (blk_below C8.out hb); clear C8; have C8 := n0_; clear n0_; have n0_ := Aside0.mk (blk_below C9.out hb); clear C9; have C9 := n0_; clear n0_; have n0_ := Aside0.mk (Kd.S_below S2.out hb); clear S2; have S2 := n0_; clear n0_; have n0_ := Aside0.mk (Kd.S_below S3.out hb); clear S3; have S3 := n0_; clear n0_; have n0_ := Aside0.mk (Kd.S_below S4.out hb); clear S4; have S4 := n0_; clear n0_; clear hb))
 clear hc9_0 hc9_1 hc9_2 hc9_3 hc9_4 hc9_5 hc6_0 hc6_1 hc6_2 hc6_3 hc6_4 hc6_5
 try go_wp2
 have hdr : Below w13.heap.size w13 w13.drew := below_drew1 (Below.refl _ _)
 have n0_ := Aside0.mk (below_step B.out hdr)
 clear B
 have B := n0_
 clear n0_
 have n0_ := Aside0.mk (blk_below C2.out hdr)
 clear C2
 have C2 := n0_
 clear n0_
 have n0_ := Aside0.mk (blk_below C6.out hdr)
 clear C6
 have C6 := n0_
 clear n0_
 have n0_ := Aside0.mk (blk_below C8.out hdr)
 clear C8
 have C8 := n0_
 clear n0_
 have n0_ := Aside0.mk (blk_below C9.out hdr)
 clear C9
 have C9 := n0_
 clear n0_
 have n0_ := Aside0.mk (Kd.S_below S2.out hdr)
 clear S2
 have S2 := n0_
 clear n0_
 have n0_ := Aside0.mk (Kd.S_below S3.out hdr)
 clear S3
 have S3 := n0_
 clear n0_
 have n0_ := Aside0.mk (Kd.S_below S4.out hdr)
 clear S4
 have S4 := n0_
 clear n0_
 clear hdr
 refine start_ (n := 5) (S := fun w' => w'.cell? ⟨g8, 0, none⟩ = some (.slice Av3 p.length cv3) ∧ w'.cell? ⟨g8, 1, none⟩ = some (.int .i64 u) ∧ w'.cell? ⟨g8, 2, none⟩ = some (.int .i64 v) ∧ w'.cell? ⟨g2, 0, none⟩ = some (.slice A0 l0.length c0) ∧ w'.cell? ⟨g2, 1, none⟩ = some (.int .i64 u) ∧ w'.cell? ⟨g2, 2, none⟩ = some (.int .i64 v)) (ds := []) #[false, false, false, false, false] (by kernel_rfl) rfl rfl ⟨(blk_cell C8.out 0).trans rfl, (blk_cell C8.out 1).trans rfl, (blk_cell C8.out 2).trans rfl, (blk_cell C2.out 0).trans rfl, (blk_cell C2.out 1).trans rfl, (blk_cell C2.out 2).trans rfl⟩ (fun hHeld => ?_)
 generalize w13.drew = wd at B C2 C6 C8 C9 S2 S3 S4 hHeld ⊢
 refine take_ (i := 0) (N := some 41) (v := ?_) (a' := ?_) #[true, false, false, false, false] rfl rfl (by kernel_rfl) (fun _ _ _ h => h) (Or.inl ⟨by rfl, ?_⟩) hHeld ?_ ?_
 rotate_left
 ·rintro w' ⟨s0, s1, s2, s3, s4, s5⟩
  go_simp
  with_reducible rfl
 rotate_left
 ·simp only [Act.put, List.setIfInBounds_toArray, List.set_cons_zero, List.set_cons_succ, i64_w, i32_w]
  rfl
 refine take_ (i := 1) (N := some 42) (v := ?_) (a' := ?_) #[true, true, false, false, false] rfl rfl (by kernel_rfl) (fun _ _ _ h => h) (Or.inl ⟨by rfl, ?_⟩) hHeld ?_ ?_
 rotate_left
 ·rintro w' ⟨s0, s1, s2, s3, s4, s5⟩
  go_simp
  with_reducible rfl
 rotate_left
 ·simp only [Act.put, List.setIfInBounds_toArray, List.set_cons_zero, List.set_cons_succ, i64_w, i32_w]
  rfl
 refine one_ (i := 2) (N := some 43) #[true, true, true, false, false] rfl rfl (by kernel_rfl) (by decide) (fun K hK => ?_)
 refine goes_ Try.func24 (by kernel_rfl) rfl #[.agg #[.slice A0 l0.length c0, .int .i64 u, .int .i64 v]] (by rfl) rfl rfl (by (try simp only [List.map_toArray, List.map_cons, List.map_nil]); first | done | rfl) ?_
 refine (laws_toBench.calls k A0 c0 l0 u v p u v _ (Kd.C_below HR.out B.out) hc0 hT).mono ?_
 rintro e w14 ⟨v5, rfl, hs, hb⟩
 refine ⟨_, rfl, ?_⟩
 have S5 := Aside0.mk hs
 have n0_ := Aside0.mk (below_step B.out hb)
 clear B
 have B := n0_
 clear n0_
 have n0_ := Aside0.mk (blk_below C2.out hb)
 clear C2
 have C2 := n0_
 clear n0_
 have n0_ := Aside0.mk (blk_below C6.out hb)
 clear C6
 have C6 := n0_
 clear n0_
 have n0_ := Aside0.mk (blk_below C8.out hb)
 clear C8
 have C8 := n0_
 clear n0_
 have n0_ := Aside0.mk (blk_below C9.out hb)
 clear C9
 have C9 := n0_
 clear n0_
 have n0_ := Aside0.mk (Kd.S_below S2.out hb)
 clear S2
 have S2 := n0_
 clear n0_
 have n0_ := Aside0.mk (Kd.S_below S3.out hb)
 clear S3
 have S3 := n0_
 clear n0_
 have n0_ := Aside0.mk (Kd.S_below S4.out hb)
 clear S4
 have S4 := n0_
 clear n0_
 clear hb hs
 obtain ⟨Av5, cv5, ev5⟩ := Kd.S_slice S5.out
 subst ev5
 refine hK.out _ _ ⟨(blk_cell C8.out 0).trans rfl, (blk_cell C8.out 1).trans rfl, (blk_cell C8.out 2).trans rfl, (blk_cell C2.out 0).trans rfl, (blk_cell C2.out 1).trans rfl, (blk_cell C2.out 2).trans rfl⟩ (fun hHeld => ?_)
 clear hK K
 refine norm_ (a' := ?_) ?_ ?_
 rotate_left
 ·show Act.put _ (some 43) _ = _
  simp only [Act.put, List.setIfInBounds_toArray, List.set_cons_zero, List.set_cons_succ, i64_w, i32_w]
  rfl
 refine one_ (i := 3) (N := some 44) #[true, true, true, true, false] rfl rfl (by kernel_rfl) (by decide) (fun K hK => ?_)
 refine goes_ Try.func17 (by kernel_rfl) rfl #[.agg #[.slice Av3 p.length cv3, .int .i64 u, .int .i64 v], .agg #[.slice Av5 p.length cv5, .int .i64 u, .int .i64 v]] (by rfl) rfl rfl (by (try simp only [List.map_toArray, List.map_cons, List.map_nil]); first | done | rfl) ?_
 refine (laws_eqBench.calls k Av3 cv3 p u v Av5 cv5 p u v true _ (Kd.S_reads' S3.out).2.2 (Kd.S_reads' S3.out).2.1 (Kd.S_reads' S5.out).2.2 (Kd.S_reads' S5.out).2.1 hEp).mono ?_
 rintro e w15 ⟨rfl, hb⟩
 refine ⟨_, rfl, ?_⟩
 have n0_ := Aside0.mk (below_step B.out hb)
 clear B
 have B := n0_
 clear n0_
 have n0_ := Aside0.mk (blk_below C2.out hb)
 clear C2
 have C2 := n0_
 clear n0_
 have n0_ := Aside0.mk (blk_below C6.out hb)
 clear C6
 have C6 := n0_
 clear n0_
 have n0_ := Aside0.mk (blk_below C8.out hb)
 clear C8
 have C8 := n0_
 clear n0_
 have n0_ := Aside0.mk (blk_below C9.out hb)
 clear C9
 have C9 := n0_
 clear n0_
 have n0_ := Aside0.mk (Kd.S_below S2.out hb)
 clear S2
 have S2 := n0_
 clear n0_
 have n0_ := Aside0.mk (Kd.S_below S3.out hb)
 clear S3
 have S3 := n0_
 clear n0_
 have n0_ := Aside0.mk (Kd.S_below S4.out hb)
 clear S4
 have S4 := n0_
 clear n0_
 clear hb S5
 refine hK.out _ _ ⟨(blk_cell C8.out 0).trans rfl, (blk_cell C8.out 1).trans rfl, (blk_cell C8.out 2).trans rfl, (blk_cell C2.out 0).trans rfl, (blk_cell C2.out 1).trans rfl, (blk_cell C2.out 2).trans rfl⟩ (fun hHeld => ?_)
 clear hK K
 refine norm_ (a' := ?_) ?_ ?_
 rotate_left
 ·show Act.put _ (some 44) _ = _
  simp only [Act.put, List.setIfInBounds_toArray, List.set_cons_zero, List.set_cons_succ, i64_w, i32_w]
  rfl
 refine pure_ (i := 4) (N := some 45) (v := ?_) (a' := ?_) #[true, true, true, true, true] rfl rfl (by kernel_rfl) (fun _ _ _ h => h) (Or.inl ⟨by rfl, ?_⟩) ?_ ?_
 rotate_left
 ·intro w'
  go_simp
  with_reducible rfl
 rotate_left
 ·simp only [Act.put, List.setIfInBounds_toArray, List.set_cons_zero, List.set_cons_succ, i64_w, i32_w]
  rfl
 refine done_ (by kernel_rfl) ?_
 have hc8_0 : w15.cell? ⟨g8, 0, none⟩ = some (.slice Av3 p.length cv3) := (blk_cell C8.out 0).trans rfl
 have hc8_1 : w15.cell? ⟨g8, 1, none⟩ = some (.int .i64 u) := (blk_cell C8.out 1).trans rfl
 have hc8_2 : w15.cell? ⟨g8, 2, none⟩ = some (.int .i64 v) := (blk_cell C8.out 2).trans rfl
 go_upto_region 14 with (first | (go_at_fn 20; refine (laws_markBench.calls k (fun q => w6.heap.size ≤ q ∧ q < w7.heap.size) (.slice Av3 p.length cv3) p u v 1 m1 p' w _ B.out S3.out hM1).mono ?_; rintro e w16 ⟨rfl, hs, hb, hk⟩; clear B S3; have B := Aside0.mk hb; have n0_ := Aside0.mk (blk_kept C2.out hk (by have := LT.out; omega)); clear C2; have C2 := n0_; clear n0_; have n0_ := Aside0.mk (blk_kept C6.out hk (by have := LT.out; omega)); clear C6; have C6 := n0_; clear n0_; have n0_ := Aside0.mk (blk_kept C9.out hk (by have := LT.out; omega)); clear C9; have C9 := n0_; clear n0_; have n0_ := Aside0.mk (Kd.S_kept S2.out hk (fun q hq e_ => by have := LT.out; omega)); clear S2; have S2 := n0_; clear n0_; have n0_ := Aside0.mk (Kd.S_kept S4.out hk (fun q hq e_ => by have := LT.out; omega)); clear S4; have S4 := n0_; clear n0_; clear hs hb hk C8))
 clear hc8_0 hc8_1 hc8_2
 have hc9_0 : w16.cell? ⟨g9, 0, none⟩ = some (.slice Av4 b.length cv4) := (blk_cell C9.out 0).trans rfl
 have hc9_1 : w16.cell? ⟨g9, 1, none⟩ = some (.int .i64 f) := (blk_cell C9.out 1).trans rfl
 have hc9_2 : w16.cell? ⟨g9, 2, none⟩ = some (.int .i64 c) := (blk_cell C9.out 2).trans rfl
 have hc9_3 : w16.cell? ⟨g9, 3, none⟩ = some (.string s1) := (blk_cell C9.out 3).trans rfl
 have hc9_4 : w16.cell? ⟨g9, 4, none⟩ = some (.string s2) := (blk_cell C9.out 4).trans rfl
 have hc9_5 : w16.cell? ⟨g9, 5, none⟩ = some (.int .i64 n) := (blk_cell C9.out 5).trans rfl
 have hc6_0 : w16.cell? ⟨g6, 0, none⟩ = some (.slice Av2 b.length cv2) := (blk_cell C6.out 0).trans rfl
 have hc6_1 : w16.cell? ⟨g6, 1, none⟩ = some (.int .i64 f) := (blk_cell C6.out 1).trans rfl
 have hc6_2 : w16.cell? ⟨g6, 2, none⟩ = some (.int .i64 c) := (blk_cell C6.out 2).trans rfl
 have hc6_3 : w16.cell? ⟨g6, 3, none⟩ = some (.string s1) := (blk_cell C6.out 3).trans rfl
 have hc6_4 : w16.cell? ⟨g6, 4, none⟩ = some (.string s2) := (blk_cell C6.out 4).trans rfl
 have hc6_5 : w16.cell? ⟨g6, 5, none⟩ = some (.int .i64 n) := (blk_cell C6.out 5).trans rfl
 go_upto_region 16 with (first | (go_at_fn 26; refine (laws_eqConsole.calls k Av4 cv4 b f c s1 s2 n Av2 cv2 b f c s1 s2 n true _ (Kd.S_reads' S4.out).2.2 (Kd.S_reads' S4.out).2.1 (Kd.S_reads' S2.out).2.2 (Kd.S_reads' S2.out).2.1 hE).mono ?_; rintro e w17 ⟨rfl, hb⟩; have n0_ := Aside0.mk (below_step B.out hb); clear B; have B := n0_; clear n0_; have n0_ := Aside0.mk (blk_below C2.out hb); clear C2; have C2 := n0_; clear n0_; have n0_ := Aside0.mk (blk_below C6.out hb); clear C6; have C6 := n0_; clear n0_; have n0_ := Aside0.mk (blk_below C9.out hb); clear C9; have C9 := n0_; clear n0_; have n0_ := Aside0.mk (Kd.S_below S2.out hb); clear S2; have S2 := n0_; clear n0_; have n0_ := Aside0.mk (Kd.S_below S4.out hb); clear S4; have S4 := n0_; clear n0_; clear hb))
 clear hc9_0 hc9_1 hc9_2 hc9_3 hc9_4 hc9_5 hc6_0 hc6_1 hc6_2 hc6_3 hc6_4 hc6_5
 have hc9_0 : w17.cell? ⟨g9, 0, none⟩ = some (.slice Av4 b.length cv4) := (blk_cell C9.out 0).trans rfl
 have hc9_1 : w17.cell? ⟨g9, 1, none⟩ = some (.int .i64 f) := (blk_cell C9.out 1).trans rfl
 have hc9_2 : w17.cell? ⟨g9, 2, none⟩ = some (.int .i64 c) := (blk_cell C9.out 2).trans rfl
 have hc9_3 : w17.cell? ⟨g9, 3, none⟩ = some (.string s1) := (blk_cell C9.out 3).trans rfl
 have hc9_4 : w17.cell? ⟨g9, 4, none⟩ = some (.string s2) := (blk_cell C9.out 4).trans rfl
 have hc9_5 : w17.cell? ⟨g9, 5, none⟩ = some (.int .i64 n) := (blk_cell C9.out 5).trans rfl
 go_upto_region 18 with (first | (go_at_fn 27; refine (laws_markConsole.calls k (fun q => w9.heap.size ≤ q ∧ q < w10.heap.size) (.slice Av4 b.length cv4) b f c s1 s2 n 1 m2 b' w _ B.out S4.out hM2).mono ?_; rintro e w18 ⟨rfl, hs, hb, hk⟩; clear B S4; have B := Aside0.mk hb; have S4 := Aside0.mk hs; have n0_ := Aside0.mk (blk_kept C2.out hk (by have := LT.out; omega)); clear C2; have C2 := n0_; clear n0_; have n0_ := Aside0.mk (blk_kept C6.out hk (by have := LT.out; omega)); clear C6; have C6 := n0_; clear n0_; have n0_ := Aside0.mk (blk_kept C9.out hk (by have := LT.out; omega)); clear C9; have C9 := n0_; clear n0_; have n0_ := Aside0.mk (Kd.S_kept S2.out hk (fun q hq e_ => by have := LT.out; omega)); clear S2; have S2 := n0_; clear n0_; clear hs hb hk))
 clear hc9_0 hc9_1 hc9_2 hc9_3 hc9_4 hc9_5
 have hl := (Kd.S_reads' S4.out).1
 have hc9_0 : w18.cell? ⟨g9, 0, none⟩ = some (.slice Av4 b.length cv4) := (blk_cell C9.out 0).trans rfl
 have hc9_1 : w18.cell? ⟨g9, 1, none⟩ = some (.int .i64 f) := (blk_cell C9.out 1).trans rfl
 have hc9_2 : w18.cell? ⟨g9, 2, none⟩ = some (.int .i64 c) := (blk_cell C9.out 2).trans rfl
 have hc9_3 : w18.cell? ⟨g9, 3, none⟩ = some (.string s1) := (blk_cell C9.out 3).trans rfl
 have hc9_4 : w18.cell? ⟨g9, 4, none⟩ = some (.string s2) := (blk_cell C9.out 4).trans rfl
 have hc9_5 : w18.cell? ⟨g9, 5, none⟩ = some (.int .i64 n) := (blk_cell C9.out 5).trans rfl
 have hheld := fun (W : World) (h : Kd.C (Kd.slice 72 k72) W Av4 b'.length b') (hc : b'.length ≤ cv4) => laws_heldConsole.calls k Av4 cv4 b' f c s1 s2 n 1 m2 W h hc hH
 rw [← hl] at hheld
 have HL := Aside0.mk hl
 clear hl
 go_upto_region 24 with (first | (go_at_fn 28; refine (hheld _ (by rw [HL.out]; exact (Kd.S_reads' S4.out).2.2) (Kd.S_reads' S4.out).2.1).mono ?_; rintro e w19 ⟨rfl, hb⟩; have n0_ := Aside0.mk (below_step B.out hb); clear B; have B := n0_; clear n0_; have n0_ := Aside0.mk (blk_below C2.out hb); clear C2; have C2 := n0_; clear n0_; have n0_ := Aside0.mk (blk_below C6.out hb); clear C6; have C6 := n0_; clear n0_; have n0_ := Aside0.mk (blk_below C9.out hb); clear C9; have C9 := n0_; clear n0_; have n0_ := Aside0.mk (Kd.S_below S2.out hb); clear S2; have S2 := n0_; clear n0_; have n0_ := Aside0.mk (Kd.S_below S4.out hb); clear S4; have S4 := n0_; clear n0_; clear hb))
 clear hc9_0 hc9_1 hc9_2 hc9_3 hc9_4 hc9_5
 have hc2_0 : w19.cell? ⟨g2, 0, none⟩ = some (.slice A0 l0.length c0) := (blk_cell C2.out 0).trans rfl
 have hc2_1 : w19.cell? ⟨g2, 1, none⟩ = some (.int .i64 u) := (blk_cell C2.out 1).trans rfl
 have hc2_2 : w19.cell? ⟨g2, 2, none⟩ = some (.int .i64 v) := (blk_cell C2.out 2).trans rfl
 go_upto_region 25 with (first | (go_at_fn 24; refine (laws_toBench.calls k A0 c0 l0 u v p u v _ (Kd.C_below HR.out B.out) hc0 hT).mono ?_; rintro e w20 ⟨v6, rfl, hs, hb⟩; have S6 := Aside0.mk (Made.new hs B.out.size); have Z6 := Aside0.mk hb.size; have n0_ := Aside0.mk (below_step B.out hb); clear B; have B := n0_; clear n0_; have n0_ := Aside0.mk (blk_below C2.out hb); clear C2; have C2 := n0_; clear n0_; have n0_ := Aside0.mk (blk_below C6.out hb); clear C6; have C6 := n0_; clear n0_; have n0_ := Aside0.mk (blk_below C9.out hb); clear C9; have C9 := n0_; clear n0_; have n0_ := Aside0.mk (Kd.S_below S2.out hb); clear S2; have S2 := n0_; clear n0_; have n0_ := Aside0.mk (Kd.S_below S4.out hb); clear S4; have S4 := n0_; clear n0_; clear hb hs; obtain ⟨Av6, cv6, ev6⟩ := Kd.S_slice S6.out; subst ev6) | (go_at_fn 25; refine (impl_NewConsole.calls k Av6 cv6 p u v b f c s1 s2 n o _ (Kd.S_reads' S6.out).2.2 (Kd.S_reads' S6.out).2.1 hI).mono ?_; rintro e w21 ⟨v7, rfl, hs, hb⟩; have S7 := Aside0.mk (Made.new hs B.out.size); have Z7 := Aside0.mk hb.size; have n0_ := Aside0.mk (below_step B.out hb); clear B; have B := n0_; clear n0_; have n0_ := Aside0.mk (blk_below C2.out hb); clear C2; have C2 := n0_; clear n0_; have n0_ := Aside0.mk (blk_below C6.out hb); clear C6; have C6 := n0_; clear n0_; have n0_ := Aside0.mk (blk_below C9.out hb); clear C9; have C9 := n0_; clear n0_; have n0_ := Aside0.mk (Kd.S_below S2.out hb); clear S2; have S2 := n0_; clear n0_; have n0_ := Aside0.mk (Kd.S_below S4.out hb); clear S4; have S4 := n0_; clear n0_; have n0_ := Aside0.mk (Kd.S_below S6.out hb); clear S6; have S6 := n0_; clear n0_; clear hb hs; obtain ⟨Av7, cv7, ev7⟩ := Kd.S_slice S7.out; subst ev7) | ((with_reducible refine gate_dst (N := 12) rfl ?_); refine box_event ?hg (N := 12) ?hd (cs := #[.slice none 0 0, .int .i64 0, .int .i64 0, .string ⟨#[]⟩, .string ⟨#[]⟩, .int .i64 0]) (t := 45) ?hr ?_; (case hd => rfl); (case hg => rfl); (case hr => first | (go_simp; done) | (go_simp; rfl)); intro g14 hg14 w22 hbox hb; have P6 := Aside0.mk (show g6 < g14 from by rw [hg14]; exact blk_lt C6.out); have P9 := Aside0.mk (show g9 < g14 from by rw [hg14]; exact blk_lt C9.out); have PB := Aside0.mk (show w.heap.size ≤ g14 from by rw [hg14]; exact B.out.size); have n0_ := Aside0.mk (below_step B.out hb); clear B; have B := n0_; clear n0_; have n0_ := Aside0.mk (blk_below C2.out hb); clear C2; have C2 := n0_; clear n0_; have n0_ := Aside0.mk (blk_below C6.out hb); clear C6; have C6 := n0_; clear n0_; have n0_ := Aside0.mk (blk_below C9.out hb); clear C9; have C9 := n0_; clear n0_; have n0_ := Aside0.mk (Kd.S_below S2.out hb); clear S2; have S2 := n0_; clear n0_; have n0_ := Aside0.mk (Kd.S_below S4.out hb); clear S4; have S4 := n0_; clear n0_; have n0_ := Aside0.mk (Kd.S_below S7.out hb); clear S7; have S7 := n0_; clear n0_; have C14 := Aside0.mk hbox; have G14 := Aside0.mk hg14; clear hb hbox hg14; have hc14_0 : w22.cell? ⟨g14, 0, none⟩ = some (.slice none 0 0) := (blk_cell C14.out 0).trans rfl; have hf14_0 := blk_frozen C14.out 0; have hc14_1 : w22.cell? ⟨g14, 1, none⟩ = some (.int .i64 0) := (blk_cell C14.out 1).trans rfl; have hf14_1 := blk_frozen C14.out 1; have hc14_2 : w22.cell? ⟨g14, 2, none⟩ = some (.int .i64 0) := (blk_cell C14.out 2).trans rfl; have hf14_2 := blk_frozen C14.out 2; have hc14_3 : w22.cell? ⟨g14, 3, none⟩ = some (.string ⟨#[]⟩) := (blk_cell C14.out 3).trans rfl; have hf14_3 := blk_frozen C14.out 3; have hc14_4 : w22.cell? ⟨g14, 4, none⟩ = some (.string ⟨#[]⟩) := (blk_cell C14.out 4).trans rfl; have hf14_4 := blk_frozen C14.out 4; have hc14_5 : w22.cell? ⟨g14, 5, none⟩ = some (.int .i64 0) := (blk_cell C14.out 5).trans rfl; have hf14_5 := blk_frozen C14.out 5))
 clear C2 S6 Z6 hc2_0 hc2_1 hc2_2
 obtain ⟨w23, hw23⟩ : ∃ w23, w23 = ((((((w22.setCell ⟨g14, 0, none⟩ (.slice Av7 b.length cv7)).setCell ⟨g14, 1, none⟩ (.int .i64 f)).setCell ⟨g14, 2, none⟩ (.int .i64 c)).setCell ⟨g14, 3, none⟩ (.string s1)).setCell ⟨g14, 4, none⟩ (.string s2)).setCell ⟨g14, 5, none⟩ (.int .i64 n)) := ⟨_, rfl⟩
 rw [← hw23]
 have K14 : Kept w22 w23 (fun q => q = g14) := by
  rw [hw23]
  exact Kept.setCell (S := fun q => q = g14) (p := ⟨g14, 5, none⟩) (Kept.setCell (S := fun q => q = g14) (p := ⟨g14, 4, none⟩) (Kept.setCell (S := fun q => q = g14) (p := ⟨g14, 3, none⟩) (Kept.setCell (S := fun q => q = g14) (p := ⟨g14, 2, none⟩) (Kept.setCell (S := fun q => q = g14) (p := ⟨g14, 1, none⟩) (Kept.setCell (S := fun q => q = g14) (p := ⟨g14, 0, none⟩) (Kept.refl w22 (fun q => q = g14)) (.inl rfl) (.slice Av7 b.length cv7)) (.inl rfl) (.int .i64 f)) (.inl rfl) (.int .i64 c)) (.inl rfl) (.string s1)) (.inl rfl) (.string s2)) (.inl rfl) (.int .i64 n)
 have Bn := Aside0.mk (show Below w.heap.size w w23 from by rw [hw23]; exact below_set (below_set (below_set (below_set (below_set (below_set (B.out) (PB.out)) (PB.out)) (PB.out)) (PB.out)) (PB.out)) (PB.out))
 have Cn := Aside0.mk (show w23.heap[g14]? = some (.cells #[.slice Av7 b.length cv7, .int .i64 f, .int .i64 c, .string s1, .string s2, .int .i64 n] 45 (0, 0)) from by
  rw [hw23]
  have p0 : (w22.setCell ⟨g14, 0, none⟩ (.slice Av7 b.length cv7)).heap[g14]? = some (.cells #[.slice Av7 b.length cv7, .int .i64 0, .int .i64 0, .string ⟨#[]⟩, .string ⟨#[]⟩, .int .i64 0] 45 (0, 0)) := blk_put C14.out 0 (.slice Av7 b.length cv7) rfl
  have p1 : ((w22.setCell ⟨g14, 0, none⟩ (.slice Av7 b.length cv7)).setCell ⟨g14, 1, none⟩ (.int .i64 f)).heap[g14]? = some (.cells #[.slice Av7 b.length cv7, .int .i64 f, .int .i64 0, .string ⟨#[]⟩, .string ⟨#[]⟩, .int .i64 0] 45 (0, 0)) := blk_put p0 1 (.int .i64 f) rfl
  have p2 : (((w22.setCell ⟨g14, 0, none⟩ (.slice Av7 b.length cv7)).setCell ⟨g14, 1, none⟩ (.int .i64 f)).setCell ⟨g14, 2, none⟩ (.int .i64 c)).heap[g14]? = some (.cells #[.slice Av7 b.length cv7, .int .i64 f, .int .i64 c, .string ⟨#[]⟩, .string ⟨#[]⟩, .int .i64 0] 45 (0, 0)) := blk_put p1 2 (.int .i64 c) rfl
  have p3 : ((((w22.setCell ⟨g14, 0, none⟩ (.slice Av7 b.length cv7)).setCell ⟨g14, 1, none⟩ (.int .i64 f)).setCell ⟨g14, 2, none⟩ (.int .i64 c)).setCell ⟨g14, 3, none⟩ (.string s1)).heap[g14]? = some (.cells #[.slice Av7 b.length cv7, .int .i64 f, .int .i64 c, .string s1, .string ⟨#[]⟩, .int .i64 0] 45 (0, 0)) := blk_put p2 3 (.string s1) rfl
  have p4 : (((((w22.setCell ⟨g14, 0, none⟩ (.slice Av7 b.length cv7)).setCell ⟨g14, 1, none⟩ (.int .i64 f)).setCell ⟨g14, 2, none⟩ (.int .i64 c)).setCell ⟨g14, 3, none⟩ (.string s1)).setCell ⟨g14, 4, none⟩ (.string s2)).heap[g14]? = some (.cells #[.slice Av7 b.length cv7, .int .i64 f, .int .i64 c, .string s1, .string s2, .int .i64 0] 45 (0, 0)) := blk_put p3 4 (.string s2) rfl
  have p5 : ((((((w22.setCell ⟨g14, 0, none⟩ (.slice Av7 b.length cv7)).setCell ⟨g14, 1, none⟩ (.int .i64 f)).setCell ⟨g14, 2, none⟩ (.int .i64 c)).setCell ⟨g14, 3, none⟩ (.string s1)).setCell ⟨g14, 4, none⟩ (.string s2)).setCell ⟨g14, 5, none⟩ (.int .i64 n)).heap[g14]? = some (.cells #[.slice Av7 b.length cv7, .int .i64 f, .int .i64 c, .string s1, .string s2, .int .i64 n] 45 (0, 0)) := blk_put p4 5 (.int .i64 n) rfl
  exact p5)
 clear B C14
 have B := Bn
 have C14 := Cn
 clear Bn Cn
 have n0_ := Aside0.mk (blk_kept C6.out K14 (by have := LT.out; have := P6.out; have := P9.out; have := G14.out; omega)); clear C6; have C6 := n0_; clear n0_; have n0_ := Aside0.mk (blk_kept C9.out K14 (by have := LT.out; have := P6.out; have := P9.out; have := G14.out; omega)); clear C9; have C9 := n0_; clear n0_; have n0_ := Aside0.mk (Kd.S_kept S2.out K14 (fun q hq e_ => by have := LT.out; have := P6.out; have := P9.out; have := G14.out; omega)); clear S2; have S2 := n0_; clear n0_; have n0_ := Aside0.mk (Kd.S_kept S4.out K14 (fun q hq e_ => by have := LT.out; have := P6.out; have := P9.out; have := G14.out; omega)); clear S4; have S4 := n0_; clear n0_; have n0_ := Aside0.mk (Kd.S_kept S7.out K14 (fun q hq e_ => by have := LT.out; have := P6.out; have := P9.out; have := G14.out; omega)); clear S7; have S7 := n0_; clear n0_
 clear hw23 K14 hc14_0 hf14_0 hc14_1 hf14_1 hc14_2 hf14_2 hc14_3 hf14_3 hc14_4 hf14_4 hc14_5 hf14_5
 have hc14_0 : w23.cell? ⟨g14, 0, none⟩ = some (.slice Av7 b.length cv7) := (blk_cell C14.out 0).trans rfl
 have hc14_1 : w23.cell? ⟨g14, 1, none⟩ = some (.int .i64 f) := (blk_cell C14.out 1).trans rfl
 have hc14_2 : w23.cell? ⟨g14, 2, none⟩ = some (.int .i64 c) := (blk_cell C14.out 2).trans rfl
 have hc14_3 : w23.cell? ⟨g14, 3, none⟩ = some (.string s1) := (blk_cell C14.out 3).trans rfl
 have hc14_4 : w23.cell? ⟨g14, 4, none⟩ = some (.string s2) := (blk_cell C14.out 4).trans rfl
 have hc14_5 : w23.cell? ⟨g14, 5, none⟩ = some (.int .i64 n) := (blk_cell C14.out 5).trans rfl
 have hc6_0 : w23.cell? ⟨g6, 0, none⟩ = some (.slice Av2 b.length cv2) := (blk_cell C6.out 0).trans rfl
 have hc6_1 : w23.cell? ⟨g6, 1, none⟩ = some (.int .i64 f) := (blk_cell C6.out 1).trans rfl
 have hc6_2 : w23.cell? ⟨g6, 2, none⟩ = some (.int .i64 c) := (blk_cell C6.out 2).trans rfl
 have hc6_3 : w23.cell? ⟨g6, 3, none⟩ = some (.string s1) := (blk_cell C6.out 3).trans rfl
 have hc6_4 : w23.cell? ⟨g6, 4, none⟩ = some (.string s2) := (blk_cell C6.out 4).trans rfl
 have hc6_5 : w23.cell? ⟨g6, 5, none⟩ = some (.int .i64 n) := (blk_cell C6.out 5).trans rfl
 go_upto_region 27 with (first | (go_at_fn 26; refine (laws_eqConsole.calls k Av7 cv7 b f c s1 s2 n Av2 cv2 b f c s1 s2 n true _ (Kd.S_reads' S7.out).2.2 (Kd.S_reads' S7.out).2.1 (Kd.S_reads' S2.out).2.2 (Kd.S_reads' S2.out).2.1 hE).mono ?_; rintro e w24 ⟨rfl, hb⟩; have n0_ := Aside0.mk (below_step B.out hb); clear B; have B := n0_; clear n0_; have n0_ := Aside0.mk (blk_below C9.out hb); clear C9; have C9 := n0_; clear n0_; have n0_ := Aside0.mk (Kd.S_below S4.out hb); clear S4; have S4 := n0_; clear n0_; clear hb))
 clear hc14_0 hc14_1 hc14_2 hc14_3 hc14_4 hc14_5 hc6_0 hc6_1 hc6_2 hc6_3 hc6_4 hc6_5
 have hc9_0 : w24.cell? ⟨g9, 0, none⟩ = some (.slice Av4 b.length cv4) := (blk_cell C9.out 0).trans rfl
 have hc9_1 : w24.cell? ⟨g9, 1, none⟩ = some (.int .i64 f) := (blk_cell C9.out 1).trans rfl
 have hc9_2 : w24.cell? ⟨g9, 2, none⟩ = some (.int .i64 c) := (blk_cell C9.out 2).trans rfl
 have hc9_3 : w24.cell? ⟨g9, 3, none⟩ = some (.string s1) := (blk_cell C9.out 3).trans rfl
 have hc9_4 : w24.cell? ⟨g9, 4, none⟩ = some (.string s2) := (blk_cell C9.out 4).trans rfl
 have hc9_5 : w24.cell? ⟨g9, 5, none⟩ = some (.int .i64 n) := (blk_cell C9.out 5).trans rfl
 go_wp2_with (first | (go_at_fn 28; refine (hheld _ (by rw [HL.out]; exact (Kd.S_reads' S4.out).2.2) (Kd.S_reads' S4.out).2.1).mono ?_; rintro e w25 ⟨rfl, hb⟩; have n0_ := Aside0.mk (below_step B.out hb); clear B; have B := n0_; clear n0_; clear hb))
 go_ret
 exact ⟨rfl, B.out⟩
end Go.Proofs.Ythdhhpcbagpmgaa.Pr
end

section
set_option linter.unusedVariables false
set_option linter.unusedSimpArgs false
namespace Go.Proofs.Ythdhhpcbagpmgaa.PureL
open Go.RowKit Go.Proofs.Ythdhhpcbagpmgaa.Pr Go.Proofs.YthdhhpcbagpmgaaW.PrintWords Go.Proofs.YthdhhpcbagpmgaaW.PrintLast
theorem wrap_in {i : Int} (h0 : -9223372036854775808 ≤ i) (h1 : i ≤ 9223372036854775807) : wrap64 i = i := by unfold wrap64; omega
def to72 (s : S69) : S72 := ⟨s.f0, s.f1, s.f2⟩
def total {α : Type} (l : List (List α)) : Nat := (l.map List.length).sum
theorem rd2_at (l : List (List S69)) (i : Nat) (h : i < l.length) : rd_L2 l (i : Int) = l[i] := by unfold rd_L2; rw [Int.toNat_natCast, List.getD_eq_getElem?_getD, List.getElem?_eq_getElem h]; rfl
theorem rd4_at (l : List (List S72)) (i : Nat) (h : i < l.length) : rd_L4 l (i : Int) = l[i] := by unfold rd_L4; rw [Int.toNat_natCast, List.getD_eq_getElem?_getD, List.getElem?_eq_getElem h]; rfl
theorem rd69_at (l : List S69) (i : Nat) (h : i < l.length) : rd_T69 l (i : Int) = l[i] := by unfold rd_T69; rw [Int.toNat_natCast, List.getD_eq_getElem?_getD, List.getElem?_eq_getElem h]; rfl
theorem rd72_at (l : List S72) (i : Nat) (h : i < l.length) : rd_T72 l (i : Int) = l[i] := by unfold rd_T72; rw [Int.toNat_natCast, List.getD_eq_getElem?_getD, List.getElem?_eq_getElem h]; rfl
theorem szSS_l (l : List (List S69)) (hb : ∀ b ∈ l, b.length ≤ 9223372036854775807) (hl : l.length ≤ 9223372036854775807) : ∀ (d i : Nat) (a : Int), d + i = l.length → 0 ≤ a → a ≤ 1048576 →
  ∃ r, (∀ k, d < k → laws_szStepSS.l0 k l a i = some r) ∧ (0 ≤ r → (total (l.drop i) : Int) ≤ a) := by
 intro d
 induction d with
 | zero =>
  intro i a hd h0 h1
  refine ⟨a, fun k hk => ?_, fun _ => ?_⟩
  ·obtain ⟨k, rfl⟩ : ∃ z, k = z + 1 := ⟨k - 1, by omega⟩
   rw [laws_szStepSS.l0, if_neg (by omega)]
  ·rw [List.drop_eq_nil_of_le (by omega)]; simp [total]; omega
 | succ d ih =>
  intro i a hd h0 h1
  have hi : i < l.length := by omega
  have hbi := hb _ (List.getElem_mem hi)
  have hdrop : l.drop i = l[i] :: l.drop (i + 1) := List.drop_eq_getElem_cons hi
  have hw : wrap64 (a - (l[i].length : Int)) = a - (l[i].length : Int) := wrap_in (by omega) (by omega)
  by_cases hc : a - (l[i].length : Int) < 0
  ·refine ⟨-1, fun k hk => ?_, fun h => by omega⟩
   obtain ⟨k, rfl⟩ : ∃ z, k = z + 1 := ⟨k - 1, by omega⟩
   rw [laws_szStepSS.l0, if_pos (by omega), if_pos (by omega), rd2_at l i hi, laws_szStepS.f, hw, if_pos hc, Option.bind_some, if_pos (by omega)]
  ·obtain ⟨r, h2, h3⟩ := ih (i + 1) (a - (l[i].length : Int)) (by omega) (by omega) (by omega)
   refine ⟨r, fun k hk => ?_, fun h => ?_⟩
   ·obtain ⟨k, rfl⟩ : ∃ z, k = z + 1 := ⟨k - 1, by omega⟩
    rw [laws_szStepSS.l0, if_pos (by omega), if_pos (by omega), rd2_at l i hi, laws_szStepS.f, hw, if_neg hc, Option.bind_some, if_neg hc, wrap_in (by omega) (by omega)]
    exact h2 k (by omega)
   ·have := h3 h
    rw [hdrop]
    simp only [total, List.map_cons, List.sum_cons] at this ⊢
    omega
theorem szProgram_ok (l : List (List S69)) (hb : ∀ b ∈ l, b.length ≤ 9223372036854775807) (hl : l.length ≤ 9223372036854775807) :
  ∃ r, (∀ k, l.length + 1 < k → laws_szProgram.f k l 1048576 = some r) ∧ (0 ≤ r → l.length + total l ≤ 1048576) := by
 have hw : wrap64 (1048576 - (l.length : Int)) = 1048576 - (l.length : Int) := wrap_in (by omega) (by omega)
 by_cases hc : 1048576 - (l.length : Int) < 0
 ·refine ⟨-1, fun k hk => ?_, fun h => by omega⟩
  unfold laws_szProgram.f laws_szStepSS.f
  rw [hw, if_pos hc, Option.bind_some, if_pos (by omega)]
 ·obtain ⟨r, h2, h3⟩ := szSS_l l hb hl l.length 0 (1048576 - (l.length : Int)) (by omega) (by omega) (by omega)
  by_cases hr : r < 0
  ·refine ⟨-1, fun k hk => ?_, fun h => by omega⟩
   unfold laws_szProgram.f laws_szStepSS.f
   have := h2 k (by omega)
   rw [Int.natCast_zero] at this
   rw [hw, if_neg hc, this, Option.bind_some, if_pos hr]
  ·refine ⟨r, fun k hk => ?_, fun h => ?_⟩
   ·unfold laws_szProgram.f laws_szStepSS.f
    have := h2 k (by omega)
    rw [Int.natCast_zero] at this
    rw [hw, if_neg hc, this, Option.bind_some, if_neg hr]
   ·have := h3 h
    rw [List.drop_zero] at this
    omega
theorem toStepS_l (l : List S69) (hl : l.length ≤ 1048576) : ∀ (d i : Nat), d + i = l.length → ∀ k, d < k → laws_toStepS.l0 k l ((l.map to72).take i ++ List.replicate d z72) i = some (l.map to72) := by
 intro d
 induction d with
 | zero =>
  intro i hd k hk
  obtain ⟨k, rfl⟩ : ∃ z, k = z + 1 := ⟨k - 1, by omega⟩
  rw [laws_toStepS.l0, if_neg (by omega), List.take_of_length_le (by simp; omega)]
  simp
 | succ d ih =>
  intro i hd k hk
  obtain ⟨k, rfl⟩ : ∃ z, k = z + 1 := ⟨k - 1, by omega⟩
  have hi : i < l.length := by omega
  have hlen : ((l.map to72).take i ++ List.replicate (d + 1) z72).length = l.length := by simp; omega
  have htl : ((l.map to72).take i).length = i := by simp; omega
  rw [laws_toStepS.l0, if_pos (by omega), if_pos (by omega), rd69_at l i hi, laws_toStep.f, Option.bind_some, if_pos (by rw [hlen]; omega), wrap_in (by omega) (by omega), Int.toNat_natCast]
  have hset : ((l.map to72).take i ++ List.replicate (d + 1) z72).set i (to72 l[i]) = (l.map to72).take (i + 1) ++ List.replicate d z72 := by
   rw [List.set_append_right _ _ (by omega), htl, Nat.sub_self, List.replicate_succ, List.set_cons_zero, List.take_add_one, List.getElem?_map, List.getElem?_eq_getElem hi]
   simp
  exact (congrArg (fun z => laws_toStepS.l0 k l z ((i : Int) + 1)) hset).trans (by exact_mod_cast ih (i + 1) (by omega) k (by omega))
theorem toStepS_ok (l : List S69) (hl : l.length ≤ 1048576) (k : Nat) (hk : 1048577 < k) : laws_toStepS.f k l = some (l.map to72) := by
 unfold laws_toStepS.f
 rw [if_pos (by omega), if_pos (by omega), Int.toNat_natCast]
 have := toStepS_l l hl l.length 0 (by omega) k (by omega)
 simpa using this
def toP (l : List (List S69)) : List (List S72) := l.map (·.map to72)
theorem toStepSS_l (l : List (List S69)) (hl : l.length ≤ 1048576) (hb : ∀ b ∈ l, b.length ≤ 1048576) : ∀ (d i : Nat), d + i = l.length → ∀ k, 1048577 + d < k → laws_toStepSS.l0 k l ((toP l).take i ++ List.replicate d []) i = some (toP l) := by
 intro d
 induction d with
 | zero =>
  intro i hd k hk
  obtain ⟨k, rfl⟩ : ∃ z, k = z + 1 := ⟨k - 1, by omega⟩
  rw [laws_toStepSS.l0, if_neg (by omega), List.take_of_length_le (by simp [toP]; omega)]
  simp
 | succ d ih =>
  intro i hd k hk
  obtain ⟨k, rfl⟩ : ∃ z, k = z + 1 := ⟨k - 1, by omega⟩
  have hi : i < l.length := by omega
  have hlen : ((toP l).take i ++ List.replicate (d + 1) []).length = l.length := by simp [toP]; omega
  have htl : ((toP l).take i).length = i := by simp [toP]; omega
  rw [laws_toStepSS.l0, if_pos (by omega), if_pos (by omega), rd2_at l i hi, toStepS_ok _ (hb _ (List.getElem_mem hi)) k (by omega), Option.bind_some, if_pos (by rw [hlen]; omega), wrap_in (by omega) (by omega), Int.toNat_natCast]
  have hset : ((toP l).take i ++ List.replicate (d + 1) []).set i (l[i].map to72) = (toP l).take (i + 1) ++ List.replicate d [] := by
   rw [List.set_append_right _ _ (by omega), htl, Nat.sub_self, List.replicate_succ, List.set_cons_zero, List.take_add_one]
   have : (toP l)[i]? = some (l[i].map to72) := by unfold toP; rw [List.getElem?_map, List.getElem?_eq_getElem hi]; rfl
   rw [this]
   simp
  exact (congrArg (fun z => laws_toStepSS.l0 k l z ((i : Int) + 1)) hset).trans (by exact_mod_cast ih (i + 1) (by omega) k (by omega))
theorem toProgram_ok (l : List (List S69)) (hl : l.length ≤ 1048576) (hb : ∀ b ∈ l, b.length ≤ 1048576) (k : Nat) (hk : 2097154 < k) : laws_toProgram.f k l = some (toP l) := by
 unfold laws_toProgram.f laws_toStepSS.f
 rw [if_pos (by omega), if_pos (by omega), Int.toNat_natCast]
 have := toStepSS_l l hl hb l.length 0 (by omega) k (by omega)
 simp only [List.take_zero, List.nil_append, Int.natCast_zero] at this
 rw [this, Option.bind_some]
theorem eqStepS_l (l : List S72) (hl : l.length ≤ 1048576) : ∀ (d i : Nat), d + i = l.length → ∀ k, d < k → laws_eqStepS.l0 k l l i = some true := by
 intro d
 induction d with
 | zero =>
  intro i hd k hk
  obtain ⟨k, rfl⟩ : ∃ z, k = z + 1 := ⟨k - 1, by omega⟩
  rw [laws_eqStepS.l0, if_neg (by omega)]
 | succ d ih =>
  intro i hd k hk
  obtain ⟨k, rfl⟩ : ∃ z, k = z + 1 := ⟨k - 1, by omega⟩
  rw [laws_eqStepS.l0, if_pos (by omega), if_pos (by omega), if_pos (by omega), laws_eqStep.f, if_pos rfl, if_pos rfl, if_pos rfl, Option.bind_some, if_pos rfl, wrap_in (by omega) (by omega)]
  exact_mod_cast ih (i + 1) (by omega) k (by omega)
theorem eqStepSS_l (l : List (List S72)) (hl : l.length ≤ 1048576) (hb : ∀ b ∈ l, b.length ≤ 1048576) : ∀ (d i : Nat), d + i = l.length → ∀ k, 1048577 + d < k → laws_eqStepSS.l0 k l l i = some true := by
 intro d
 induction d with
 | zero =>
  intro i hd k hk
  obtain ⟨k, rfl⟩ : ∃ z, k = z + 1 := ⟨k - 1, by omega⟩
  rw [laws_eqStepSS.l0, if_neg (by omega)]
 | succ d ih =>
  intro i hd k hk
  obtain ⟨k, rfl⟩ : ∃ z, k = z + 1 := ⟨k - 1, by omega⟩
  have hi : i < l.length := by omega
  have hbi := hb _ (List.getElem_mem hi)
  have h1 := eqStepS_l l[i] hbi l[i].length 0 (by omega) k (by omega)
  rw [Int.natCast_zero] at h1
  rw [laws_eqStepSS.l0, if_pos (by omega), if_pos (by omega), if_pos (by omega), rd4_at l i hi, laws_eqStepS.f, if_pos rfl, h1, Option.bind_some, if_pos rfl, wrap_in (by omega) (by omega)]
  exact_mod_cast ih (i + 1) (by omega) k (by omega)
theorem eqProgram_ok (l : List (List S72)) (hl : l.length ≤ 1048576) (hb : ∀ b ∈ l, b.length ≤ 1048576) (k : Nat) (hk : 2097154 < k) : laws_eqProgram.f k l l = some true := by
 unfold laws_eqProgram.f laws_eqStepSS.f
 have := eqStepSS_l l hl hb l.length 0 (by omega) k (by omega)
 rw [Int.natCast_zero] at this
 rw [if_pos rfl, this, Option.bind_some, if_pos rfl]
theorem own_l (l : List (List S72)) (hl : l.length ≤ 1048576) (hb : ∀ b ∈ l, b.length ≤ 1048576) : ∀ (d i : Nat), d + i = l.length → ∀ k, d < k → spec_l2Own.l0 k i l (l.take i) = some l := by
 intro d
 induction d with
 | zero =>
  intro i hd k hk
  obtain ⟨k, rfl⟩ : ∃ z, k = z + 1 := ⟨k - 1, by omega⟩
  rw [spec_l2Own.l0, if_neg (by omega), List.take_of_length_le (by omega)]
 | succ d ih =>
  intro i hd k hk
  obtain ⟨k, rfl⟩ : ∃ z, k = z + 1 := ⟨k - 1, by omega⟩
  have hi : i < l.length := by omega
  have hbi := hb _ (List.getElem_mem hi)
  rw [spec_l2Own.l0, if_pos (by omega), Option.bind_some, if_pos (by omega), rd4_at l i hi, if_pos (by simp only [List.length_nil]; omega), if_pos (by rw [List.length_take]; omega), wrap_in (by omega) (by omega), List.nil_append]
  have : l.take i ++ [l[i]] = l.take (i + 1) := by rw [List.take_add_one, List.getElem?_eq_getElem hi]; rfl
  rw [this]
  exact_mod_cast ih (i + 1) (by omega) k (by omega)
theorem own_ok (l : List (List S72)) (hl : l.length ≤ 1048576) (hb : ∀ b ∈ l, b.length ≤ 1048576) (k : Nat) (hk : 1048577 < k) : spec_l2Own.f k l = some l := by
 unfold spec_l2Own.f
 have := own_l l hl hb l.length 0 (by omega) k (by omega)
 rw [Int.natCast_zero, List.take_zero] at this
 exact this
theorem copied_l (l : List (List S72)) (hl : l.length ≤ 1048576) (hb : ∀ b ∈ l, b.length ≤ 1048576) : ∀ (d i : Nat), d + i = l.length → ∀ k, d < k → impl_Program_copied.l0 k l (l.length : Int) i (l.take i) = some l := by
 intro d
 induction d with
 | zero =>
  intro i hd k hk
  obtain ⟨k, rfl⟩ : ∃ z, k = z + 1 := ⟨k - 1, by omega⟩
  rw [impl_Program_copied.l0, if_neg (by omega), List.take_of_length_le (by omega)]
 | succ d ih =>
  intro i hd k hk
  obtain ⟨k, rfl⟩ : ∃ z, k = z + 1 := ⟨k - 1, by omega⟩
  have hi : i < l.length := by omega
  have hbi := hb _ (List.getElem_mem hi)
  rw [impl_Program_copied.l0, if_pos (by omega), if_pos (by omega), if_pos (by omega), rd4_at l i hi, slices_CloneStep.f, if_pos (by omega), Option.bind_some, if_pos (by rw [List.length_take]; omega), wrap_in (by omega) (by omega)]
  have : l.take i ++ [l[i]] = l.take (i + 1) := by rw [List.take_add_one, List.getElem?_eq_getElem hi]; rfl
  rw [this]
  exact_mod_cast ih (i + 1) (by omega) k (by omega)
theorem copied_ok (l : List (List S72)) (hl : l.length ≤ 1048576) (hb : ∀ b ∈ l, b.length ≤ 1048576) (k : Nat) (hk : 1048577 < k) : impl_Program_copied.f k l = some l := by
 unfold impl_Program_copied.f
 have := copied_l l hl hb l.length 0 (by omega) k (by omega)
 rw [Int.natCast_zero, List.take_zero] at this
 exact this
end Go.Proofs.Ythdhhpcbagpmgaa.PureL
end

section
set_option linter.unusedVariables false
set_option linter.unusedSimpArgs false
namespace Go.Proofs.Ythdhhpcbagpmgaa.PureL
open Go.RowKit Go.Proofs.Ythdhhpcbagpmgaa.Pr Go.Proofs.YthdhhpcbagpmgaaW.PrintWords Go.Proofs.YthdhhpcbagpmgaaW.PrintLast
def mk3 : Int → Nat → List S72
 | _, 0 => []
 | a, n + 1 => ⟨a, a + 1, a + 2⟩ :: mk3 (a + 3) n
def marks : Int → List (List S72) → List (List S72)
 | _, [] => []
 | a, b :: l => mk3 a b.length :: marks (a + 3 * b.length) l
theorem rd72_mid (d t : List S72) (s : S72) : rd_T72 (d ++ s :: t) (d.length : Int) = s := by rw [rd72_at _ _ (by simp)]; simp
theorem rd4_mid (d t : List (List S72)) (s : List S72) : rd_L4 (d ++ s :: t) (d.length : Int) = s := by rw [rd4_at _ _ (by simp)]; simp
theorem set_mid {α : Type} (d t : List α) (s v : α) : (d ++ s :: t).set d.length v = d ++ v :: t := by rw [List.set_append_right _ _ (Nat.le_refl _), Nat.sub_self, List.set_cons_zero]
theorem markStepS_l : ∀ (t d : List S72) (a : Int), 0 ≤ a → a + 3 * t.length ≤ 1000000000 → d.length + t.length ≤ 100000000 → ∀ k, t.length < k → laws_markStepS.l0 k (d ++ t) a d.length = some (a + 3 * t.length, d ++ mk3 a t.length) := by
 intro t
 induction t with
 | nil =>
  intro d a h0 h1 h2 k hk
  obtain ⟨k, rfl⟩ : ∃ z, k = z + 1 := ⟨k - 1, by omega⟩
  rw [laws_markStepS.l0, if_neg (by simp)]
  simp [mk3]
 | cons s t ih =>
  intro d a h0 h1 h2 k hk
  simp only [List.length_cons] at h1 h2 hk
  obtain ⟨k, rfl⟩ : ∃ z, k = z + 1 := ⟨k - 1, by omega⟩
  rw [laws_markStepS.l0, if_pos (by simp; omega), if_pos (by omega), Option.bind_some]
  simp only [Int.toNat_natCast, set_mid, Option.bind_some, rd72_mid]
  rw [wrap_in (i := a + 1) (by omega) (by omega), wrap_in (i := a + 1 + 1) (by omega) (by omega), wrap_in (i := a + 1 + 1 + 1) (by omega) (by omega), wrap_in (i := (d.length : Int) + 1) (by omega) (by omega)]
  have h := ih (d ++ [⟨a, a + 1, a + 2⟩]) (a + 3) (by omega) (by push_cast at h1 ⊢; omega) (by simp; omega) k (by omega)
  simp only [List.append_assoc, List.singleton_append, List.length_append, List.length_singleton] at h
  have e1 : a + 1 + 1 = a + 2 := by omega
  have e2 : a + 1 + 1 + 1 = a + 3 := by omega
  rw [e2, e1]
  push_cast at h ⊢
  rw [h]
  simp only [List.length_cons, mk3]
  congr 2
  push_cast
  omega
theorem heldStepS_l : ∀ (n : Nat) (d : List S72) (a : Int), 0 ≤ a → a + 3 * n ≤ 1000000000 → d.length + n ≤ 100000000 → ∀ k, n < k → laws_heldStepS.l0 k (d ++ mk3 a n) a d.length = some (a + 3 * n) := by
 intro n
 induction n with
 | zero =>
  intro d a h0 h1 h2 k hk
  obtain ⟨k, rfl⟩ : ∃ z, k = z + 1 := ⟨k - 1, by omega⟩
  rw [laws_heldStepS.l0, if_neg (by simp [mk3])]
  simp
 | succ n ih =>
  intro d a h0 h1 h2 k hk
  obtain ⟨k, rfl⟩ : ∃ z, k = z + 1 := ⟨k - 1, by omega⟩
  rw [mk3, laws_heldStepS.l0, if_pos (by simp; omega), if_pos (by omega), rd72_mid, wrap_in (i := a + 1) (by omega) (by omega), wrap_in (i := a + 1 + 1) (by omega) (by omega), wrap_in (i := a + 1 + 1 + 1) (by omega) (by omega), wrap_in (i := (d.length : Int) + 1) (by omega) (by omega), if_pos rfl, if_pos rfl, if_pos (by dsimp only; omega)]
  have h := ih (d ++ [⟨a, a + 1, a + 2⟩]) (a + 3) (by omega) (by omega) (by simp; omega) k (by omega)
  simp only [List.append_assoc, List.singleton_append, List.length_append, List.length_singleton] at h
  have e2 : a + 1 + 1 + 1 = a + 3 := by omega
  rw [e2]
  push_cast at h ⊢
  rw [h]
  congr 1
  omega
theorem total_cons {α : Type} (b : List α) (l : List (List α)) : total (b :: l) = b.length + total l := by simp [total]
theorem markSS_g (k : Nat) (hk : 10000000 < k) : ∀ (l : List (List S72)) (a : Int), 0 ≤ a → a + 3 * total l ≤ 1000000000 → total l ≤ 2000000 → laws_markStepSS.g k l a = some (a + 3 * total l, marks a l) := by
 intro l
 induction l with
 | nil => intro a _ _ _; simp [laws_markStepSS.g, marks, total]
 | cons b l ih =>
  intro a h0 h1 h2
  rw [total_cons] at h1 h2
  have h := markStepS_l b [] a h0 (by push_cast at h1 ⊢; omega) (by simp; omega) k (by omega)
  simp only [List.nil_append, List.length_nil, Int.natCast_zero] at h
  rw [laws_markStepSS.g, laws_markStepS.f, h, Option.bind_some]
  dsimp only
  rw [ih (a + 3 * b.length) (by omega) (by push_cast at h1 ⊢; omega) (by omega), Option.bind_some, marks, total_cons]
  dsimp only
  congr 2
  push_cast
  omega
theorem heldSS_l : ∀ (l d : List (List S72)) (a : Int), 0 ≤ a → a + 3 * total l ≤ 1000000000 → total l ≤ 2000000 → d.length + l.length ≤ 2000000 → ∀ k, 10000000 + l.length < k → laws_heldStepSS.l0 k (d ++ marks a l) a d.length = some (a + 3 * total l) := by
 intro l
 induction l with
 | nil =>
  intro d a h0 h1 h2 h3 k hk
  obtain ⟨k, rfl⟩ : ∃ z, k = z + 1 := ⟨k - 1, by omega⟩
  rw [laws_heldStepSS.l0, if_neg (by simp [marks])]
  simp [total]
 | cons b l ih =>
  intro d a h0 h1 h2 h3 k hk
  rw [total_cons] at h1 h2
  simp only [List.length_cons] at h3 hk
  obtain ⟨k, rfl⟩ : ∃ z, k = z + 1 := ⟨k - 1, by omega⟩
  have h := heldStepS_l b.length [] a h0 (by push_cast at h1 ⊢; omega) (by simp; omega) k (by omega)
  simp only [List.nil_append, List.length_nil, Int.natCast_zero] at h
  rw [marks, laws_heldStepSS.l0, if_pos (by simp; omega), if_pos (by omega), rd4_mid, laws_heldStepS.f, h, Option.bind_some, if_neg (by omega), wrap_in (i := (d.length : Int) + 1) (by omega) (by omega)]
  have h4 := ih (d ++ [mk3 a b.length]) (a + 3 * b.length) (by omega) (by push_cast at h1 ⊢; omega) (by omega) (by simp; omega) k (by omega)
  simp only [List.append_assoc, List.singleton_append, List.length_append, List.length_singleton] at h4
  push_cast at h4 ⊢
  rw [h4, total_cons]
  congr 1
  push_cast
  omega
theorem mark_ok (l : List (List S72)) (h : total l ≤ 1048576) (k : Nat) (hk : 20000000 < k) : laws_markStepSS.f k l 1 = some (1 + 3 * (total l : Int), marks 1 l) := markSS_g k (by omega) l 1 (by omega) (by omega) (by omega)
theorem held_ok (l : List (List S72)) (f c : Int) (h : total l ≤ 1048576) (hl : l.length ≤ 1048576) (k : Nat) (hk : 20000000 < k) : laws_heldBench.f k (marks 1 l) f c 1 = some (1 + 3 * (total l : Int)) := by
 have h1 := heldSS_l l [] 1 (by omega) (by omega) (by omega) (by simp; omega) k (by omega)
 simp only [List.nil_append, List.length_nil, Int.natCast_zero] at h1
 unfold laws_heldBench.f laws_heldProgram.f laws_heldStepSS.f
 rw [h1, Option.bind_some, if_neg (by omega), Option.bind_some, if_neg (by omega)]
theorem sin_eq (a b c : Int) : spec_l1In.f a b c = some (decide (b ≤ a ∧ a ≤ c)) := by
 unfold spec_l1In.f
 by_cases h : a ≥ b
 ·rw [if_pos h]; simp [show b ≤ a from h]
 ·rw [if_neg h]; simp [show ¬ b ≤ a from h]
theorem sStep_eq (l : List (List S72)) (s : S72) (hl : l.length ≤ 6) (k : Nat) (hk : 2 < k) : spec_l2Step.f k l s.f0 s.f1 s.f2 = some (stepOk (l.length : Int) s) := by
 obtain ⟨a, b, c⟩ := s
 obtain ⟨k, rfl⟩ : ∃ z, k = z + 1 := ⟨k - 1, by omega⟩
 obtain ⟨k, rfl⟩ : ∃ z, k = z + 1 := ⟨k - 1, by omega⟩
 have hw : wrap64 ((l.length : Int) - 1) = (l.length : Int) - 1 := wrap_in (by omega) (by omega)
 simp only [stepOk, spec_l2Step.f, spec_l2Step.j0, spec_l2Step.j1, spec_l2Reg.f, spec_l2Number.f, spec_l2Function.f, sin_eq, Option.bind_some, hw]
 generalize (l.length : Int) = n
 by_cases k1 : a = 1
 ·subst k1
  rw [if_pos rfl]
  by_cases hb : 0 ≤ b ∧ b ≤ 3 <;> by_cases hc : -32768 ≤ c ∧ c ≤ 32767 <;> simp [hb, hc]
 rw [if_neg k1]
 by_cases k2 : a = 2
 ·subst k2
  rw [if_pos rfl]
  by_cases hb : 0 ≤ b ∧ b ≤ 3 <;> by_cases hc : 0 ≤ c ∧ c ≤ 3 <;> simp [hb, hc]
 rw [if_neg k2]
 by_cases k4 : a = 4
 ·subst k4
  rw [if_pos rfl]
  by_cases hb : 0 ≤ b ∧ b ≤ n - 1 <;> by_cases hc : 0 ≤ c ∧ c ≤ 3 <;> simp [hb, hc]
 rw [if_neg k4]
 by_cases k5 : a = 5
 ·subst k5
  by_cases hb : 0 ≤ b ∧ b ≤ n - 1 <;> by_cases hc : 0 ≤ c ∧ c ≤ 3 <;> simp [hb, hc]
 have e5 : (a == 5) = false := by simp [k5]
 rw [e5, if_neg (by simp)]
 by_cases k10 : a = 10
 ·subst k10
  by_cases hb : b = 0 <;> by_cases hc : c = 0 <;> simp [hb, hc]
 by_cases k11 : a = 11
 ·subst k11
  by_cases hb : 0 ≤ b ∧ b ≤ 8 <;> by_cases hc : 0 ≤ c ∧ c ≤ 3 <;> simp [hb, hc]
 by_cases hb : 0 ≤ b ∧ b ≤ 3 <;> by_cases hc : c = 0 <;> by_cases k3 : a = 3 <;> by_cases k6 : a = 6 <;> by_cases k7 : a = 7 <;> by_cases k8 : a = 8 <;> by_cases k9 : a = 9 <;> by_cases k12 : a = 12 <;> by_cases k13 : a = 13 <;> simp_all
 all_goals (have hq : ¬ (0 ≤ b ∧ b ≤ 3) := fun h => by have := hb h.1; omega)
 all_goals (rw [if_neg hq, ← Bool.decide_and, decide_eq_false hq])
theorem prog_l1 (l : List (List S72)) (hl : l.length ≤ 6) (i : Nat) (hi : i < l.length) (hb : l[i].length ≤ 8) : ∀ (d j : Nat), d + j = l[i].length → ∀ k, 10 + d < k →
  ∃ k', k ≤ k' + d + 1 ∧ spec_l2Program.l1 k i j l = if ((l[i].drop j).all (stepOk (l.length : Int))) = true then spec_l2Program.l0 k' ((i + 1 : Nat) : Int) l else some false := by
 intro d
 induction d with
 | zero =>
  intro j hd k hk
  obtain ⟨k, rfl⟩ : ∃ z, k = z + 1 := ⟨k - 1, by omega⟩
  refine ⟨k, by omega, ?_⟩
  rw [spec_l2Program.l1, if_pos (by omega), if_pos (by omega), rd4_at l i hi, if_neg (by omega), wrap_in (by omega) (by omega), List.drop_eq_nil_of_le (by omega)]
  simp
 | succ d ih =>
  intro j hd k hk
  obtain ⟨k, rfl⟩ : ∃ z, k = z + 1 := ⟨k - 1, by omega⟩
  have hj : j < l[i].length := by omega
  obtain ⟨k', h1, h2⟩ := ih (j + 1) (by omega) k (by omega)
  have hdrop : l[i].drop j = l[i][j] :: l[i].drop (j + 1) := List.drop_eq_getElem_cons hj
  refine ⟨k', by omega, ?_⟩
  rw [spec_l2Program.l1, if_pos (by omega), if_pos (by omega), rd4_at l i hi, if_pos (by omega), if_pos (by omega), rd72_at _ j hj, sStep_eq l l[i][j] hl k (by omega), Option.bind_some, wrap_in (by omega) (by omega), hdrop]
  cases hs : stepOk (l.length : Int) l[i][j] with
  | true =>
   rw [if_pos rfl, List.all_cons, hs, Bool.true_and]
   exact_mod_cast h2
  | false =>
   rw [if_neg (by simp), List.all_cons, hs, Bool.false_and, if_neg (by simp)]
theorem prog_l0 (l : List (List S72)) (hl : l.length ≤ 6) : ∀ (d i : Nat), d + i = l.length → ∀ k, 100 * d + 20 < k → spec_l2Program.l0 k i l = some ((l.drop i).all (bodyOk (l.length : Int))) := by
 intro d
 induction d with
 | zero =>
  intro i hd k hk
  obtain ⟨k, rfl⟩ : ∃ z, k = z + 1 := ⟨k - 1, by omega⟩
  rw [spec_l2Program.l0, if_neg (by omega), List.drop_eq_nil_of_le (by omega)]
  rfl
 | succ d ih =>
  intro i hd k hk
  obtain ⟨k, rfl⟩ : ∃ z, k = z + 1 := ⟨k - 1, by omega⟩
  have hi : i < l.length := by omega
  have hdrop : l.drop i = l[i] :: l.drop (i + 1) := List.drop_eq_getElem_cons hi
  rw [spec_l2Program.l0, if_pos (by omega), if_pos (by omega), rd4_at l i hi, hdrop, List.all_cons]
  by_cases h8 : l[i].length ≤ 8
  ·obtain ⟨k', h1, h2⟩ := prog_l1 l hl i hi h8 l[i].length 0 (by omega) k (by omega)
   rw [Int.natCast_zero, List.drop_zero] at h2
   have hk : bodyOk (l.length : Int) l[i] = l[i].all (stepOk (l.length : Int)) := by unfold bodyOk; rw [decide_eq_true h8, Bool.true_and]
   rw [if_neg (by omega), h2, hk]
   cases ha : l[i].all (stepOk (l.length : Int)) with
   | true => rw [if_pos rfl, Bool.true_and]; exact ih (i + 1) (by omega) k' (by omega)
   | false => rw [if_neg (by simp), Bool.false_and]
  ·have hk : bodyOk (l.length : Int) l[i] = false := by unfold bodyOk; rw [decide_eq_false h8, Bool.false_and]
   rw [if_pos (by omega), hk, Bool.false_and]
theorem program_ok (l : List (List S72)) (k : Nat) (hk : 1000 < k) : spec_l2Program.f k l = some (progOk l) := by
 unfold spec_l2Program.f progOk
 rw [sin_eq, Option.bind_some]
 by_cases h : 1 ≤ l.length ∧ l.length ≤ 6
 ·have := prog_l0 l h.2 l.length 0 (by omega) k (by omega)
  rw [Int.natCast_zero, List.drop_zero] at this
  rw [decide_eq_true (by omega), if_pos rfl, this, decide_eq_true h.1, decide_eq_true h.2]
  rfl
 ·rw [decide_eq_false (by omega), if_neg (by simp)]
  by_cases h1 : 1 ≤ l.length
  ·rw [decide_eq_false (show ¬ l.length ≤ 6 by omega)]; simp
  ·rw [decide_eq_false h1]; simp
end Go.Proofs.Ythdhhpcbagpmgaa.PureL
end

section
set_option linter.unusedVariables false
set_option linter.unusedSimpArgs false
namespace Go.Proofs.Ythdhhpcbagpmgaa.PureL
open Go.RowKit Go.Proofs.Ythdhhpcbagpmgaa.Pr Go.Proofs.YthdhhpcbagpmgaaW.PrintWords Go.Proofs.YthdhhpcbagpmgaaW.PrintLast
theorem total_toP (l : List (List S69)) : total (toP l) = total l := by
 unfold total toP
 rw [List.map_map]
 congr 1
 apply List.map_congr_left
 intro b _
 simp
theorem mem_total {α : Type} : ∀ (l : List (List α)) (b : List α), b ∈ l → b.length ≤ total l := by
 intro l
 induction l with
 | nil => intro b h; cases h
 | cons c l ih =>
  intro b h
  rw [total_cons]
  rcases List.mem_cons.1 h with h | h
  ·subst h; omega
  ·have := ih b h; omega
end Go.Proofs.Ythdhhpcbagpmgaa.PureL
end

section
set_option linter.unusedVariables false
set_option linter.unusedSimpArgs false
namespace Go.Proofs.Ythdhhpcbagpmgaa.PureL
open Go.RowKit Go.Proofs.Ythdhhpcbagpmgaa.Pr Go.Proofs.YthdhhpcbagpmgaaW.PrintWords Go.Proofs.YthdhhpcbagpmgaaW.PrintLast
def NC (p : List (List S72)) (u v : Int) : List (List S72) × Int × Int × ByteArray × ByteArray × Int × Bool := if progOk p = true ∧ (0 ≤ u ∧ u ≤ 200) ∧ 0 ≤ v ∧ v ≤ 1000 then (p, u, v, ⟨#[]⟩, ⟨#[]⟩, 0, true) else ([], 0, 0, ⟨#[]⟩, ⟨#[]⟩, 0, false)
theorem newConsole_A (p : List (List S72)) (u v : Int) (hl : p.length ≤ 1048576) (hb : ∀ b ∈ p, b.length ≤ 1048576) (k : Nat) (hk : 20000000 < k) :
  spec_NewConsole.f k p u v = some (NC p u v) ∧ impl_NewConsole.f k p u v = some (NC p u v) := by
 unfold spec_NewConsole.f impl_NewConsole.f spec_l12Good.f impl_IsBench.f spec_l12Own.f impl_Bench_copied.f impl_IsProgram.f NC
 rw [program_ok p k (by omega), own_ok p hl hb k (by omega), copied_ok p hl hb k (by omega), sin_eq, in_eq, sin_eq, in_eq]
 simp only [Option.bind_some]
 cases hp : progOk p with
 | false => simp
 | true =>
  by_cases hf : 0 ≤ u ∧ u ≤ 200
  ·by_cases hv : 0 ≤ v ∧ v ≤ 1000
   ·simp [hf, hv]
   ·simp [hf, hv]
  ·simp [hf]
theorem FnExactNewConsole (A0 : Option Addr) (c0 : Nat) (l0 : List (List S69)) (u v : Int) (w : World) (hr0 : Kd.C (Kd.slice 69 k69) w A0 l0.length l0) (hc0 : l0.length ≤ c0) (hb : ∀ b ∈ l0, b.length ≤ 9223372036854775807) (hl : l0.length ≤ 9223372036854775807) :
  Calls Try.prog 4 #[.agg #[.slice A0 l0.length c0, .int .i64 u, .int .i64 v]] w fun e w' => e = .returned (.bool true) ∧ Below w.heap.size w w' := by
 obtain ⟨sz, h1, h2⟩ := szProgram_ok l0 hb hl
 obtain ⟨k, hk⟩ : ∃ k, 30000000 + l0.length < k := ⟨_, Nat.lt_succ_self _⟩
 by_cases h0 : sz < 0
 ·have hz : laws_szBench.f k l0 u v 1048576 = some (-1) := by
   unfold laws_szBench.f
   rw [h1 k (by omega), Option.bind_some, if_pos h0]
  exact newConsole_big k A0 c0 l0 u v w hr0 hc0 (-1) hz (by omega)
 ·have hz : laws_szBench.f k l0 u v 1048576 = some sz := by
   unfold laws_szBench.f
   rw [h1 k (by omega), Option.bind_some, if_neg h0]
  have hs := h2 (by omega)
  have hb2 : ∀ b ∈ l0, b.length ≤ 1048576 := fun b hb => by have := mem_total l0 b hb; omega
  have hpl : (toP l0).length ≤ 1048576 := by unfold toP; rw [List.length_map]; omega
  have htp : total (toP l0) ≤ 1048576 := by rw [total_toP]; omega
  have hpb : ∀ b ∈ toP l0, b.length ≤ 1048576 := fun b hb => by have := mem_total _ b hb; omega
  have hT : laws_toBench.f k l0 u v = some (toP l0, u, v) := by
   unfold laws_toBench.f
   rw [toProgram_ok l0 (by omega) hb2 k (by omega), Option.bind_some]
  obtain ⟨n1, n2⟩ := newConsole_A (toP l0) u v hpl hpb k (by omega)
  have hN : (NC (toP l0) u v).1.length ≤ 1048576 ∧ total (NC (toP l0) u v).1 ≤ 1048576 := by
   unfold NC
   split
   ·exact ⟨hpl, htp⟩
   ·simp [total]
  generalize NC (toP l0) u v = R at n1 n2 hN
  obtain ⟨b, f, c, s1, s2, n, o⟩ := R
  dsimp only at hN
  have hbb : ∀ x ∈ b, x.length ≤ 1048576 := fun x hx => by have := mem_total _ x hx; omega
  have hE : laws_eqConsole.f k b f c s1 s2 n b f c s1 s2 n = some true := by
   unfold laws_eqConsole.f laws_eqBench.f laws_eqLog.f
   rw [eqProgram_ok b hN.1 hbb k (by omega), Option.bind_some, if_pos rfl, if_pos rfl, if_pos rfl, Option.bind_some, if_pos rfl, if_pos rfl, if_pos rfl, if_pos rfl, Option.bind_some, if_pos rfl]
  have hEp : laws_eqBench.f k (toP l0) u v (toP l0) u v = some true := by
   unfold laws_eqBench.f
   rw [eqProgram_ok _ hpl hpb k (by omega), Option.bind_some, if_pos rfl, if_pos rfl, if_pos rfl]
  have hH : laws_heldConsole.f k (marks 1 b) f c s1 s2 n 1 = some (1 + 3 * (total b : Int)) := by
   unfold laws_heldConsole.f
   rw [held_ok b f c hN.2 hN.1 k (by omega), Option.bind_some, if_neg (by omega)]
  exact newConsole_walk k A0 c0 l0 u v w hr0 hc0 sz (toP l0) b f c s1 s2 n o _ _ _ _ hz (by omega) hT n1 n2 hE hEp (mark_ok _ htp k (by omega)) (by omega) (mark_ok b hN.2 k (by omega)) hH (by omega)
end Go.Proofs.Ythdhhpcbagpmgaa.PureL
end

section
namespace Go.Proofs.Ythdhhpcbagpmgaa.PureL
open Go.RowKit Go.Proofs.Ythdhhpcbagpmgaa.Pr Go.Proofs.YthdhhpcbagpmgaaW.PrintWords Go.Proofs.YthdhhpcbagpmgaaW.PrintLast Go.ChangeShapes Go.WideShapes
set_option linter.unusedVariables false
set_option linter.unusedSimpArgs false
section
variable {H : Type} {enc : TypeId × Value → H} {w : World} {base : Nat} {spare : Nat → Bool} {held : Bool}
def Opens {α : Type} (enc : TypeId × Value → H) (w : World) (base : Nat) (spare : Nat → Bool) (held : Bool) (d : Kd α) (t : TypeId) (good : α → Prop) : Prop :=
 ∀ (fuel : Nat) (cs : List Value) (x : DataW H × List MemPlace), DataW.trod enc Try.prog w base spare held fuel t cs = some x → ∃ y, d.K w y cs ∧ good y
theorem opens_slice {α : Type} {d : Kd α} {t e : TypeId} {good : α → Prop} (ht : Try.prog.underlying t = some (.slice e)) (hc : Try.prog.cellsOf e = d.sz) (h : Opens enc w base spare held d e good) :
  Opens enc w base spare held (Kd.slice e d) t (fun l => l.length ≤ maxLen ∧ ∀ y ∈ l, good y) := by
 intro fuel cs x hx
 rcases DataW.trod_slice ht hx with ⟨rfl, _⟩ | ⟨a, len, cap, elems, rest, n, _, rfl, _, hb, hl, hm, hlen, hel, _, _⟩
 ·exact ⟨[], ⟨none, 0, rfl, Nat.le_refl _, rfl, by simp, fun h => absurd h (by simp)⟩, by simp, by simp⟩
 ·have each : ∀ i, i < len → ∃ y, (∃ c, c.length = d.sz ∧ d.K w y c ∧ ∀ q u, c[q]? = some u → w.cell? (a.add (i * d.sz + q)) = some u) ∧ good y := by
   intro i hi
   have he := hel i hi
   rw [List.getElem?_eq_getElem (by omega), Option.bind_eq_some_iff] at he
   obtain ⟨c, hcs, hy⟩ := he
   obtain ⟨y, hK, hg⟩ := h n c _ hy
   obtain ⟨_, hcl, hcell⟩ := World.cells?_some hcs
   rw [hc] at hcl hcell
   refine ⟨y, ⟨c, hcl, hK, fun q u hq => ?_⟩, hg⟩
   have hq' : q < c.length := (List.getElem?_eq_some_iff.1 hq).1
   have := hcell q (by omega)
   rw [hq, Addr.add_add] at this
   exact this
  have build : ∀ m, m ≤ len → ∃ l : List α, l.length = m ∧ (∀ j p, l[j]? = some p → ∃ c, c.length = d.sz ∧ d.K w p c ∧ ∀ q u, c[q]? = some u → w.cell? (a.add (j * d.sz + q)) = some u) ∧ ∀ y ∈ l, good y := by
   intro m
   induction m with
   | zero => intro _; exact ⟨[], rfl, fun j p h => by simp at h, by simp⟩
   | succ m ih =>
    intro hm
    obtain ⟨l, h1, h2, h3⟩ := ih (by omega)
    obtain ⟨y, hy, hg⟩ := each m (by omega)
    refine ⟨l ++ [y], by simp [h1], fun j p hp => ?_, fun z hz => ?_⟩
    ·by_cases hj : j < l.length
     ·rw [List.getElem?_append_left hj] at hp; exact h2 j p hp
     ·have hj2 : j < (l ++ [y]).length := (List.getElem?_eq_some_iff.1 hp).1
      have hjm : j = m := by simp only [List.length_append, List.length_singleton] at hj2; omega
      subst hjm
      rw [List.getElem?_append_right (by omega), h1, Nat.sub_self] at hp
      simp only [List.getElem?_cons_zero, Option.some.injEq] at hp
      subst hp
      exact hy
    ·rcases List.mem_append.1 hz with hz | hz
     ·exact h3 z hz
     ·rw [List.mem_singleton] at hz; subst hz; exact hg
  obtain ⟨l, h1, h2, h3⟩ := build len (Nat.le_refl _)
  have hmx : maxLen ≤ 9223372036854775807 := by simp only [maxLen]; decide
  refine ⟨l, ⟨some a, cap, by rw [h1], by omega, h1 ▸ rfl, by omega, fun _ => ⟨a, rfl, h2⟩⟩, by omega, h3⟩
set_option maxRecDepth 100000 in
theorem opens_step : Opens enc w base spare held k69 69 (fun s => (Lit.int .i64 s.f0).wf = true ∧ (Lit.int .i64 s.f1).wf = true ∧ (Lit.int .i64 s.f2).wf = true) := by
 intro fuel cs x hx
 obtain ⟨xs, n, _, _, hl, hlen, hf⟩ := DataW.trod_struct Try.underlying69 hx
 have hcl : cs.length = 3 := hl.trans (by kernel_rfl)
 have h3 : Try.prog.cellsOf 3 = 1 := by kernel_rfl
 have h0 := hf 0 { name := "Kind", type := 3, offset := 0, embedded := false, tag := "", pkgPath := "", byteOffset := 0 } rfl
 have h1 := hf 1 { name := "A", type := 3, offset := 1, embedded := false, tag := "", pkgPath := "", byteOffset := 8 } rfl
 have h2 := hf 2 { name := "B", type := 3, offset := 2, embedded := false, tag := "", pkgPath := "", byteOffset := 16 } rfl
 have hx3 : xs.length = 3 := hlen
 match cs, hcl with
 | [c0, c1, c2], _ =>
  dsimp only at h0 h1 h2
  rw [h3] at h0 h1 h2
  rw [List.getElem?_eq_getElem (by omega)] at h0 h1 h2
  obtain ⟨n0, e0, _, w0⟩ := DataW.trod_int Try.underlying3 h0
  obtain ⟨n1, e1, _, w1⟩ := DataW.trod_int Try.underlying3 h1
  obtain ⟨n2, e2, _, w2⟩ := DataW.trod_int Try.underlying3 h2
  simp at e0 e1 e2
  subst e0 e1 e2
  exact ⟨⟨n0, n1, n2⟩, k69_mk w ⟨n0, n1, n2⟩, w0, w1, w2⟩
theorem opens_body : Opens enc w base spare held (Kd.slice 69 k69) 138 (fun l => l.length ≤ maxLen ∧ ∀ s ∈ l, (Lit.int .i64 s.f0).wf = true ∧ (Lit.int .i64 s.f1).wf = true ∧ (Lit.int .i64 s.f2).wf = true) :=
 opens_slice Try.underlying138 (by kernel_rfl) opens_step
theorem opens_bodies : Opens enc w base spare held (Kd.slice 138 (Kd.slice 69 k69)) 22 (fun l => l.length ≤ maxLen ∧ ∀ b ∈ l, b.length ≤ maxLen ∧ ∀ s ∈ b, (Lit.int .i64 s.f0).wf = true ∧ (Lit.int .i64 s.f1).wf = true ∧ (Lit.int .i64 s.f2).wf = true) :=
 opens_slice Try.underlying22 (by kernel_rfl) opens_body
set_option maxRecDepth 100000 in
theorem open_program {fuel : Nat} {cs : List Value} {x : DataW H × List MemPlace} (h : DataW.trod enc Try.prog w base spare held fuel 24 cs = some x) :
  ∃ (l : List (List S69)) (A : Option Addr) (c : Nat), cs = [.slice A l.length c] ∧ l.length ≤ c ∧ Kd.C (Kd.slice 69 k69) w A l.length l ∧ l.length ≤ maxLen ∧ ∀ b ∈ l, b.length ≤ maxLen ∧ ∀ s ∈ b, (Lit.int .i64 s.f0).wf = true ∧ (Lit.int .i64 s.f1).wf = true ∧ (Lit.int .i64 s.f2).wf = true := by
 obtain ⟨y0, n, _, hl, hy⟩ := trod_struct1 Try.underlying24 h
 have hcl : cs.length = 1 := hl.trans (by kernel_rfl)
 have h22 : Try.prog.cellsOf 22 = 1 := by kernel_rfl
 match cs, hcl with
 | [v], _ =>
  rw [h22] at hy
  obtain ⟨l, ⟨A, c, e, hc, hC⟩, hg⟩ := opens_bodies n _ _ hy
  simp at e
  subst e
  exact ⟨l, A, c, rfl, hc, hC, hg⟩
set_option maxRecDepth 100000 in
theorem open_bench {fuel : Nat} {cs : List Value} {x : DataW H × List MemPlace} (h : DataW.trod enc Try.prog w base spare held fuel 40 cs = some x) :
  ∃ (l : List (List S69)) (A : Option Addr) (c : Nat) (u v : Int), cs = [.slice A l.length c, .int .i64 u, .int .i64 v] ∧ l.length ≤ c ∧ Kd.C (Kd.slice 69 k69) w A l.length l ∧ l.length ≤ maxLen ∧ ∀ b ∈ l, b.length ≤ maxLen := by
 obtain ⟨xs, n, _, _, hl, hlen, hf⟩ := DataW.trod_struct Try.underlying40 h
 have hcl : cs.length = 3 := hl.trans (by kernel_rfl)
 have h3 : Try.prog.cellsOf 3 = 1 := by kernel_rfl
 have h24 : Try.prog.cellsOf 24 = 1 := by kernel_rfl
 have g0 := hf 0 { name := "Program", type := 24, offset := 0, embedded := false, tag := "", pkgPath := "", byteOffset := 0 } rfl
 have g1 := hf 1 { name := "Fuel", type := 3, offset := 1, embedded := false, tag := "", pkgPath := "", byteOffset := 24 } rfl
 have g2 := hf 2 { name := "Count", type := 3, offset := 2, embedded := false, tag := "", pkgPath := "", byteOffset := 32 } rfl
 have hx3 : xs.length = 3 := hlen
 match cs, hcl with
 | [c0, c1, c2], _ =>
  dsimp only at g0 g1 g2
  rw [h24] at g0
  rw [h3] at g1 g2
  rw [List.getElem?_eq_getElem (by omega)] at g0 g1 g2
  obtain ⟨l, A, c, e0, hc, hC, hm, hg⟩ := open_program g0
  obtain ⟨n1, e1, _, _⟩ := DataW.trod_int Try.underlying3 g1
  obtain ⟨n2, e2, _, _⟩ := DataW.trod_int Try.underlying3 g2
  simp at e0 e1 e2
  subst e0 e1 e2
  exact ⟨l, A, c, n1, n2, rfl, hc, hC, hm, fun b hb => (hg b hb).1⟩
end
end Go.Proofs.Ythdhhpcbagpmgaa.PureL
end
