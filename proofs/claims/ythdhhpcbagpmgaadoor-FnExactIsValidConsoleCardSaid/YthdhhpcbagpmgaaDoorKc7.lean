-- texts of this session, and of the kit's print, cut to what the claim leans on
import Derived.Test.YthdhhpcbagpmgaaDoorKc4
import Derived.Test.YthdhhpcbagpmgaaDoorKc5
import Derived.Test.YthdhhpcbagpmgaaDoorKc6
import Derived.Test.YthdhhpcbagpmgaaDoorKc2
import Derived.Test.YthdhhpcbagpmgaaDoorKc3
import Derived.ChangeSame
import Derived.ChangeSlices
import Derived.Deep.Strs
section
namespace Go.Proofs.YthdhhpcbagpmgaaDoor.Pr
open Go.RowKit Go.Proofs.YthdhhpcbagpmgaaDoorW.PrintWords Go.Proofs.YthdhhpcbagpmgaaDoorW.PrintLast Go.Proofs.YthdhhpcbagpmgaaDoorW.PrintMore
attribute [local go_sem] max2_int min2_int max_two min_two max_three min_three max_four min_four
set_option linter.unusedVariables false
set_option linter.unusedSimpArgs false
def laws_FnExactIsValidConsole.f (k : Nat) (l0_0 : List (List (S99))) (a0_1 : Int) (a0_2 : Int) (a0_3 : ByteArray) (a0_4 : ByteArray) (a0_5 : Int) : Option (Bool) := (laws_szConsole.f k l0_0 a0_1 a0_2 a0_3 a0_4 a0_5 1048576).bind fun t321 => (if t321 < 0 then (some true) else ((laws_toConsole.f k l0_0 a0_1 a0_2 a0_3 a0_4 a0_5).bind fun bt322 => ((spec_IsValidConsole.f k bt322.1 bt322.2.1 bt322.2.2.1 bt322.2.2.2.1 bt322.2.2.2.2.1 bt322.2.2.2.2.2).bind fun t330 => ((laws_toConsole.f k l0_0 a0_1 a0_2 a0_3 a0_4 a0_5).bind fun bt331 => ((impl_IsValidConsole.f k bt331.1 bt331.2.1 bt331.2.2.1 bt331.2.2.2.1 bt331.2.2.2.2.1 bt331.2.2.2.2.2).bind fun t340 => (if (t340 != t330) = true then (some false) else ((laws_toConsole.f k l0_0 a0_1 a0_2 a0_3 a0_4 a0_5).bind fun bt341 => ((laws_eqConsole.f k bt331.1 bt331.2.1 bt331.2.2.1 bt331.2.2.2.1 bt331.2.2.2.2.1 bt331.2.2.2.2.2 bt341.1 bt341.2.1 bt341.2.2.1 bt341.2.2.2.1 bt341.2.2.2.2.1 bt341.2.2.2.2.2).bind fun t349 => (if t349 = true then (some true) else (some false))))))))))
set_option maxHeartbeats 8000000 in
set_option maxRecDepth 100000 in
theorem laws_FnExactIsValidConsole.calls (k : Nat) (A0_0 : Option Addr) (c0_0 : Nat) (l0_0 : List (List (S99))) (a0_1 : Int) (a0_2 : Int) (a0_3 : ByteArray) (a0_4 : ByteArray) (a0_5 : Int) (r : Bool) (w : World) (hr0_0 : Kd.C (Kd.slice 99 k99) w A0_0 l0_0.length l0_0) (hc0_0 : l0_0.length ≤ c0_0) (hgl : Glob w) (h : laws_FnExactIsValidConsole.f k l0_0 a0_1 a0_2 a0_3 a0_4 a0_5 = some r) :
  Calls Tryd.prog 3 #[.agg #[.slice A0_0 l0_0.length c0_0, .int .i64 a0_1, .int .i64 a0_2, .string a0_3, .string a0_4, .int .i64 a0_5]] w fun e w' => e = .returned (.bool r) ∧ Below w.heap.size w w' := by
 have hu30 := Tryd.underlying30
 have hu40 := Tryd.underlying40
 have HR0_0 := am hr0_0
 have HC0_0 := am hc0_0
 clear hr0_0 hc0_0
 have HB := am (Below.refl w.heap.size w)
 have HGL := am hgl
 clear hgl
 have H : ((laws_szConsole.f k l0_0 a0_1 a0_2 a0_3 a0_4 a0_5 1048576).bind fun t321 => (if t321 < 0 then (some true) else ((laws_toConsole.f k l0_0 a0_1 a0_2 a0_3 a0_4 a0_5).bind fun bt322 => ((spec_IsValidConsole.f k bt322.1 bt322.2.1 bt322.2.2.1 bt322.2.2.2.1 bt322.2.2.2.2.1 bt322.2.2.2.2.2).bind fun t330 => ((laws_toConsole.f k l0_0 a0_1 a0_2 a0_3 a0_4 a0_5).bind fun bt331 => ((impl_IsValidConsole.f k bt331.1 bt331.2.1 bt331.2.2.1 bt331.2.2.2.1 bt331.2.2.2.2.1 bt331.2.2.2.2.2).bind fun t340 => (if (t340 != t330) = true then (some false) else ((laws_toConsole.f k l0_0 a0_1 a0_2 a0_3 a0_4 a0_5).bind fun bt341 => ((laws_eqConsole.f k bt331.1 bt331.2.1 bt331.2.2.1 bt331.2.2.2.1 bt331.2.2.2.2.1 bt331.2.2.2.2.2 bt341.1 bt341.2.1 bt341.2.2.1 bt341.2.2.2.1 bt341.2.2.2.2.1 bt341.2.2.2.2.2).bind fun t349 => (if t349 = true then (some true) else (some false))))))))))) = some r := h
 clear h
 replace H := bem H
 obtain ⟨t321, A20, H⟩ := H
 replace H : (if t321 < 0 then (some true) else ((laws_toConsole.f k l0_0 a0_1 a0_2 a0_3 a0_4 a0_5).bind fun bt322 => ((spec_IsValidConsole.f k bt322.1 bt322.2.1 bt322.2.2.1 bt322.2.2.2.1 bt322.2.2.2.2.1 bt322.2.2.2.2.2).bind fun t330 => ((laws_toConsole.f k l0_0 a0_1 a0_2 a0_3 a0_4 a0_5).bind fun bt331 => ((impl_IsValidConsole.f k bt331.1 bt331.2.1 bt331.2.2.1 bt331.2.2.2.1 bt331.2.2.2.2.1 bt331.2.2.2.2.2).bind fun t340 => (if (t340 != t330) = true then (some false) else ((laws_toConsole.f k l0_0 a0_1 a0_2 a0_3 a0_4 a0_5).bind fun bt341 => ((laws_eqConsole.f k bt331.1 bt331.2.1 bt331.2.2.1 bt331.2.2.2.1 bt331.2.2.2.2.1 bt331.2.2.2.2.2 bt341.1 bt341.2.1 bt341.2.2.1 bt341.2.2.2.1 bt341.2.2.2.2.1 bt341.2.2.2.2.2).bind fun t349 => (if t349 = true then (some true) else (some false)))))))))) = some r := H
 have A2 := am A20
 clear A20
 by_cases c3 : t321 < 0
 ·rw [if_pos c3] at H
  have c3b0 : decide (t321 < 0) = true := decide_eq_true c3
  clear c3
  obtain rfl := Option.some.inj H
  go_enter Tryd.func3, Tryd.ntmps3
  go_wp2_with (first | ((with_reducible refine gate_dst (N := 1) rfl ?_); refine box_event ?hg (N := 1) ?hd (cs := #[.slice A0_0 l0_0.length c0_0, .int .i64 a0_1, .int .i64 a0_2, .string a0_3, .string a0_4, .int .i64 a0_5]) (t := 30) ?hr ?_; (case hd => rfl); (case hg => rfl); (case hr => first | (go_simp; done) | (go_simp; rfl)); intro gb320 hg w4 hbox hb; have n0_ := am (below_step zq0 hb); have n1_ := am (hbox); have n2_ := am ((zq4 : w.heap.size ≤ gb320)); have n3_ := am ((zq4 : w.heap.size ≤ gb320)); clear HB; have HB := n0_; have BK320 := n1_; have GW320 := n2_; have GE320 := n3_; clear n0_ n1_ n2_ n3_; clear hb hbox hg; have hcz5_0 : w4.cell? ⟨gb320, 0, none⟩ = some (.slice A0_0 l0_0.length c0_0) := (blk_cell BK320.out 0).trans rfl; have hcz5_1 : w4.cell? ⟨gb320, 1, none⟩ = some (.int .i64 a0_1) := (blk_cell BK320.out 1).trans rfl; have hcz5_2 : w4.cell? ⟨gb320, 2, none⟩ = some (.int .i64 a0_2) := (blk_cell BK320.out 2).trans rfl; have hcz5_3 : w4.cell? ⟨gb320, 3, none⟩ = some (.string a0_3) := (blk_cell BK320.out 3).trans rfl; have hcz5_4 : w4.cell? ⟨gb320, 4, none⟩ = some (.string a0_4) := (blk_cell BK320.out 4).trans rfl; have hcz5_5 : w4.cell? ⟨gb320, 5, none⟩ = some (.int .i64 a0_5) := (blk_cell BK320.out 5).trans rfl; have hfz5_0 := blk_frozen BK320.out 0; have hfz5_1 := blk_frozen BK320.out 1; have hfz5_2 := blk_frozen BK320.out 2; have hfz5_3 := blk_frozen BK320.out 3; have hfz5_4 := blk_frozen BK320.out 4; have hfz5_5 := blk_frozen BK320.out 5) | ((with_reducible refine gate_callee (f := 4) rfl ?_); refine goesL_ (some 9) rfl rfl Tryd.func4 zq21 rfl #[.agg #[.slice A0_0 l0_0.length c0_0, .int .i64 a0_1, .int .i64 a0_2, .string a0_3, .string a0_4, .int .i64 a0_5], .int .i64 1048576] rfl zq1 ?_; (with_reducible refine (laws_szConsole.calls k _ _ l0_0 a0_1 a0_2 a0_3 a0_4 a0_5 1048576 t321 _ ?side1 ?side2 A2.out).mono ?_); (case side1 => repeat (first | exact (Kd.C_below HR0_0.out HB.out) | (with_reducible refine Kd.C_alloc ?_ _) | (with_reducible refine Kd.C_drewN ?_ _) | (with_reducible refine Kd.C_drew ?_))); (case side2 => exact HC0_0.out); rintro e w6 ⟨rfl, hb⟩; refine ⟨_, rfl, ?_⟩; have n0_ := am (blk_below (g := gb320) (o := .cells #[.slice A0_0 l0_0.length c0_0, .int .i64 a0_1, .int .i64 a0_2, .string a0_3, .string a0_4, .int .i64 a0_5] 30 (0, 0)) zq117 hb); have n1_ := am (below_step zq116 hb); clear BK320; clear HB; have BK320 := n0_; have HB := n1_; clear n0_ n1_; (try clear hb); (try clear hb2); (try clear hk); (try clear hi)))
  go_ret
  exact ⟨zq2, zq116⟩
 ·rw [if_neg c3] at H
  have c3b0 : decide (t321 < 0) = false := decide_eq_false c3
  clear c3
  replace H := bem H
  obtain ⟨⟨t322, t325, t326, t327, t328, t329⟩, A70, H⟩ := H
  replace H : ((spec_IsValidConsole.f k t322 t325 t326 t327 t328 t329).bind fun t330 => ((laws_toConsole.f k l0_0 a0_1 a0_2 a0_3 a0_4 a0_5).bind fun bt331 => ((impl_IsValidConsole.f k bt331.1 bt331.2.1 bt331.2.2.1 bt331.2.2.2.1 bt331.2.2.2.2.1 bt331.2.2.2.2.2).bind fun t340 => (if (t340 != t330) = true then (some false) else ((laws_toConsole.f k l0_0 a0_1 a0_2 a0_3 a0_4 a0_5).bind fun bt341 => ((laws_eqConsole.f k bt331.1 bt331.2.1 bt331.2.2.1 bt331.2.2.2.1 bt331.2.2.2.2.1 bt331.2.2.2.2.2 bt341.1 bt341.2.1 bt341.2.2.1 bt341.2.2.2.1 bt341.2.2.2.2.1 bt341.2.2.2.2.2).bind fun t349 => (if t349 = true then (some true) else (some false)))))))) = some r := H
  have A7 := am A70
  clear A70
  replace H := bem H
  obtain ⟨t330, A80, H⟩ := H
  replace H : ((laws_toConsole.f k l0_0 a0_1 a0_2 a0_3 a0_4 a0_5).bind fun bt331 => ((impl_IsValidConsole.f k bt331.1 bt331.2.1 bt331.2.2.1 bt331.2.2.2.1 bt331.2.2.2.2.1 bt331.2.2.2.2.2).bind fun t340 => (if (t340 != t330) = true then (some false) else ((laws_toConsole.f k l0_0 a0_1 a0_2 a0_3 a0_4 a0_5).bind fun bt341 => ((laws_eqConsole.f k bt331.1 bt331.2.1 bt331.2.2.1 bt331.2.2.2.1 bt331.2.2.2.2.1 bt331.2.2.2.2.2 bt341.1 bt341.2.1 bt341.2.2.1 bt341.2.2.2.1 bt341.2.2.2.2.1 bt341.2.2.2.2.2).bind fun t349 => (if t349 = true then (some true) else (some false))))))) = some r := H
  have A8 := am A80
  clear A80
  replace H := bem H
  obtain ⟨⟨t331, t334, t335, t336, t337, t338⟩, A90, H⟩ := H
  replace H : ((impl_IsValidConsole.f k t331 t334 t335 t336 t337 t338).bind fun t340 => (if (t340 != t330) = true then (some false) else ((laws_toConsole.f k l0_0 a0_1 a0_2 a0_3 a0_4 a0_5).bind fun bt341 => ((laws_eqConsole.f k t331 t334 t335 t336 t337 t338 bt341.1 bt341.2.1 bt341.2.2.1 bt341.2.2.2.1 bt341.2.2.2.2.1 bt341.2.2.2.2.2).bind fun t349 => (if t349 = true then (some true) else (some false)))))) = some r := H
  have A9 := am A90
  clear A90
  replace H := bem H
  obtain ⟨t340, A100, H⟩ := H
  replace H : (if (t340 != t330) = true then (some false) else ((laws_toConsole.f k l0_0 a0_1 a0_2 a0_3 a0_4 a0_5).bind fun bt341 => ((laws_eqConsole.f k t331 t334 t335 t336 t337 t338 bt341.1 bt341.2.1 bt341.2.2.1 bt341.2.2.2.1 bt341.2.2.2.2.1 bt341.2.2.2.2.2).bind fun t349 => (if t349 = true then (some true) else (some false))))) = some r := H
  have A10 := am A100
  clear A100
  by_cases c11 : (t340 != t330) = true
  ·rw [if_pos c11] at H
   have c11b0 : (t340 != t330) = true := c11
   (try (have c11b1 : decide (t340 = t330) = false := by simpa using c11))
   (try (have c11b2 : (t340 == t330) = false := by simpa using c11))
   (try (have c11b3 : ¬ (t340 = t330) := by simpa using c11))
   clear c11
   obtain rfl := Option.some.inj H
   go_enter Tryd.func3, Tryd.ntmps3
   go_wp2_with (first | ((with_reducible refine gate_dst (N := 1) rfl ?_); refine box_event ?hg (N := 1) ?hd (cs := #[.slice A0_0 l0_0.length c0_0, .int .i64 a0_1, .int .i64 a0_2, .string a0_3, .string a0_4, .int .i64 a0_5]) (t := 30) ?hr ?_; (case hd => rfl); (case hg => rfl); (case hr => first | (go_simp; done) | (go_simp; rfl)); intro gb320 hg w12 hbox hb; have n0_ := am (below_step zq0 hb); have n1_ := am (hbox); have n2_ := am ((zq4 : w.heap.size ≤ gb320)); have n3_ := am ((zq4 : w.heap.size ≤ gb320)); clear HB; have HB := n0_; have BK320 := n1_; have GW320 := n2_; have GE320 := n3_; clear n0_ n1_ n2_ n3_; clear hb hbox hg; have hcz13_0 : w12.cell? ⟨gb320, 0, none⟩ = some (.slice A0_0 l0_0.length c0_0) := (blk_cell BK320.out 0).trans rfl; have hcz13_1 : w12.cell? ⟨gb320, 1, none⟩ = some (.int .i64 a0_1) := (blk_cell BK320.out 1).trans rfl; have hcz13_2 : w12.cell? ⟨gb320, 2, none⟩ = some (.int .i64 a0_2) := (blk_cell BK320.out 2).trans rfl; have hcz13_3 : w12.cell? ⟨gb320, 3, none⟩ = some (.string a0_3) := (blk_cell BK320.out 3).trans rfl; have hcz13_4 : w12.cell? ⟨gb320, 4, none⟩ = some (.string a0_4) := (blk_cell BK320.out 4).trans rfl; have hcz13_5 : w12.cell? ⟨gb320, 5, none⟩ = some (.int .i64 a0_5) := (blk_cell BK320.out 5).trans rfl; have hfz13_0 := blk_frozen BK320.out 0; have hfz13_1 := blk_frozen BK320.out 1; have hfz13_2 := blk_frozen BK320.out 2; have hfz13_3 := blk_frozen BK320.out 3; have hfz13_4 := blk_frozen BK320.out 4; have hfz13_5 := blk_frozen BK320.out 5) | ((with_reducible refine gate_callee (f := 4) rfl ?_); refine goesL_ (some 9) rfl rfl Tryd.func4 zq21 rfl #[.agg #[.slice A0_0 l0_0.length c0_0, .int .i64 a0_1, .int .i64 a0_2, .string a0_3, .string a0_4, .int .i64 a0_5], .int .i64 1048576] rfl zq1 ?_; (with_reducible refine (laws_szConsole.calls k _ _ l0_0 a0_1 a0_2 a0_3 a0_4 a0_5 1048576 t321 _ ?side1 ?side2 A2.out).mono ?_); (case side1 => repeat (first | exact (Kd.C_below HR0_0.out HB.out) | (with_reducible refine Kd.C_alloc ?_ _) | (with_reducible refine Kd.C_drewN ?_ _) | (with_reducible refine Kd.C_drew ?_))); (case side2 => exact HC0_0.out); rintro e w14 ⟨rfl, hb⟩; refine ⟨_, rfl, ?_⟩; have n0_ := am (blk_below (g := gb320) (o := .cells #[.slice A0_0 l0_0.length c0_0, .int .i64 a0_1, .int .i64 a0_2, .string a0_3, .string a0_4, .int .i64 a0_5] 30 (0, 0)) zq117 hb); have n1_ := am (below_step zq116 hb); clear BK320; clear HB; have BK320 := n0_; have HB := n1_; clear n0_ n1_; (try clear hb); (try clear hb2); (try clear hk); (try clear hi); have hcz15_0 : w14.cell? ⟨gb320, 0, none⟩ = some (.slice A0_0 l0_0.length c0_0) := (blk_cell BK320.out 0).trans rfl; have hcz15_1 : w14.cell? ⟨gb320, 1, none⟩ = some (.int .i64 a0_1) := (blk_cell BK320.out 1).trans rfl; have hcz15_2 : w14.cell? ⟨gb320, 2, none⟩ = some (.int .i64 a0_2) := (blk_cell BK320.out 2).trans rfl; have hcz15_3 : w14.cell? ⟨gb320, 3, none⟩ = some (.string a0_3) := (blk_cell BK320.out 3).trans rfl; have hcz15_4 : w14.cell? ⟨gb320, 4, none⟩ = some (.string a0_4) := (blk_cell BK320.out 4).trans rfl; have hcz15_5 : w14.cell? ⟨gb320, 5, none⟩ = some (.int .i64 a0_5) := (blk_cell BK320.out 5).trans rfl; have hfz15_0 := blk_frozen BK320.out 0; have hfz15_1 := blk_frozen BK320.out 1; have hfz15_2 := blk_frozen BK320.out 2; have hfz15_3 := blk_frozen BK320.out 3; have hfz15_4 := blk_frozen BK320.out 4; have hfz15_5 := blk_frozen BK320.out 5) | ((with_reducible refine gate_callee (f := 6) rfl ?_); refine goesL_ (some 13) rfl rfl Tryd.func6 zq21 rfl #[.agg #[.slice A0_0 l0_0.length c0_0, .int .i64 a0_1, .int .i64 a0_2, .string a0_3, .string a0_4, .int .i64 a0_5]] rfl zq1 ?_; (with_reducible refine (laws_toConsole.calls k _ _ l0_0 a0_1 a0_2 a0_3 a0_4 a0_5 t322 t325 t326 t327 t328 t329 _ ?side1 ?side2 A7.out).mono ?_); (case side1 => repeat (first | exact (Kd.C_below HR0_0.out HB.out) | (with_reducible refine Kd.C_alloc ?_ _) | (with_reducible refine Kd.C_drewN ?_ _) | (with_reducible refine Kd.C_drew ?_))); (case side2 => exact HC0_0.out); rintro e w16 ⟨v323, rfl, ho0, hb⟩; refine ⟨_, rfl, ?_⟩; have n0_ := am (Kd.S_lower ho0 (below_size zq116)); have n1_ := am (blk_below (g := gb320) (o := .cells #[.slice A0_0 l0_0.length c0_0, .int .i64 a0_1, .int .i64 a0_2, .string a0_3, .string a0_4, .int .i64 a0_5] 30 (0, 0)) zq117 hb); have n2_ := am (below_step zq116 hb); clear BK320; clear HB; have HO324 := n0_; have BK320 := n1_; have HB := n2_; clear n0_ n1_ n2_; (try clear hb); (try clear hb2); (try clear hk); (try clear hi); (try clear ho0); obtain ⟨Ao17, co17, eo17⟩ := Kd.S_slice HO324.out; subst eo17) | ((with_reducible refine gate_callee (f := 5) rfl ?_); refine goesL_ (some 14) rfl rfl Tryd.func5 zq21 rfl #[.agg #[.slice Ao17 t322.length co17, .int .i64 t325, .int .i64 t326, .string t327, .string t328, .int .i64 t329]] rfl zq1 ?_; (with_reducible refine (spec_IsValidConsole.calls k _ _ t322 t325 t326 t327 t328 t329 t330 _ ?side1 ?side2 A8.out).mono ?_); (case side1 => repeat (first | exact (Kd.S_reads' HO324.out).2.2 | (with_reducible refine Kd.C_alloc ?_ _) | (with_reducible refine Kd.C_drewN ?_ _) | (with_reducible refine Kd.C_drew ?_))); (case side2 => exact (Kd.S_reads' HO324.out).2.1); rintro e w18 ⟨rfl, hb⟩; refine ⟨_, rfl, ?_⟩; have n0_ := am (Kd.S_below zq120 hb); have n1_ := am (blk_below (g := gb320) (o := .cells #[.slice A0_0 l0_0.length c0_0, .int .i64 a0_1, .int .i64 a0_2, .string a0_3, .string a0_4, .int .i64 a0_5] 30 (0, 0)) zq117 hb); have n2_ := am (below_step zq116 hb); clear HO324; clear BK320; clear HB; have HO324 := n0_; have BK320 := n1_; have HB := n2_; clear n0_ n1_ n2_; (try clear hb); (try clear hb2); (try clear hk); (try clear hi); have hcz19_0 : w18.cell? ⟨gb320, 0, none⟩ = some (.slice A0_0 l0_0.length c0_0) := (blk_cell BK320.out 0).trans rfl; have hcz19_1 : w18.cell? ⟨gb320, 1, none⟩ = some (.int .i64 a0_1) := (blk_cell BK320.out 1).trans rfl; have hcz19_2 : w18.cell? ⟨gb320, 2, none⟩ = some (.int .i64 a0_2) := (blk_cell BK320.out 2).trans rfl; have hcz19_3 : w18.cell? ⟨gb320, 3, none⟩ = some (.string a0_3) := (blk_cell BK320.out 3).trans rfl; have hcz19_4 : w18.cell? ⟨gb320, 4, none⟩ = some (.string a0_4) := (blk_cell BK320.out 4).trans rfl; have hcz19_5 : w18.cell? ⟨gb320, 5, none⟩ = some (.int .i64 a0_5) := (blk_cell BK320.out 5).trans rfl; have hfz19_0 := blk_frozen BK320.out 0; have hfz19_1 := blk_frozen BK320.out 1; have hfz19_2 := blk_frozen BK320.out 2; have hfz19_3 := blk_frozen BK320.out 3; have hfz19_4 := blk_frozen BK320.out 4; have hfz19_5 := blk_frozen BK320.out 5) | ((with_reducible refine gate_callee (f := 6) rfl ?_); refine goesL_ (some 16) rfl rfl Tryd.func6 zq21 rfl #[.agg #[.slice A0_0 l0_0.length c0_0, .int .i64 a0_1, .int .i64 a0_2, .string a0_3, .string a0_4, .int .i64 a0_5]] rfl zq1 ?_; (with_reducible refine (laws_toConsole.calls k _ _ l0_0 a0_1 a0_2 a0_3 a0_4 a0_5 t331 t334 t335 t336 t337 t338 _ ?side1 ?side2 A9.out).mono ?_); (case side1 => repeat (first | exact (Kd.C_below HR0_0.out HB.out) | (with_reducible refine Kd.C_alloc ?_ _) | (with_reducible refine Kd.C_drewN ?_ _) | (with_reducible refine Kd.C_drew ?_))); (case side2 => exact HC0_0.out); rintro e w20 ⟨v332, rfl, ho0, hb⟩; refine ⟨_, rfl, ?_⟩; have n0_ := am (Kd.S_elder' zq120 (Kd.S_base ho0) hb); have n1_ := am (Kd.S_lower (Kd.S_new' ho0 (Kd.S_lt zq120)) (below_size zq116)); have n2_ := am (blk_below (g := gb320) (o := .cells #[.slice A0_0 l0_0.length c0_0, .int .i64 a0_1, .int .i64 a0_2, .string a0_3, .string a0_4, .int .i64 a0_5] 30 (0, 0)) zq117 hb); have n3_ := am (below_step zq116 hb); clear HO324; clear BK320; clear HB; have HO324 := n0_; have HO333 := n1_; have BK320 := n2_; have HB := n3_; clear n0_ n1_ n2_ n3_; (try clear hb); (try clear hb2); (try clear hk); (try clear hi); (try clear ho0)) | ((with_reducible refine gate_dst (N := 5) rfl ?_); refine box_event ?hg (N := 5) ?hd (cs := #[.slice none 0 0, .int .i64 0, .int .i64 0, .string ⟨#[]⟩, .string ⟨#[]⟩, .int .i64 0]) (t := 40) ?hr ?_; (case hd => rfl); (case hg => rfl); (case hr => first | (go_simp; done) | (go_simp; rfl)); intro gb339 hg w21 hbox hb; have n0_ := am (Kd.S_below zq120 hb); have n1_ := am (Kd.S_below zq121 hb); have n2_ := am (blk_below (g := gb320) (o := .cells #[.slice A0_0 l0_0.length c0_0, .int .i64 a0_1, .int .i64 a0_2, .string a0_3, .string a0_4, .int .i64 a0_5] 30 (0, 0)) zq117 hb); have n3_ := am (below_step zq116 hb); have n4_ := am (hbox); have n5_ := am ((zq136 : w.heap.size ≤ gb339)); have n6_ := am ((zq136 : w.heap.size ≤ gb339)); have n7_ := am ((zq125 : gb320 ≠ gb339)); have n8_ := am ((zq126 : gb339 ≠ gb320)); clear HO324; clear HO333; clear BK320; clear HB; have HO324 := n0_; have HO333 := n1_; have BK320 := n2_; have HB := n3_; have BK339 := n4_; have GW339 := n5_; have GE339 := n6_; have NB320_339 := n7_; have NB339_320 := n8_; clear n0_ n1_ n2_ n3_ n4_ n5_ n6_ n7_ n8_; clear hb hbox hg; obtain ⟨Ao22, co22, eo22⟩ := Kd.S_slice HO333.out; subst eo22; have hnb23 := NB339_320.out; have hnc23 := NB320_339.out; have hcz24_0 : w21.cell? ⟨gb339, 0, none⟩ = some (.slice none 0 0) := (blk_cell BK339.out 0).trans rfl; have hcz24_1 : w21.cell? ⟨gb339, 1, none⟩ = some (.int .i64 0) := (blk_cell BK339.out 1).trans rfl; have hcz24_2 : w21.cell? ⟨gb339, 2, none⟩ = some (.int .i64 0) := (blk_cell BK339.out 2).trans rfl; have hcz24_3 : w21.cell? ⟨gb339, 3, none⟩ = some (.string ⟨#[]⟩) := (blk_cell BK339.out 3).trans rfl; have hcz24_4 : w21.cell? ⟨gb339, 4, none⟩ = some (.string ⟨#[]⟩) := (blk_cell BK339.out 4).trans rfl; have hcz24_5 : w21.cell? ⟨gb339, 5, none⟩ = some (.int .i64 0) := (blk_cell BK339.out 5).trans rfl; have hfz24_0 := blk_frozen BK339.out 0; have hfz24_1 := blk_frozen BK339.out 1; have hfz24_2 := blk_frozen BK339.out 2; have hfz24_3 := blk_frozen BK339.out 3; have hfz24_4 := blk_frozen BK339.out 4; have hfz24_5 := blk_frozen BK339.out 5) | ((with_reducible refine gate_callee (f := 7) rfl ?_); refine goesL_ (some 18) rfl rfl Tryd.func7 zq21 rfl #[.agg #[.slice Ao22 t331.length co22, .int .i64 t334, .int .i64 t335, .string t336, .string t337, .int .i64 t338]] rfl zq1 ?_; (with_reducible refine (impl_IsValidConsole.calls k _ _ t331 t334 t335 t336 t337 t338 t340 _ ?side1 ?side2 ?side3 A10.out).mono ?_); (case side1 => refine (Kd.S_reads' (e := 63) (base := w.heap.size) (ok := fun k_ => (True ∧ some k_ ≠ (.slice Ao17 t322.length co17 : Value).ownBlock)) (n := t331.length) (c := co22) ?_).2.2; exact zq122); (case side2 => exact (Kd.S_reads' HO333.out).2.1); (case side3 => exact Glob.below HGL.out zq118); rintro e w25 ⟨rfl, hb⟩; refine ⟨_, rfl, ?_⟩; have n0_ := am (Kd.S_below (by (with_reducible repeat (first | apply Kd.S_alloc | apply Kd.S_drewN | apply Kd.S_drew)); exact (Kd.S_mono (Kd.S_far (p := ⟨gb339, 5, none⟩) (Kd.S_far (p := ⟨gb339, 4, none⟩) (Kd.S_far (p := ⟨gb339, 3, none⟩) (Kd.S_far (p := ⟨gb339, 2, none⟩) (Kd.S_far (p := ⟨gb339, 1, none⟩) (Kd.S_far (p := ⟨gb339, 0, none⟩) (Kd.S_types HO324.out BK339.out zq146) (fun _ hk => hk.2) (.slice Ao22 t331.length co22)) (fun _ hk => hk.2) (.int .i64 t334)) (fun _ hk => hk.2) (.int .i64 t335)) (fun _ hk => hk.2) (.string t336)) (fun _ hk => hk.2) (.string t337)) (fun _ hk => hk.2) (.int .i64 t338)) (fun _ h_ => h_.1))) hb); have n1_ := am (Kd.S_below zq122 hb); have n2_ := am (blk_below (g := gb320) (o := .cells #[.slice A0_0 l0_0.length c0_0, .int .i64 a0_1, .int .i64 a0_2, .string a0_3, .string a0_4, .int .i64 a0_5] 30 (0, 0)) zq119 hb); have n3_ := am (blk_below (g := gb339) (o := .cells #[.slice Ao22 t331.length co22, .int .i64 t334, .int .i64 t335, .string t336, .string t337, .int .i64 t338] 40 (0, 0)) (by (with_reducible repeat (first | refine blk_drewN ?_ _ | refine blk_drew ?_ | refine blk_alloc ?_ _)); refine blk_put (cs := #[.slice Ao22 t331.length co22, .int .i64 t334, .int .i64 t335, .string t336, .string t337, .int .i64 0]) ?_ 5 _ rfl; (with_reducible repeat (first | refine blk_drewN ?_ _ | refine blk_drew ?_ | refine blk_alloc ?_ _)); refine blk_put (cs := #[.slice Ao22 t331.length co22, .int .i64 t334, .int .i64 t335, .string t336, .string ⟨#[]⟩, .int .i64 0]) ?_ 4 _ rfl; (with_reducible repeat (first | refine blk_drewN ?_ _ | refine blk_drew ?_ | refine blk_alloc ?_ _)); refine blk_put (cs := #[.slice Ao22 t331.length co22, .int .i64 t334, .int .i64 t335, .string ⟨#[]⟩, .string ⟨#[]⟩, .int .i64 0]) ?_ 3 _ rfl; (with_reducible repeat (first | refine blk_drewN ?_ _ | refine blk_drew ?_ | refine blk_alloc ?_ _)); refine blk_put (cs := #[.slice Ao22 t331.length co22, .int .i64 t334, .int .i64 0, .string ⟨#[]⟩, .string ⟨#[]⟩, .int .i64 0]) ?_ 2 _ rfl; (with_reducible repeat (first | refine blk_drewN ?_ _ | refine blk_drew ?_ | refine blk_alloc ?_ _)); refine blk_put (cs := #[.slice Ao22 t331.length co22, .int .i64 0, .int .i64 0, .string ⟨#[]⟩, .string ⟨#[]⟩, .int .i64 0]) ?_ 1 _ rfl; (with_reducible repeat (first | refine blk_drewN ?_ _ | refine blk_drew ?_ | refine blk_alloc ?_ _)); refine blk_put (cs := #[.slice none 0 0, .int .i64 0, .int .i64 0, .string ⟨#[]⟩, .string ⟨#[]⟩, .int .i64 0]) ?_ 0 _ rfl; (with_reducible repeat (first | refine blk_drewN ?_ _ | refine blk_drew ?_ | refine blk_alloc ?_ _)); exact BK339.out) hb); have n4_ := am (below_step zq118 hb); clear HO324; clear HO333; clear BK320; clear BK339; clear HB; have HO324 := n0_; have HO333 := n1_; have BK320 := n2_; have BK339 := n3_; have HB := n4_; clear n0_ n1_ n2_ n3_ n4_; (try clear hb); (try clear hb2); (try clear hk); (try clear hi)))
   go_ret
   exact ⟨zq2, zq118⟩
  ·rw [if_neg c11] at H
   have c11b0 : (t340 != t330) = false := by simpa using c11
   (try (have c11b1 : decide (t340 = t330) = true := by simpa using c11))
   (try (have c11b2 : (t340 == t330) = true := by simpa using c11))
   clear c11
   replace H := bem H
   obtain ⟨⟨t341, t344, t345, t346, t347, t348⟩, A260, H⟩ := H
   replace H : ((laws_eqConsole.f k t331 t334 t335 t336 t337 t338 t341 t344 t345 t346 t347 t348).bind fun t349 => (if t349 = true then (some true) else (some false))) = some r := H
   have A26 := am A260
   clear A260
   replace H := bem H
   obtain ⟨t349, A270, H⟩ := H
   replace H : (if t349 = true then (some true) else (some false)) = some r := H
   have A27 := am A270
   clear A270
   by_cases c28 : t349 = true
   ·subst c28
    have H1 : (some true) = some r := by rw [if_pos rfl] at H; exact H
    clear H
    have H := H1
    clear H1
    obtain rfl := Option.some.inj H
    go_enter Tryd.func3, Tryd.ntmps3
    try go_wp2_with (first | ((with_reducible refine gate_dst (N := 1) rfl ?_); refine box_event ?hg (N := 1) ?hd (cs := #[.slice A0_0 l0_0.length c0_0, .int .i64 a0_1, .int .i64 a0_2, .string a0_3, .string a0_4, .int .i64 a0_5]) (t := 30) ?hr ?_; (case hd => rfl); (case hg => rfl); (case hr => first | (go_simp; done) | (go_simp; rfl)); intro gb320 hg w29 hbox hb; have n0_ := am (below_step zq0 hb); have n1_ := am (hbox); have n2_ := am ((zq4 : w.heap.size ≤ gb320)); have n3_ := am ((zq4 : w.heap.size ≤ gb320)); clear HB; have HB := n0_; have BK320 := n1_; have GW320 := n2_; have GE320 := n3_; clear n0_ n1_ n2_ n3_; clear hb hbox hg; have hcz30_0 : w29.cell? ⟨gb320, 0, none⟩ = some (.slice A0_0 l0_0.length c0_0) := (blk_cell BK320.out 0).trans rfl; have hcz30_1 : w29.cell? ⟨gb320, 1, none⟩ = some (.int .i64 a0_1) := (blk_cell BK320.out 1).trans rfl; have hcz30_2 : w29.cell? ⟨gb320, 2, none⟩ = some (.int .i64 a0_2) := (blk_cell BK320.out 2).trans rfl; have hcz30_3 : w29.cell? ⟨gb320, 3, none⟩ = some (.string a0_3) := (blk_cell BK320.out 3).trans rfl; have hcz30_4 : w29.cell? ⟨gb320, 4, none⟩ = some (.string a0_4) := (blk_cell BK320.out 4).trans rfl; have hcz30_5 : w29.cell? ⟨gb320, 5, none⟩ = some (.int .i64 a0_5) := (blk_cell BK320.out 5).trans rfl; have hfz30_0 := blk_frozen BK320.out 0; have hfz30_1 := blk_frozen BK320.out 1; have hfz30_2 := blk_frozen BK320.out 2; have hfz30_3 := blk_frozen BK320.out 3; have hfz30_4 := blk_frozen BK320.out 4; have hfz30_5 := blk_frozen BK320.out 5) | ((with_reducible refine gate_callee (f := 4) rfl ?_); refine goesL_ (some 9) rfl rfl Tryd.func4 zq21 rfl #[.agg #[.slice A0_0 l0_0.length c0_0, .int .i64 a0_1, .int .i64 a0_2, .string a0_3, .string a0_4, .int .i64 a0_5], .int .i64 1048576] rfl zq1 ?_; (with_reducible refine (laws_szConsole.calls k _ _ l0_0 a0_1 a0_2 a0_3 a0_4 a0_5 1048576 t321 _ ?side1 ?side2 A2.out).mono ?_); (case side1 => repeat (first | exact (Kd.C_below HR0_0.out HB.out) | (with_reducible refine Kd.C_alloc ?_ _) | (with_reducible refine Kd.C_drewN ?_ _) | (with_reducible refine Kd.C_drew ?_))); (case side2 => exact HC0_0.out); rintro e w31 ⟨rfl, hb⟩; refine ⟨_, rfl, ?_⟩; have n0_ := am (blk_below (g := gb320) (o := .cells #[.slice A0_0 l0_0.length c0_0, .int .i64 a0_1, .int .i64 a0_2, .string a0_3, .string a0_4, .int .i64 a0_5] 30 (0, 0)) zq117 hb); have n1_ := am (below_step zq116 hb); clear BK320; clear HB; have BK320 := n0_; have HB := n1_; clear n0_ n1_; (try clear hb); (try clear hb2); (try clear hk); (try clear hi); have hcz32_0 : w31.cell? ⟨gb320, 0, none⟩ = some (.slice A0_0 l0_0.length c0_0) := (blk_cell BK320.out 0).trans rfl; have hcz32_1 : w31.cell? ⟨gb320, 1, none⟩ = some (.int .i64 a0_1) := (blk_cell BK320.out 1).trans rfl; have hcz32_2 : w31.cell? ⟨gb320, 2, none⟩ = some (.int .i64 a0_2) := (blk_cell BK320.out 2).trans rfl; have hcz32_3 : w31.cell? ⟨gb320, 3, none⟩ = some (.string a0_3) := (blk_cell BK320.out 3).trans rfl; have hcz32_4 : w31.cell? ⟨gb320, 4, none⟩ = some (.string a0_4) := (blk_cell BK320.out 4).trans rfl; have hcz32_5 : w31.cell? ⟨gb320, 5, none⟩ = some (.int .i64 a0_5) := (blk_cell BK320.out 5).trans rfl; have hfz32_0 := blk_frozen BK320.out 0; have hfz32_1 := blk_frozen BK320.out 1; have hfz32_2 := blk_frozen BK320.out 2; have hfz32_3 := blk_frozen BK320.out 3; have hfz32_4 := blk_frozen BK320.out 4; have hfz32_5 := blk_frozen BK320.out 5) | ((with_reducible refine gate_callee (f := 6) rfl ?_); refine goesL_ (some 13) rfl rfl Tryd.func6 zq21 rfl #[.agg #[.slice A0_0 l0_0.length c0_0, .int .i64 a0_1, .int .i64 a0_2, .string a0_3, .string a0_4, .int .i64 a0_5]] rfl zq1 ?_; (with_reducible refine (laws_toConsole.calls k _ _ l0_0 a0_1 a0_2 a0_3 a0_4 a0_5 t322 t325 t326 t327 t328 t329 _ ?side1 ?side2 A7.out).mono ?_); (case side1 => repeat (first | exact (Kd.C_below HR0_0.out HB.out) | (with_reducible refine Kd.C_alloc ?_ _) | (with_reducible refine Kd.C_drewN ?_ _) | (with_reducible refine Kd.C_drew ?_))); (case side2 => exact HC0_0.out); rintro e w33 ⟨v323, rfl, ho0, hb⟩; refine ⟨_, rfl, ?_⟩; have n0_ := am (Kd.S_lower ho0 (below_size zq116)); have n1_ := am (blk_below (g := gb320) (o := .cells #[.slice A0_0 l0_0.length c0_0, .int .i64 a0_1, .int .i64 a0_2, .string a0_3, .string a0_4, .int .i64 a0_5] 30 (0, 0)) zq117 hb); have n2_ := am (below_step zq116 hb); clear BK320; clear HB; have HO324 := n0_; have BK320 := n1_; have HB := n2_; clear n0_ n1_ n2_; (try clear hb); (try clear hb2); (try clear hk); (try clear hi); (try clear ho0); obtain ⟨Ao34, co34, eo34⟩ := Kd.S_slice HO324.out; subst eo34) | ((with_reducible refine gate_callee (f := 5) rfl ?_); refine goesL_ (some 14) rfl rfl Tryd.func5 zq21 rfl #[.agg #[.slice Ao34 t322.length co34, .int .i64 t325, .int .i64 t326, .string t327, .string t328, .int .i64 t329]] rfl zq1 ?_; (with_reducible refine (spec_IsValidConsole.calls k _ _ t322 t325 t326 t327 t328 t329 t330 _ ?side1 ?side2 A8.out).mono ?_); (case side1 => repeat (first | exact (Kd.S_reads' HO324.out).2.2 | (with_reducible refine Kd.C_alloc ?_ _) | (with_reducible refine Kd.C_drewN ?_ _) | (with_reducible refine Kd.C_drew ?_))); (case side2 => exact (Kd.S_reads' HO324.out).2.1); rintro e w35 ⟨rfl, hb⟩; refine ⟨_, rfl, ?_⟩; have n0_ := am (Kd.S_below zq120 hb); have n1_ := am (blk_below (g := gb320) (o := .cells #[.slice A0_0 l0_0.length c0_0, .int .i64 a0_1, .int .i64 a0_2, .string a0_3, .string a0_4, .int .i64 a0_5] 30 (0, 0)) zq117 hb); have n2_ := am (below_step zq116 hb); clear HO324; clear BK320; clear HB; have HO324 := n0_; have BK320 := n1_; have HB := n2_; clear n0_ n1_ n2_; (try clear hb); (try clear hb2); (try clear hk); (try clear hi); have hcz36_0 : w35.cell? ⟨gb320, 0, none⟩ = some (.slice A0_0 l0_0.length c0_0) := (blk_cell BK320.out 0).trans rfl; have hcz36_1 : w35.cell? ⟨gb320, 1, none⟩ = some (.int .i64 a0_1) := (blk_cell BK320.out 1).trans rfl; have hcz36_2 : w35.cell? ⟨gb320, 2, none⟩ = some (.int .i64 a0_2) := (blk_cell BK320.out 2).trans rfl; have hcz36_3 : w35.cell? ⟨gb320, 3, none⟩ = some (.string a0_3) := (blk_cell BK320.out 3).trans rfl; have hcz36_4 : w35.cell? ⟨gb320, 4, none⟩ = some (.string a0_4) := (blk_cell BK320.out 4).trans rfl; have hcz36_5 : w35.cell? ⟨gb320, 5, none⟩ = some (.int .i64 a0_5) := (blk_cell BK320.out 5).trans rfl; have hfz36_0 := blk_frozen BK320.out 0; have hfz36_1 := blk_frozen BK320.out 1; have hfz36_2 := blk_frozen BK320.out 2; have hfz36_3 := blk_frozen BK320.out 3; have hfz36_4 := blk_frozen BK320.out 4; have hfz36_5 := blk_frozen BK320.out 5) | ((with_reducible refine gate_callee (f := 6) rfl ?_); refine goesL_ (some 16) rfl rfl Tryd.func6 zq21 rfl #[.agg #[.slice A0_0 l0_0.length c0_0, .int .i64 a0_1, .int .i64 a0_2, .string a0_3, .string a0_4, .int .i64 a0_5]] rfl zq1 ?_; (with_reducible refine (laws_toConsole.calls k _ _ l0_0 a0_1 a0_2 a0_3 a0_4 a0_5 t331 t334 t335 t336 t337 t338 _ ?side1 ?side2 A9.out).mono ?_); (case side1 => repeat (first | exact (Kd.C_below HR0_0.out HB.out) | (with_reducible refine Kd.C_alloc ?_ _) | (with_reducible refine Kd.C_drewN ?_ _) | (with_reducible refine Kd.C_drew ?_))); (case side2 => exact HC0_0.out); rintro e w37 ⟨v332, rfl, ho0, hb⟩; refine ⟨_, rfl, ?_⟩; have n0_ := am (Kd.S_elder' zq120 (Kd.S_base ho0) hb); have n1_ := am (Kd.S_lower (Kd.S_new' ho0 (Kd.S_lt zq120)) (below_size zq116)); have n2_ := am (blk_below (g := gb320) (o := .cells #[.slice A0_0 l0_0.length c0_0, .int .i64 a0_1, .int .i64 a0_2, .string a0_3, .string a0_4, .int .i64 a0_5] 30 (0, 0)) zq117 hb); have n3_ := am (below_step zq116 hb); clear HO324; clear BK320; clear HB; have HO324 := n0_; have HO333 := n1_; have BK320 := n2_; have HB := n3_; clear n0_ n1_ n2_ n3_; (try clear hb); (try clear hb2); (try clear hk); (try clear hi); (try clear ho0)) | ((with_reducible refine gate_dst (N := 5) rfl ?_); refine box_event ?hg (N := 5) ?hd (cs := #[.slice none 0 0, .int .i64 0, .int .i64 0, .string ⟨#[]⟩, .string ⟨#[]⟩, .int .i64 0]) (t := 40) ?hr ?_; (case hd => rfl); (case hg => rfl); (case hr => first | (go_simp; done) | (go_simp; rfl)); intro gb339 hg w38 hbox hb; have n0_ := am (Kd.S_below zq120 hb); have n1_ := am (Kd.S_below zq121 hb); have n2_ := am (blk_below (g := gb320) (o := .cells #[.slice A0_0 l0_0.length c0_0, .int .i64 a0_1, .int .i64 a0_2, .string a0_3, .string a0_4, .int .i64 a0_5] 30 (0, 0)) zq117 hb); have n3_ := am (below_step zq116 hb); have n4_ := am (hbox); have n5_ := am ((zq136 : w.heap.size ≤ gb339)); have n6_ := am ((zq136 : w.heap.size ≤ gb339)); have n7_ := am ((zq125 : gb320 ≠ gb339)); have n8_ := am ((zq126 : gb339 ≠ gb320)); clear HO324; clear HO333; clear BK320; clear HB; have HO324 := n0_; have HO333 := n1_; have BK320 := n2_; have HB := n3_; have BK339 := n4_; have GW339 := n5_; have GE339 := n6_; have NB320_339 := n7_; have NB339_320 := n8_; clear n0_ n1_ n2_ n3_ n4_ n5_ n6_ n7_ n8_; clear hb hbox hg; obtain ⟨Ao39, co39, eo39⟩ := Kd.S_slice HO333.out; subst eo39; have hnb40 := NB339_320.out; have hnc40 := NB320_339.out; have hcz41_0 : w38.cell? ⟨gb339, 0, none⟩ = some (.slice none 0 0) := (blk_cell BK339.out 0).trans rfl; have hcz41_1 : w38.cell? ⟨gb339, 1, none⟩ = some (.int .i64 0) := (blk_cell BK339.out 1).trans rfl; have hcz41_2 : w38.cell? ⟨gb339, 2, none⟩ = some (.int .i64 0) := (blk_cell BK339.out 2).trans rfl; have hcz41_3 : w38.cell? ⟨gb339, 3, none⟩ = some (.string ⟨#[]⟩) := (blk_cell BK339.out 3).trans rfl; have hcz41_4 : w38.cell? ⟨gb339, 4, none⟩ = some (.string ⟨#[]⟩) := (blk_cell BK339.out 4).trans rfl; have hcz41_5 : w38.cell? ⟨gb339, 5, none⟩ = some (.int .i64 0) := (blk_cell BK339.out 5).trans rfl; have hfz41_0 := blk_frozen BK339.out 0; have hfz41_1 := blk_frozen BK339.out 1; have hfz41_2 := blk_frozen BK339.out 2; have hfz41_3 := blk_frozen BK339.out 3; have hfz41_4 := blk_frozen BK339.out 4; have hfz41_5 := blk_frozen BK339.out 5) | ((with_reducible refine gate_callee (f := 7) rfl ?_); refine goesL_ (some 18) rfl rfl Tryd.func7 zq21 rfl #[.agg #[.slice Ao39 t331.length co39, .int .i64 t334, .int .i64 t335, .string t336, .string t337, .int .i64 t338]] rfl zq1 ?_; (with_reducible refine (impl_IsValidConsole.calls k _ _ t331 t334 t335 t336 t337 t338 t340 _ ?side1 ?side2 ?side3 A10.out).mono ?_); (case side1 => refine (Kd.S_reads' (e := 63) (base := w.heap.size) (ok := fun k_ => (True ∧ some k_ ≠ (.slice Ao34 t322.length co34 : Value).ownBlock)) (n := t331.length) (c := co39) ?_).2.2; exact zq123); (case side2 => exact (Kd.S_reads' HO333.out).2.1); (case side3 => exact Glob.below HGL.out zq118); rintro e w42 ⟨rfl, hb⟩; refine ⟨_, rfl, ?_⟩; have n0_ := am (Kd.S_below (by (with_reducible repeat (first | apply Kd.S_alloc | apply Kd.S_drewN | apply Kd.S_drew)); exact (Kd.S_mono (Kd.S_far (p := ⟨gb339, 5, none⟩) (Kd.S_far (p := ⟨gb339, 4, none⟩) (Kd.S_far (p := ⟨gb339, 3, none⟩) (Kd.S_far (p := ⟨gb339, 2, none⟩) (Kd.S_far (p := ⟨gb339, 1, none⟩) (Kd.S_far (p := ⟨gb339, 0, none⟩) (Kd.S_types HO324.out BK339.out zq146) (fun _ hk => hk.2) (.slice Ao39 t331.length co39)) (fun _ hk => hk.2) (.int .i64 t334)) (fun _ hk => hk.2) (.int .i64 t335)) (fun _ hk => hk.2) (.string t336)) (fun _ hk => hk.2) (.string t337)) (fun _ hk => hk.2) (.int .i64 t338)) (fun _ h_ => h_.1))) hb); have n1_ := am (Kd.S_below zq123 hb); have n2_ := am (blk_below (g := gb320) (o := .cells #[.slice A0_0 l0_0.length c0_0, .int .i64 a0_1, .int .i64 a0_2, .string a0_3, .string a0_4, .int .i64 a0_5] 30 (0, 0)) zq119 hb); have n3_ := am (blk_below (g := gb339) (o := .cells #[.slice Ao39 t331.length co39, .int .i64 t334, .int .i64 t335, .string t336, .string t337, .int .i64 t338] 40 (0, 0)) (by (with_reducible repeat (first | refine blk_drewN ?_ _ | refine blk_drew ?_ | refine blk_alloc ?_ _)); refine blk_put (cs := #[.slice Ao39 t331.length co39, .int .i64 t334, .int .i64 t335, .string t336, .string t337, .int .i64 0]) ?_ 5 _ rfl; (with_reducible repeat (first | refine blk_drewN ?_ _ | refine blk_drew ?_ | refine blk_alloc ?_ _)); refine blk_put (cs := #[.slice Ao39 t331.length co39, .int .i64 t334, .int .i64 t335, .string t336, .string ⟨#[]⟩, .int .i64 0]) ?_ 4 _ rfl; (with_reducible repeat (first | refine blk_drewN ?_ _ | refine blk_drew ?_ | refine blk_alloc ?_ _)); refine blk_put (cs := #[.slice Ao39 t331.length co39, .int .i64 t334, .int .i64 t335, .string ⟨#[]⟩, .string ⟨#[]⟩, .int .i64 0]) ?_ 3 _ rfl; (with_reducible repeat (first | refine blk_drewN ?_ _ | refine blk_drew ?_ | refine blk_alloc ?_ _)); refine blk_put (cs := #[.slice Ao39 t331.length co39, .int .i64 t334, .int .i64 0, .string ⟨#[]⟩, .string ⟨#[]⟩, .int .i64 0]) ?_ 2 _ rfl; (with_reducible repeat (first | refine blk_drewN ?_ _ | refine blk_drew ?_ | refine blk_alloc ?_ _)); refine blk_put (cs := #[.slice Ao39 t331.length co39, .int .i64 0, .int .i64 0, .string ⟨#[]⟩, .string ⟨#[]⟩, .int .i64 0]) ?_ 1 _ rfl; (with_reducible repeat (first | refine blk_drewN ?_ _ | refine blk_drew ?_ | refine blk_alloc ?_ _)); refine blk_put (cs := #[.slice none 0 0, .int .i64 0, .int .i64 0, .string ⟨#[]⟩, .string ⟨#[]⟩, .int .i64 0]) ?_ 0 _ rfl; (with_reducible repeat (first | refine blk_drewN ?_ _ | refine blk_drew ?_ | refine blk_alloc ?_ _)); exact BK339.out) hb); have n4_ := am (below_step zq118 hb); clear HO324; clear HO333; clear BK320; clear BK339; clear HB; have HO324 := n0_; have HO333 := n1_; have BK320 := n2_; have BK339 := n3_; have HB := n4_; clear n0_ n1_ n2_ n3_ n4_; (try clear hb); (try clear hb2); (try clear hk); (try clear hi)))
    have n0_ := am (Kd.S_drew HO324.out)
    have n1_ := am (Kd.S_drew HO333.out)
    have n2_ := am (blk_drew BK320.out)
    have n3_ := am (blk_drew BK339.out)
    have n4_ := am (below_drew1 HB.out)
    clear HO324
    clear HO333
    clear BK320
    clear BK339
    clear HB
    have HO324 := n0_
    have HO333 := n1_
    have BK320 := n2_
    have BK339 := n3_
    have HB := n4_
    clear n0_ n1_ n2_ n3_ n4_
    refine start_ (n := 5) (S := fun w' => w'.cell? ⟨gb339, 0, none⟩ = some (.slice Ao39 t331.length co39) ∧ w'.cell? ⟨gb339, 1, none⟩ = some (.int .i64 t334) ∧ w'.cell? ⟨gb339, 2, none⟩ = some (.int .i64 t335) ∧ w'.cell? ⟨gb339, 3, none⟩ = some (.string t336) ∧ w'.cell? ⟨gb339, 4, none⟩ = some (.string t337) ∧ w'.cell? ⟨gb339, 5, none⟩ = some (.int .i64 t338) ∧ w'.cell? ⟨gb320, 0, none⟩ = some (.slice A0_0 l0_0.length c0_0) ∧ w'.cell? ⟨gb320, 1, none⟩ = some (.int .i64 a0_1) ∧ w'.cell? ⟨gb320, 2, none⟩ = some (.int .i64 a0_2) ∧ w'.cell? ⟨gb320, 3, none⟩ = some (.string a0_3) ∧ w'.cell? ⟨gb320, 4, none⟩ = some (.string a0_4) ∧ w'.cell? ⟨gb320, 5, none⟩ = some (.int .i64 a0_5)) (ds := []) #[false, false, false, false, false] zq21 rfl rfl ⟨(blk_cell BK339.out 0).trans rfl, (blk_cell BK339.out 1).trans rfl, (blk_cell BK339.out 2).trans rfl, (blk_cell BK339.out 3).trans rfl, (blk_cell BK339.out 4).trans rfl, (blk_cell BK339.out 5).trans rfl, (blk_cell BK320.out 0).trans rfl, (blk_cell BK320.out 1).trans rfl, (blk_cell BK320.out 2).trans rfl, (blk_cell BK320.out 3).trans rfl, (blk_cell BK320.out 4).trans rfl, (blk_cell BK320.out 5).trans rfl⟩ (fun hHeld => ?_)
    generalize w42.drew = w43 at HO324 HO333 BK320 BK339 HB hHeld ⊢
    refine take_ (i := 0) (N := some 22) (v := ?_) (a' := ?_) #[true, false, false, false, false] rfl rfl zq21 (fun _ _ _ h => h) (Or.inl ⟨by rfl, ?_⟩) hHeld ?_ ?_
    rotate_left
    ·rintro w' ⟨s0, s1, s2, s3, s4, s5, s6, s7, s8, s9, s10, s11⟩
     go_simp
     with_reducible rfl
    rotate_left
    ·simp only [Act.put, List.setIfInBounds_toArray, List.set_cons_zero, List.set_cons_succ, i64_w, i32_w]
     rfl
    refine take_ (i := 1) (N := some 23) (v := ?_) (a' := ?_) #[true, true, false, false, false] rfl rfl zq21 (fun _ _ _ h => h) (Or.inl ⟨by rfl, ?_⟩) hHeld ?_ ?_
    rotate_left
    ·rintro w' ⟨s0, s1, s2, s3, s4, s5, s6, s7, s8, s9, s10, s11⟩
     go_simp
     with_reducible rfl
    rotate_left
    ·simp only [Act.put, List.setIfInBounds_toArray, List.set_cons_zero, List.set_cons_succ, i64_w, i32_w]
     rfl
    refine one_ (i := 2) (N := some 24) #[true, true, true, false, false] rfl rfl zq21 zq146 (fun K hK => ?_)
    refine goes_ Tryd.func6 zq21 rfl #[.agg #[.slice A0_0 l0_0.length c0_0, .int .i64 a0_1, .int .i64 a0_2, .string a0_3, .string a0_4, .int .i64 a0_5]] (by rfl) rfl rfl zq1 ?_
    with_reducible refine (laws_toConsole.calls k _ _ l0_0 a0_1 a0_2 a0_3 a0_4 a0_5 t341 t344 t345 t346 t347 t348 _ ?side1 ?side2 A26.out).mono ?_
    (case side1 => repeat (first | exact (Kd.C_below HR0_0.out HB.out) | (with_reducible refine Kd.C_alloc ?_ _) | (with_reducible refine Kd.C_drewN ?_ _) | (with_reducible refine Kd.C_drew ?_)))
    (case side2 => exact HC0_0.out)
    rintro e w44 ⟨v342, rfl, ho0, hb⟩
    refine ⟨_, rfl, ?_⟩
    have n0_ := am (Kd.S_elder' zq120 (Kd.S_base ho0) hb)
    have n1_ := am (Kd.S_elder' zq121 (Kd.S_base ho0) hb)
    have n2_ := am (Kd.S_lower (Kd.S_new' (Kd.S_new' ho0 (Kd.S_lt zq120)) (Kd.S_lt zq121)) (below_size zq118))
    have n3_ := am (blk_below (g := gb320) (o := .cells #[.slice A0_0 l0_0.length c0_0, .int .i64 a0_1, .int .i64 a0_2, .string a0_3, .string a0_4, .int .i64 a0_5] 30 (0, 0)) zq117 hb)
    have n4_ := am (blk_below (g := gb339) (o := .cells #[.slice Ao39 t331.length co39, .int .i64 t334, .int .i64 t335, .string t336, .string t337, .int .i64 t338] 40 (0, 0)) zq127 hb)
    have n5_ := am (below_step zq118 hb)
    clear HO324
    clear HO333
    clear BK320
    clear BK339
    clear HB
    have HO324 := n0_
    have HO333 := n1_
    have HO343 := n2_
    have BK320 := n3_
    have BK339 := n4_
    have HB := n5_
    clear n0_ n1_ n2_ n3_ n4_ n5_
    (try clear hb)
    (try clear hb2)
    (try clear hk)
    (try clear hi)
    (try clear ho0)
    obtain ⟨Ao45, co45, eo45⟩ := Kd.S_slice HO343.out
    (first | subst eo45 | (injection eo45 with f1_ f2_ f3_; have f4_ := f1_.symm; have f5_ := f3_.symm; clear f1_ f2_ f3_; subst f4_; subst f5_))
    refine hK.out _ _ ⟨(blk_cell BK339.out 0).trans rfl, (blk_cell BK339.out 1).trans rfl, (blk_cell BK339.out 2).trans rfl, (blk_cell BK339.out 3).trans rfl, (blk_cell BK339.out 4).trans rfl, (blk_cell BK339.out 5).trans rfl, (blk_cell BK320.out 0).trans rfl, (blk_cell BK320.out 1).trans rfl, (blk_cell BK320.out 2).trans rfl, (blk_cell BK320.out 3).trans rfl, (blk_cell BK320.out 4).trans rfl, (blk_cell BK320.out 5).trans rfl⟩ (fun hHeld => ?_)
    clear hK K
    refine norm_ (a' := ?_) ?_ ?_
    rotate_left
    ·show Act.put _ (some 24) _ = _
     simp only [Act.put, List.setIfInBounds_toArray, List.set_cons_zero, List.set_cons_succ, i64_w, i32_w]
     rfl
    refine one_ (i := 3) (N := some 25) #[true, true, true, true, false] rfl rfl zq21 zq146 (fun K hK => ?_)
    refine goes_ Tryd.func8 zq21 rfl #[.agg #[.slice Ao39 t331.length co39, .int .i64 t334, .int .i64 t335, .string t336, .string t337, .int .i64 t338], .agg #[.slice Ao45 t341.length co45, .int .i64 t344, .int .i64 t345, .string t346, .string t347, .int .i64 t348]] (by rfl) rfl rfl zq1 ?_
    with_reducible refine (laws_eqConsole.calls k _ _ t331 t334 t335 t336 t337 t338 _ _ t341 t344 t345 t346 t347 t348 true _ ?side1 ?side2 ?side3 ?side4 A27.out).mono ?_
    (case side1 => repeat (first | exact (Kd.S_reads' HO333.out).2.2 | (with_reducible refine Kd.C_alloc ?_ _) | (with_reducible refine Kd.C_drewN ?_ _) | (with_reducible refine Kd.C_drew ?_)))
    (case side2 => exact (Kd.S_reads' HO333.out).2.1)
    (case side3 => repeat (first | exact (Kd.S_reads' HO343.out).2.2 | (with_reducible refine Kd.C_alloc ?_ _) | (with_reducible refine Kd.C_drewN ?_ _) | (with_reducible refine Kd.C_drew ?_)))
    (case side4 => exact (Kd.S_reads' HO343.out).2.1)
    rintro e w46 ⟨rfl, hb⟩
    refine ⟨_, rfl, ?_⟩
    have n0_ := am (Kd.S_below zq120 hb)
    have n1_ := am (Kd.S_below zq121 hb)
    have n2_ := am (Kd.S_below zq156 hb)
    have n3_ := am (blk_below (g := gb320) (o := .cells #[.slice A0_0 l0_0.length c0_0, .int .i64 a0_1, .int .i64 a0_2, .string a0_3, .string a0_4, .int .i64 a0_5] 30 (0, 0)) zq117 hb)
    have n4_ := am (blk_below (g := gb339) (o := .cells #[.slice Ao39 t331.length co39, .int .i64 t334, .int .i64 t335, .string t336, .string t337, .int .i64 t338] 40 (0, 0)) zq127 hb)
    have n5_ := am (below_step zq118 hb)
    clear HO324
    clear HO333
    clear HO343
    clear BK320
    clear BK339
    clear HB
    have HO324 := n0_
    have HO333 := n1_
    have HO343 := n2_
    have BK320 := n3_
    have BK339 := n4_
    have HB := n5_
    clear n0_ n1_ n2_ n3_ n4_ n5_
    (try clear hb)
    (try clear hb2)
    (try clear hk)
    (try clear hi)
    refine hK.out _ _ ⟨(blk_cell BK339.out 0).trans rfl, (blk_cell BK339.out 1).trans rfl, (blk_cell BK339.out 2).trans rfl, (blk_cell BK339.out 3).trans rfl, (blk_cell BK339.out 4).trans rfl, (blk_cell BK339.out 5).trans rfl, (blk_cell BK320.out 0).trans rfl, (blk_cell BK320.out 1).trans rfl, (blk_cell BK320.out 2).trans rfl, (blk_cell BK320.out 3).trans rfl, (blk_cell BK320.out 4).trans rfl, (blk_cell BK320.out 5).trans rfl⟩ (fun hHeld => ?_)
    clear hK K
    refine norm_ (a' := ?_) ?_ ?_
    rotate_left
    ·show Act.put _ (some 25) _ = _
     simp only [Act.put, List.setIfInBounds_toArray, List.set_cons_zero, List.set_cons_succ, i64_w, i32_w]
     rfl
    refine pure_ (i := 4) (N := some 26) (v := ?_) (a' := ?_) #[true, true, true, true, true] rfl rfl zq21 (fun _ _ _ h => h) (Or.inl ⟨by rfl, ?_⟩) ?_ ?_
    rotate_left
    ·intro w'
     go_simp
     with_reducible rfl
    rotate_left
    ·simp only [Act.put, List.setIfInBounds_toArray, List.set_cons_zero, List.set_cons_succ, i64_w, i32_w]
     rfl
    refine done_ zq21 ?_
    try go_wp2
    go_ret
    exact ⟨zq2, zq118⟩
   ·replace c28 := Bool.eq_false_iff.mpr c28
    subst c28
    have H1 : (some false) = some r := by rw [if_neg (show ¬ (false = true) by decide)] at H; exact H
    clear H
    have H := H1
    clear H1
    obtain rfl := Option.some.inj H
    go_enter Tryd.func3, Tryd.ntmps3
    try go_wp2_with (first | ((with_reducible refine gate_dst (N := 1) rfl ?_); refine box_event ?hg (N := 1) ?hd (cs := #[.slice A0_0 l0_0.length c0_0, .int .i64 a0_1, .int .i64 a0_2, .string a0_3, .string a0_4, .int .i64 a0_5]) (t := 30) ?hr ?_; (case hd => rfl); (case hg => rfl); (case hr => first | (go_simp; done) | (go_simp; rfl)); intro gb320 hg w47 hbox hb; have n0_ := am (below_step zq0 hb); have n1_ := am (hbox); have n2_ := am ((zq4 : w.heap.size ≤ gb320)); have n3_ := am ((zq4 : w.heap.size ≤ gb320)); clear HB; have HB := n0_; have BK320 := n1_; have GW320 := n2_; have GE320 := n3_; clear n0_ n1_ n2_ n3_; clear hb hbox hg; have hcz48_0 : w47.cell? ⟨gb320, 0, none⟩ = some (.slice A0_0 l0_0.length c0_0) := (blk_cell BK320.out 0).trans rfl; have hcz48_1 : w47.cell? ⟨gb320, 1, none⟩ = some (.int .i64 a0_1) := (blk_cell BK320.out 1).trans rfl; have hcz48_2 : w47.cell? ⟨gb320, 2, none⟩ = some (.int .i64 a0_2) := (blk_cell BK320.out 2).trans rfl; have hcz48_3 : w47.cell? ⟨gb320, 3, none⟩ = some (.string a0_3) := (blk_cell BK320.out 3).trans rfl; have hcz48_4 : w47.cell? ⟨gb320, 4, none⟩ = some (.string a0_4) := (blk_cell BK320.out 4).trans rfl; have hcz48_5 : w47.cell? ⟨gb320, 5, none⟩ = some (.int .i64 a0_5) := (blk_cell BK320.out 5).trans rfl; have hfz48_0 := blk_frozen BK320.out 0; have hfz48_1 := blk_frozen BK320.out 1; have hfz48_2 := blk_frozen BK320.out 2; have hfz48_3 := blk_frozen BK320.out 3; have hfz48_4 := blk_frozen BK320.out 4; have hfz48_5 := blk_frozen BK320.out 5) | ((with_reducible refine gate_callee (f := 4) rfl ?_); refine goesL_ (some 9) rfl rfl Tryd.func4 zq21 rfl #[.agg #[.slice A0_0 l0_0.length c0_0, .int .i64 a0_1, .int .i64 a0_2, .string a0_3, .string a0_4, .int .i64 a0_5], .int .i64 1048576] rfl zq1 ?_; (with_reducible refine (laws_szConsole.calls k _ _ l0_0 a0_1 a0_2 a0_3 a0_4 a0_5 1048576 t321 _ ?side1 ?side2 A2.out).mono ?_); (case side1 => repeat (first | exact (Kd.C_below HR0_0.out HB.out) | (with_reducible refine Kd.C_alloc ?_ _) | (with_reducible refine Kd.C_drewN ?_ _) | (with_reducible refine Kd.C_drew ?_))); (case side2 => exact HC0_0.out); rintro e w49 ⟨rfl, hb⟩; refine ⟨_, rfl, ?_⟩; have n0_ := am (blk_below (g := gb320) (o := .cells #[.slice A0_0 l0_0.length c0_0, .int .i64 a0_1, .int .i64 a0_2, .string a0_3, .string a0_4, .int .i64 a0_5] 30 (0, 0)) zq117 hb); have n1_ := am (below_step zq116 hb); clear BK320; clear HB; have BK320 := n0_; have HB := n1_; clear n0_ n1_; (try clear hb); (try clear hb2); (try clear hk); (try clear hi); have hcz50_0 : w49.cell? ⟨gb320, 0, none⟩ = some (.slice A0_0 l0_0.length c0_0) := (blk_cell BK320.out 0).trans rfl; have hcz50_1 : w49.cell? ⟨gb320, 1, none⟩ = some (.int .i64 a0_1) := (blk_cell BK320.out 1).trans rfl; have hcz50_2 : w49.cell? ⟨gb320, 2, none⟩ = some (.int .i64 a0_2) := (blk_cell BK320.out 2).trans rfl; have hcz50_3 : w49.cell? ⟨gb320, 3, none⟩ = some (.string a0_3) := (blk_cell BK320.out 3).trans rfl; have hcz50_4 : w49.cell? ⟨gb320, 4, none⟩ = some (.string a0_4) := (blk_cell BK320.out 4).trans rfl; have hcz50_5 : w49.cell? ⟨gb320, 5, none⟩ = some (.int .i64 a0_5) := (blk_cell BK320.out 5).trans rfl; have hfz50_0 := blk_frozen BK320.out 0; have hfz50_1 := blk_frozen BK320.out 1; have hfz50_2 := blk_frozen BK320.out 2; have hfz50_3 := blk_frozen BK320.out 3; have hfz50_4 := blk_frozen BK320.out 4; have hfz50_5 := blk_frozen BK320.out 5) | ((with_reducible refine gate_callee (f := 6) rfl ?_); refine goesL_ (some 13) rfl rfl Tryd.func6 zq21 rfl #[.agg #[.slice A0_0 l0_0.length c0_0, .int .i64 a0_1, .int .i64 a0_2, .string a0_3, .string a0_4, .int .i64 a0_5]] rfl zq1 ?_; (with_reducible refine (laws_toConsole.calls k _ _ l0_0 a0_1 a0_2 a0_3 a0_4 a0_5 t322 t325 t326 t327 t328 t329 _ ?side1 ?side2 A7.out).mono ?_); (case side1 => repeat (first | exact (Kd.C_below HR0_0.out HB.out) | (with_reducible refine Kd.C_alloc ?_ _) | (with_reducible refine Kd.C_drewN ?_ _) | (with_reducible refine Kd.C_drew ?_))); (case side2 => exact HC0_0.out); rintro e w51 ⟨v323, rfl, ho0, hb⟩; refine ⟨_, rfl, ?_⟩; have n0_ := am (Kd.S_lower ho0 (below_size zq116)); have n1_ := am (blk_below (g := gb320) (o := .cells #[.slice A0_0 l0_0.length c0_0, .int .i64 a0_1, .int .i64 a0_2, .string a0_3, .string a0_4, .int .i64 a0_5] 30 (0, 0)) zq117 hb); have n2_ := am (below_step zq116 hb); clear BK320; clear HB; have HO324 := n0_; have BK320 := n1_; have HB := n2_; clear n0_ n1_ n2_; (try clear hb); (try clear hb2); (try clear hk); (try clear hi); (try clear ho0); obtain ⟨Ao52, co52, eo52⟩ := Kd.S_slice HO324.out; subst eo52) | ((with_reducible refine gate_callee (f := 5) rfl ?_); refine goesL_ (some 14) rfl rfl Tryd.func5 zq21 rfl #[.agg #[.slice Ao52 t322.length co52, .int .i64 t325, .int .i64 t326, .string t327, .string t328, .int .i64 t329]] rfl zq1 ?_; (with_reducible refine (spec_IsValidConsole.calls k _ _ t322 t325 t326 t327 t328 t329 t330 _ ?side1 ?side2 A8.out).mono ?_); (case side1 => repeat (first | exact (Kd.S_reads' HO324.out).2.2 | (with_reducible refine Kd.C_alloc ?_ _) | (with_reducible refine Kd.C_drewN ?_ _) | (with_reducible refine Kd.C_drew ?_))); (case side2 => exact (Kd.S_reads' HO324.out).2.1); rintro e w53 ⟨rfl, hb⟩; refine ⟨_, rfl, ?_⟩; have n0_ := am (Kd.S_below zq120 hb); have n1_ := am (blk_below (g := gb320) (o := .cells #[.slice A0_0 l0_0.length c0_0, .int .i64 a0_1, .int .i64 a0_2, .string a0_3, .string a0_4, .int .i64 a0_5] 30 (0, 0)) zq117 hb); have n2_ := am (below_step zq116 hb); clear HO324; clear BK320; clear HB; have HO324 := n0_; have BK320 := n1_; have HB := n2_; clear n0_ n1_ n2_; (try clear hb); (try clear hb2); (try clear hk); (try clear hi); have hcz54_0 : w53.cell? ⟨gb320, 0, none⟩ = some (.slice A0_0 l0_0.length c0_0) := (blk_cell BK320.out 0).trans rfl; have hcz54_1 : w53.cell? ⟨gb320, 1, none⟩ = some (.int .i64 a0_1) := (blk_cell BK320.out 1).trans rfl; have hcz54_2 : w53.cell? ⟨gb320, 2, none⟩ = some (.int .i64 a0_2) := (blk_cell BK320.out 2).trans rfl; have hcz54_3 : w53.cell? ⟨gb320, 3, none⟩ = some (.string a0_3) := (blk_cell BK320.out 3).trans rfl; have hcz54_4 : w53.cell? ⟨gb320, 4, none⟩ = some (.string a0_4) := (blk_cell BK320.out 4).trans rfl; have hcz54_5 : w53.cell? ⟨gb320, 5, none⟩ = some (.int .i64 a0_5) := (blk_cell BK320.out 5).trans rfl; have hfz54_0 := blk_frozen BK320.out 0; have hfz54_1 := blk_frozen BK320.out 1; have hfz54_2 := blk_frozen BK320.out 2; have hfz54_3 := blk_frozen BK320.out 3; have hfz54_4 := blk_frozen BK320.out 4; have hfz54_5 := blk_frozen BK320.out 5) | ((with_reducible refine gate_callee (f := 6) rfl ?_); refine goesL_ (some 16) rfl rfl Tryd.func6 zq21 rfl #[.agg #[.slice A0_0 l0_0.length c0_0, .int .i64 a0_1, .int .i64 a0_2, .string a0_3, .string a0_4, .int .i64 a0_5]] rfl zq1 ?_; (with_reducible refine (laws_toConsole.calls k _ _ l0_0 a0_1 a0_2 a0_3 a0_4 a0_5 t331 t334 t335 t336 t337 t338 _ ?side1 ?side2 A9.out).mono ?_); (case side1 => repeat (first | exact (Kd.C_below HR0_0.out HB.out) | (with_reducible refine Kd.C_alloc ?_ _) | (with_reducible refine Kd.C_drewN ?_ _) | (with_reducible refine Kd.C_drew ?_))); (case side2 => exact HC0_0.out); rintro e w55 ⟨v332, rfl, ho0, hb⟩; refine ⟨_, rfl, ?_⟩; have n0_ := am (Kd.S_elder' zq120 (Kd.S_base ho0) hb); have n1_ := am (Kd.S_lower (Kd.S_new' ho0 (Kd.S_lt zq120)) (below_size zq116)); have n2_ := am (blk_below (g := gb320) (o := .cells #[.slice A0_0 l0_0.length c0_0, .int .i64 a0_1, .int .i64 a0_2, .string a0_3, .string a0_4, .int .i64 a0_5] 30 (0, 0)) zq117 hb); have n3_ := am (below_step zq116 hb); clear HO324; clear BK320; clear HB; have HO324 := n0_; have HO333 := n1_; have BK320 := n2_; have HB := n3_; clear n0_ n1_ n2_ n3_; (try clear hb); (try clear hb2); (try clear hk); (try clear hi); (try clear ho0)) | ((with_reducible refine gate_dst (N := 5) rfl ?_); refine box_event ?hg (N := 5) ?hd (cs := #[.slice none 0 0, .int .i64 0, .int .i64 0, .string ⟨#[]⟩, .string ⟨#[]⟩, .int .i64 0]) (t := 40) ?hr ?_; (case hd => rfl); (case hg => rfl); (case hr => first | (go_simp; done) | (go_simp; rfl)); intro gb339 hg w56 hbox hb; have n0_ := am (Kd.S_below zq120 hb); have n1_ := am (Kd.S_below zq121 hb); have n2_ := am (blk_below (g := gb320) (o := .cells #[.slice A0_0 l0_0.length c0_0, .int .i64 a0_1, .int .i64 a0_2, .string a0_3, .string a0_4, .int .i64 a0_5] 30 (0, 0)) zq117 hb); have n3_ := am (below_step zq116 hb); have n4_ := am (hbox); have n5_ := am ((zq136 : w.heap.size ≤ gb339)); have n6_ := am ((zq136 : w.heap.size ≤ gb339)); have n7_ := am ((zq125 : gb320 ≠ gb339)); have n8_ := am ((zq126 : gb339 ≠ gb320)); clear HO324; clear HO333; clear BK320; clear HB; have HO324 := n0_; have HO333 := n1_; have BK320 := n2_; have HB := n3_; have BK339 := n4_; have GW339 := n5_; have GE339 := n6_; have NB320_339 := n7_; have NB339_320 := n8_; clear n0_ n1_ n2_ n3_ n4_ n5_ n6_ n7_ n8_; clear hb hbox hg; obtain ⟨Ao57, co57, eo57⟩ := Kd.S_slice HO333.out; subst eo57; have hnb58 := NB339_320.out; have hnc58 := NB320_339.out; have hcz59_0 : w56.cell? ⟨gb339, 0, none⟩ = some (.slice none 0 0) := (blk_cell BK339.out 0).trans rfl; have hcz59_1 : w56.cell? ⟨gb339, 1, none⟩ = some (.int .i64 0) := (blk_cell BK339.out 1).trans rfl; have hcz59_2 : w56.cell? ⟨gb339, 2, none⟩ = some (.int .i64 0) := (blk_cell BK339.out 2).trans rfl; have hcz59_3 : w56.cell? ⟨gb339, 3, none⟩ = some (.string ⟨#[]⟩) := (blk_cell BK339.out 3).trans rfl; have hcz59_4 : w56.cell? ⟨gb339, 4, none⟩ = some (.string ⟨#[]⟩) := (blk_cell BK339.out 4).trans rfl; have hcz59_5 : w56.cell? ⟨gb339, 5, none⟩ = some (.int .i64 0) := (blk_cell BK339.out 5).trans rfl; have hfz59_0 := blk_frozen BK339.out 0; have hfz59_1 := blk_frozen BK339.out 1; have hfz59_2 := blk_frozen BK339.out 2; have hfz59_3 := blk_frozen BK339.out 3; have hfz59_4 := blk_frozen BK339.out 4; have hfz59_5 := blk_frozen BK339.out 5) | ((with_reducible refine gate_callee (f := 7) rfl ?_); refine goesL_ (some 18) rfl rfl Tryd.func7 zq21 rfl #[.agg #[.slice Ao57 t331.length co57, .int .i64 t334, .int .i64 t335, .string t336, .string t337, .int .i64 t338]] rfl zq1 ?_; (with_reducible refine (impl_IsValidConsole.calls k _ _ t331 t334 t335 t336 t337 t338 t340 _ ?side1 ?side2 ?side3 A10.out).mono ?_); (case side1 => refine (Kd.S_reads' (e := 63) (base := w.heap.size) (ok := fun k_ => (True ∧ some k_ ≠ (.slice Ao52 t322.length co52 : Value).ownBlock)) (n := t331.length) (c := co57) ?_).2.2; exact zq124); (case side2 => exact (Kd.S_reads' HO333.out).2.1); (case side3 => exact Glob.below HGL.out zq118); rintro e w60 ⟨rfl, hb⟩; refine ⟨_, rfl, ?_⟩; have n0_ := am (Kd.S_below (by (with_reducible repeat (first | apply Kd.S_alloc | apply Kd.S_drewN | apply Kd.S_drew)); exact (Kd.S_mono (Kd.S_far (p := ⟨gb339, 5, none⟩) (Kd.S_far (p := ⟨gb339, 4, none⟩) (Kd.S_far (p := ⟨gb339, 3, none⟩) (Kd.S_far (p := ⟨gb339, 2, none⟩) (Kd.S_far (p := ⟨gb339, 1, none⟩) (Kd.S_far (p := ⟨gb339, 0, none⟩) (Kd.S_types HO324.out BK339.out zq146) (fun _ hk => hk.2) (.slice Ao57 t331.length co57)) (fun _ hk => hk.2) (.int .i64 t334)) (fun _ hk => hk.2) (.int .i64 t335)) (fun _ hk => hk.2) (.string t336)) (fun _ hk => hk.2) (.string t337)) (fun _ hk => hk.2) (.int .i64 t338)) (fun _ h_ => h_.1))) hb); have n1_ := am (Kd.S_below zq124 hb); have n2_ := am (blk_below (g := gb320) (o := .cells #[.slice A0_0 l0_0.length c0_0, .int .i64 a0_1, .int .i64 a0_2, .string a0_3, .string a0_4, .int .i64 a0_5] 30 (0, 0)) zq119 hb); have n3_ := am (blk_below (g := gb339) (o := .cells #[.slice Ao57 t331.length co57, .int .i64 t334, .int .i64 t335, .string t336, .string t337, .int .i64 t338] 40 (0, 0)) (by (with_reducible repeat (first | refine blk_drewN ?_ _ | refine blk_drew ?_ | refine blk_alloc ?_ _)); refine blk_put (cs := #[.slice Ao57 t331.length co57, .int .i64 t334, .int .i64 t335, .string t336, .string t337, .int .i64 0]) ?_ 5 _ rfl; (with_reducible repeat (first | refine blk_drewN ?_ _ | refine blk_drew ?_ | refine blk_alloc ?_ _)); refine blk_put (cs := #[.slice Ao57 t331.length co57, .int .i64 t334, .int .i64 t335, .string t336, .string ⟨#[]⟩, .int .i64 0]) ?_ 4 _ rfl; (with_reducible repeat (first | refine blk_drewN ?_ _ | refine blk_drew ?_ | refine blk_alloc ?_ _)); refine blk_put (cs := #[.slice Ao57 t331.length co57, .int .i64 t334, .int .i64 t335, .string ⟨#[]⟩, .string ⟨#[]⟩, .int .i64 0]) ?_ 3 _ rfl; (with_reducible repeat (first | refine blk_drewN ?_ _ | refine blk_drew ?_ | refine blk_alloc ?_ _)); refine blk_put (cs := #[.slice Ao57 t331.length co57, .int .i64 t334, .int .i64 0, .string ⟨#[]⟩, .string ⟨#[]⟩, .int .i64 0]) ?_ 2 _ rfl; (with_reducible repeat (first | refine blk_drewN ?_ _ | refine blk_drew ?_ | refine blk_alloc ?_ _)); refine blk_put (cs := #[.slice Ao57 t331.length co57, .int .i64 0, .int .i64 0, .string ⟨#[]⟩, .string ⟨#[]⟩, .int .i64 0]) ?_ 1 _ rfl; (with_reducible repeat (first | refine blk_drewN ?_ _ | refine blk_drew ?_ | refine blk_alloc ?_ _)); refine blk_put (cs := #[.slice none 0 0, .int .i64 0, .int .i64 0, .string ⟨#[]⟩, .string ⟨#[]⟩, .int .i64 0]) ?_ 0 _ rfl; (with_reducible repeat (first | refine blk_drewN ?_ _ | refine blk_drew ?_ | refine blk_alloc ?_ _)); exact BK339.out) hb); have n4_ := am (below_step zq118 hb); clear HO324; clear HO333; clear BK320; clear BK339; clear HB; have HO324 := n0_; have HO333 := n1_; have BK320 := n2_; have BK339 := n3_; have HB := n4_; clear n0_ n1_ n2_ n3_ n4_; (try clear hb); (try clear hb2); (try clear hk); (try clear hi)))
    have n0_ := am (Kd.S_drew HO324.out)
    have n1_ := am (Kd.S_drew HO333.out)
    have n2_ := am (blk_drew BK320.out)
    have n3_ := am (blk_drew BK339.out)
    have n4_ := am (below_drew1 HB.out)
    clear HO324
    clear HO333
    clear BK320
    clear BK339
    clear HB
    have HO324 := n0_
    have HO333 := n1_
    have BK320 := n2_
    have BK339 := n3_
    have HB := n4_
    clear n0_ n1_ n2_ n3_ n4_
    refine start_ (n := 5) (S := fun w' => w'.cell? ⟨gb339, 0, none⟩ = some (.slice Ao57 t331.length co57) ∧ w'.cell? ⟨gb339, 1, none⟩ = some (.int .i64 t334) ∧ w'.cell? ⟨gb339, 2, none⟩ = some (.int .i64 t335) ∧ w'.cell? ⟨gb339, 3, none⟩ = some (.string t336) ∧ w'.cell? ⟨gb339, 4, none⟩ = some (.string t337) ∧ w'.cell? ⟨gb339, 5, none⟩ = some (.int .i64 t338) ∧ w'.cell? ⟨gb320, 0, none⟩ = some (.slice A0_0 l0_0.length c0_0) ∧ w'.cell? ⟨gb320, 1, none⟩ = some (.int .i64 a0_1) ∧ w'.cell? ⟨gb320, 2, none⟩ = some (.int .i64 a0_2) ∧ w'.cell? ⟨gb320, 3, none⟩ = some (.string a0_3) ∧ w'.cell? ⟨gb320, 4, none⟩ = some (.string a0_4) ∧ w'.cell? ⟨gb320, 5, none⟩ = some (.int .i64 a0_5)) (ds := []) #[false, false, false, false, false] zq21 rfl rfl ⟨(blk_cell BK339.out 0).trans rfl, (blk_cell BK339.out 1).trans rfl, (blk_cell BK339.out 2).trans rfl, (blk_cell BK339.out 3).trans rfl, (blk_cell BK339.out 4).trans rfl, (blk_cell BK339.out 5).trans rfl, (blk_cell BK320.out 0).trans rfl, (blk_cell BK320.out 1).trans rfl, (blk_cell BK320.out 2).trans rfl, (blk_cell BK320.out 3).trans rfl, (blk_cell BK320.out 4).trans rfl, (blk_cell BK320.out 5).trans rfl⟩ (fun hHeld => ?_)
    generalize w60.drew = w61 at HO324 HO333 BK320 BK339 HB hHeld ⊢
    refine take_ (i := 0) (N := some 22) (v := ?_) (a' := ?_) #[true, false, false, false, false] rfl rfl zq21 (fun _ _ _ h => h) (Or.inl ⟨by rfl, ?_⟩) hHeld ?_ ?_
    rotate_left
    ·rintro w' ⟨s0, s1, s2, s3, s4, s5, s6, s7, s8, s9, s10, s11⟩
     go_simp
     with_reducible rfl
    rotate_left
    ·simp only [Act.put, List.setIfInBounds_toArray, List.set_cons_zero, List.set_cons_succ, i64_w, i32_w]
     rfl
    refine take_ (i := 1) (N := some 23) (v := ?_) (a' := ?_) #[true, true, false, false, false] rfl rfl zq21 (fun _ _ _ h => h) (Or.inl ⟨by rfl, ?_⟩) hHeld ?_ ?_
    rotate_left
    ·rintro w' ⟨s0, s1, s2, s3, s4, s5, s6, s7, s8, s9, s10, s11⟩
     go_simp
     with_reducible rfl
    rotate_left
    ·simp only [Act.put, List.setIfInBounds_toArray, List.set_cons_zero, List.set_cons_succ, i64_w, i32_w]
     rfl
    refine one_ (i := 2) (N := some 24) #[true, true, true, false, false] rfl rfl zq21 zq146 (fun K hK => ?_)
    refine goes_ Tryd.func6 zq21 rfl #[.agg #[.slice A0_0 l0_0.length c0_0, .int .i64 a0_1, .int .i64 a0_2, .string a0_3, .string a0_4, .int .i64 a0_5]] (by rfl) rfl rfl zq1 ?_
    with_reducible refine (laws_toConsole.calls k _ _ l0_0 a0_1 a0_2 a0_3 a0_4 a0_5 t341 t344 t345 t346 t347 t348 _ ?side1 ?side2 A26.out).mono ?_
    (case side1 => repeat (first | exact (Kd.C_below HR0_0.out HB.out) | (with_reducible refine Kd.C_alloc ?_ _) | (with_reducible refine Kd.C_drewN ?_ _) | (with_reducible refine Kd.C_drew ?_)))
    (case side2 => exact HC0_0.out)
    rintro e w62 ⟨v342, rfl, ho0, hb⟩
    refine ⟨_, rfl, ?_⟩
    have n0_ := am (Kd.S_elder' zq120 (Kd.S_base ho0) hb)
    have n1_ := am (Kd.S_elder' zq121 (Kd.S_base ho0) hb)
    have n2_ := am (Kd.S_lower (Kd.S_new' (Kd.S_new' ho0 (Kd.S_lt zq120)) (Kd.S_lt zq121)) (below_size zq118))
    have n3_ := am (blk_below (g := gb320) (o := .cells #[.slice A0_0 l0_0.length c0_0, .int .i64 a0_1, .int .i64 a0_2, .string a0_3, .string a0_4, .int .i64 a0_5] 30 (0, 0)) zq117 hb)
    have n4_ := am (blk_below (g := gb339) (o := .cells #[.slice Ao57 t331.length co57, .int .i64 t334, .int .i64 t335, .string t336, .string t337, .int .i64 t338] 40 (0, 0)) zq127 hb)
    have n5_ := am (below_step zq118 hb)
    clear HO324
    clear HO333
    clear BK320
    clear BK339
    clear HB
    have HO324 := n0_
    have HO333 := n1_
    have HO343 := n2_
    have BK320 := n3_
    have BK339 := n4_
    have HB := n5_
    clear n0_ n1_ n2_ n3_ n4_ n5_
    (try clear hb)
    (try clear hb2)
    (try clear hk)
    (try clear hi)
    (try clear ho0)
    obtain ⟨Ao63, co63, eo63⟩ := Kd.S_slice HO343.out
    (first | subst eo63 | (injection eo63 with f1_ f2_ f3_; have f4_ := f1_.symm; have f5_ := f3_.symm; clear f1_ f2_ f3_; subst f4_; subst f5_))
    refine hK.out _ _ ⟨(blk_cell BK339.out 0).trans rfl, (blk_cell BK339.out 1).trans rfl, (blk_cell BK339.out 2).trans rfl, (blk_cell BK339.out 3).trans rfl, (blk_cell BK339.out 4).trans rfl, (blk_cell BK339.out 5).trans rfl, (blk_cell BK320.out 0).trans rfl, (blk_cell BK320.out 1).trans rfl, (blk_cell BK320.out 2).trans rfl, (blk_cell BK320.out 3).trans rfl, (blk_cell BK320.out 4).trans rfl, (blk_cell BK320.out 5).trans rfl⟩ (fun hHeld => ?_)
    clear hK K
    refine norm_ (a' := ?_) ?_ ?_
    rotate_left
    ·show Act.put _ (some 24) _ = _
     simp only [Act.put, List.setIfInBounds_toArray, List.set_cons_zero, List.set_cons_succ, i64_w, i32_w]
     rfl
    refine one_ (i := 3) (N := some 25) #[true, true, true, true, false] rfl rfl zq21 zq146 (fun K hK => ?_)
    refine goes_ Tryd.func8 zq21 rfl #[.agg #[.slice Ao57 t331.length co57, .int .i64 t334, .int .i64 t335, .string t336, .string t337, .int .i64 t338], .agg #[.slice Ao63 t341.length co63, .int .i64 t344, .int .i64 t345, .string t346, .string t347, .int .i64 t348]] (by rfl) rfl rfl zq1 ?_
    with_reducible refine (laws_eqConsole.calls k _ _ t331 t334 t335 t336 t337 t338 _ _ t341 t344 t345 t346 t347 t348 false _ ?side1 ?side2 ?side3 ?side4 A27.out).mono ?_
    (case side1 => repeat (first | exact (Kd.S_reads' HO333.out).2.2 | (with_reducible refine Kd.C_alloc ?_ _) | (with_reducible refine Kd.C_drewN ?_ _) | (with_reducible refine Kd.C_drew ?_)))
    (case side2 => exact (Kd.S_reads' HO333.out).2.1)
    (case side3 => repeat (first | exact (Kd.S_reads' HO343.out).2.2 | (with_reducible refine Kd.C_alloc ?_ _) | (with_reducible refine Kd.C_drewN ?_ _) | (with_reducible refine Kd.C_drew ?_)))
    (case side4 => exact (Kd.S_reads' HO343.out).2.1)
    rintro e w64 ⟨rfl, hb⟩
    refine ⟨_, rfl, ?_⟩
    have n0_ := am (Kd.S_below zq120 hb)
    have n1_ := am (Kd.S_below zq121 hb)
    have n2_ := am (Kd.S_below zq156 hb)
    have n3_ := am (blk_below (g := gb320) (o := .cells #[.slice A0_0 l0_0.length c0_0, .int .i64 a0_1, .int .i64 a0_2, .string a0_3, .string a0_4, .int .i64 a0_5] 30 (0, 0)) zq117 hb)
    have n4_ := am (blk_below (g := gb339) (o := .cells #[.slice Ao57 t331.length co57, .int .i64 t334, .int .i64 t335, .string t336, .string t337, .int .i64 t338] 40 (0, 0)) zq127 hb)
    have n5_ := am (below_step zq118 hb)
    clear HO324
    clear HO333
    clear HO343
    clear BK320
    clear BK339
    clear HB
    have HO324 := n0_
    have HO333 := n1_
    have HO343 := n2_
    have BK320 := n3_
    have BK339 := n4_
    have HB := n5_
    clear n0_ n1_ n2_ n3_ n4_ n5_
    (try clear hb)
    (try clear hb2)
    (try clear hk)
    (try clear hi)
    refine hK.out _ _ ⟨(blk_cell BK339.out 0).trans rfl, (blk_cell BK339.out 1).trans rfl, (blk_cell BK339.out 2).trans rfl, (blk_cell BK339.out 3).trans rfl, (blk_cell BK339.out 4).trans rfl, (blk_cell BK339.out 5).trans rfl, (blk_cell BK320.out 0).trans rfl, (blk_cell BK320.out 1).trans rfl, (blk_cell BK320.out 2).trans rfl, (blk_cell BK320.out 3).trans rfl, (blk_cell BK320.out 4).trans rfl, (blk_cell BK320.out 5).trans rfl⟩ (fun hHeld => ?_)
    clear hK K
    refine norm_ (a' := ?_) ?_ ?_
    rotate_left
    ·show Act.put _ (some 25) _ = _
     simp only [Act.put, List.setIfInBounds_toArray, List.set_cons_zero, List.set_cons_succ, i64_w, i32_w]
     rfl
    refine pure_ (i := 4) (N := some 26) (v := ?_) (a' := ?_) #[true, true, true, true, true] rfl rfl zq21 (fun _ _ _ h => h) (Or.inl ⟨by rfl, ?_⟩) ?_ ?_
    rotate_left
    ·intro w'
     go_simp
     with_reducible rfl
    rotate_left
    ·simp only [Act.put, List.setIfInBounds_toArray, List.set_cons_zero, List.set_cons_succ, i64_w, i32_w]
     rfl
    refine done_ zq21 ?_
    try go_wp2
    go_ret
    exact ⟨zq2, zq118⟩
end Go.Proofs.YthdhhpcbagpmgaaDoor.Pr
end

section
namespace Go.Proofs.YthdhhpcbagpmgaaDoor.PureL
open Go.RowKit Go.Proofs.YthdhhpcbagpmgaaDoor.Pr Go.Proofs.YthdhhpcbagpmgaaDoorW.PrintWords Go.Proofs.YthdhhpcbagpmgaaDoorW.PrintLast
abbrev L (s : ByteArray) : List UInt8 := s.data.toList
theorem ext_L {a b : ByteArray} (h : L a = L b) : a = b := by
 obtain ⟨⟨la⟩⟩ := a
 obtain ⟨⟨lb⟩⟩ := b
 have : la = lb := h
 rw [this]
theorem size_L (s : ByteArray) : s.size = (L s).length := by simp only [L, Array.length_toList]; rfl
theorem L_append (a b : ByteArray) : L (a ++ b) = L a ++ L b := by
 simp [L]
theorem L_extract (s : ByteArray) (a b : Nat) : L (s.extract a b) = ((L s).drop a).take (b - a) := Lib.extract_data s a b
theorem L_toList (s : ByteArray) : s.toList = L s := Lib.toList_data s
theorem L_mk (l : List UInt8) : L ⟨l.toArray⟩ = l := rfl
theorem toList_inj {a b : ByteArray} : a.toList = b.toList ↔ a = b := by
 rw [L_toList, L_toList]
 exact ⟨ext_L, fun h => by rw [h]⟩
theorem wrap_up {i : Int} {n : Nat} (h0 : 0 ≤ i) (h : i < (n : Int)) (hn : n ≤ 9223372036854775807) : wrap64 (i + 1) = i + 1 := by
 unfold wrap64
 omega
theorem wrap_in {i : Int} (h0 : -9223372036854775808 ≤ i) (h : i ≤ 9223372036854775807) : wrap64 i = i := by
 unfold wrap64
 omega
theorem bt_get (s : ByteArray) (i : Nat) (h : i < (L s).length) : bt s (i : Int) = (((L s)[i]'h).toNat : Int) := by
 have h' : i < s.size := by rw [size_L]; exact h
 unfold bt
 simp only [Int.toNat_natCast, h', dif_pos]
 rfl
theorem bt_drop {s : ByteArray} {i : Nat} {b : UInt8} {l : List UInt8} (h : (L s).drop i = b :: l) : bt s (i : Int) = (b.toNat : Int) ∧ (L s).drop (i + 1) = l ∧ i < s.size := by
 have hi : i < (L s).length := by
  apply Decidable.byContradiction
  intro hc
  rw [List.drop_eq_nil_of_le (by omega)] at h
  cases h
 have e := List.drop_eq_getElem_cons hi
 rw [h] at e
 injection e with e1 e2
 refine ⟨by rw [bt_get s i hi, e1], e2.symm, by rw [size_L]; exact hi⟩
theorem drop_nil_iff {s : ByteArray} {i : Nat} : (L s).drop i = [] ↔ s.size ≤ i := by rw [List.drop_eq_nil_iff, size_L]
theorem byte_eq (a b : UInt8) : ((a.toNat : Int) = (b.toNat : Int)) ↔ a = b := by
 constructor
 ·intro h; exact UInt8.toNat_inj.1 (by omega)
 ·rintro rfl; rfl
theorem stands_l0 (s : ByteArray) (c : UInt8) (hs : s.size ≤ 9223372036854775807) : ∀ (l : List UInt8) (i k : Nat), (L s).drop i = l → i ≤ s.size → l.length < k →
  spec_l1Stands.l0 k s (c.toNat : Int) (i : Int) = some (decide (c ∈ l))
 | [], i, k, h, hi, hk => by
  obtain ⟨k, rfl⟩ : ∃ m, k = m + 1 := ⟨k - 1, by omega⟩
  have := drop_nil_iff.1 h
  simp only [spec_l1Stands.l0]
  rw [if_neg (by omega)]
  simp
 | b :: l, i, k, h, hi, hk => by
  obtain ⟨k, rfl⟩ : ∃ m, k = m + 1 := ⟨k - 1, by omega⟩
  obtain ⟨h1, h2, h3⟩ := bt_drop h
  simp only [List.length_cons] at hk
  simp only [spec_l1Stands.l0]
  rw [if_pos (by omega), if_pos (by omega), h1]
  by_cases e : b = c
  ·subst e; simp
  ·rw [if_neg (fun h => e ((byte_eq _ _).1 h)), wrap_up (n := s.size) (by omega) (by omega) hs]
   have := stands_l0 s c hs l (i + 1) k h2 (by omega) (by omega)
   rw [show ((i : Int) + 1) = ((i + 1 : Nat) : Int) from by omega, this]
   simp [Ne.symm e]
theorem stands (s : ByteArray) (c : UInt8) (k : Nat) (hs : s.size ≤ 9223372036854775807) (hk : s.size < k) : spec_l1Stands.f k s (c.toNat : Int) = some (decide (c ∈ L s)) := by
 unfold spec_l1Stands.f
 exact stands_l0 s c hs (L s) 0 k rfl (by omega) (by rw [← size_L]; exact hk)
def okB (b : UInt8) : Bool := 32 ≤ b && b ≤ 126 && b != 35
theorem okB_iff (b : UInt8) : okB b = true ↔ 32 ≤ (b.toNat : Int) ∧ (b.toNat : Int) ≤ 126 ∧ (b.toNat : Int) ≠ 35 := by
 unfold okB
 simp only [Bool.and_eq_true, decide_eq_true_eq, bne_iff_ne, ne_eq, UInt8.le_iff_toNat_le]
 rw [show (35 : Int) = ((35 : UInt8).toNat : Int) from rfl, byte_eq]
 constructor
 ·rintro ⟨⟨h1, h2⟩, h3⟩
  exact ⟨by have : (32 : UInt8).toNat = 32 := rfl; omega, by have : (126 : UInt8).toNat = 126 := rfl; omega, h3⟩
 ·rintro ⟨h1, h2, h3⟩
  exact ⟨⟨by have : (32 : UInt8).toNat = 32 := rfl; omega, by have : (126 : UInt8).toNat = 126 := rfl; omega⟩, h3⟩
theorem bytes_l0 (s : ByteArray) (m : Int) (hs : s.size ≤ 9223372036854775807) : ∀ (l : List UInt8) (i k : Nat), (L s).drop i = l → i ≤ s.size → l.length < k →
  spec_l12Bytes.l0 k s m (i : Int) = some (l.all okB && decide ((s.size : Int) ≤ m))
 | [], i, k, h, hi, hk => by
  obtain ⟨k, rfl⟩ : ∃ m, k = m + 1 := ⟨k - 1, by omega⟩
  have := drop_nil_iff.1 h
  simp only [spec_l12Bytes.l0]
  rw [if_neg (by omega)]
  simp
 | b :: l, i, k, h, hi, hk => by
  obtain ⟨k, rfl⟩ : ∃ m, k = m + 1 := ⟨k - 1, by omega⟩
  obtain ⟨h1, h2, h3⟩ := bt_drop h
  simp only [List.length_cons] at hk
  have hb : b.toNat < 256 := b.toNat_lt
  simp only [spec_l12Bytes.l0]
  rw [if_pos (by omega), if_pos (by omega), h1, wrap_in (by omega) (by omega)]
  have ih := bytes_l0 s m hs l (i + 1) k h2 (by omega) (by omega)
  unfold spec_l1In.f
  simp only [List.all_cons]
  cases e : okB b with
  | true =>
   obtain ⟨e1, e2, e3⟩ := (okB_iff b).1 e
   rw [if_pos (by omega)]
   simp only [Option.bind_some, decide_eq_true_eq]
   rw [if_pos e2, if_neg e3, wrap_up (n := s.size) (by omega) (by omega) hs, show ((i : Int) + 1) = ((i + 1 : Nat) : Int) from by omega, ih]
   simp
  | false =>
   have e' : ¬ (32 ≤ (b.toNat : Int) ∧ (b.toNat : Int) ≤ 126 ∧ (b.toNat : Int) ≠ 35) := fun h => by rw [(okB_iff b).2 h] at e; cases e
   by_cases c1 : 32 ≤ (b.toNat : Int)
   ·rw [if_pos c1]
    simp only [Option.bind_some, decide_eq_true_eq]
    by_cases c2 : (b.toNat : Int) ≤ 126
    ·rw [if_pos c2, if_pos (by omega)]; simp
    ·rw [if_neg c2]; simp
   ·rw [if_neg c1]; simp
def printed (l : List UInt8) (m : Nat) : Bool := l.all okB && decide (l.length ≤ m)
theorem bytes (s : ByteArray) (m k : Nat) (hs : s.size ≤ 9223372036854775807) (hk : s.size < k) : spec_l12Bytes.f k s (m : Int) = some (printed (L s) m) := by
 unfold spec_l12Bytes.f
 rw [show (0 : Int) = ((0 : Nat) : Int) from rfl, bytes_l0 s m hs (L s) 0 k rfl (by omega) (by rw [← size_L]; exact hk)]
 unfold printed
 rw [size_L]
 congr 2
 exact decide_eq_decide.2 (by omega)
theorem isPrinted_l0 (s : ByteArray) (m : Int) (hs : s.size ≤ 9223372036854775807) : ∀ (l : List UInt8) (i k : Nat), (L s).drop i = l → i ≤ s.size → l.length < k →
  impl_isPrinted.l0 k s m (s.size : Int) (i : Int) = some (l.all okB && decide ((s.size : Int) ≤ m))
 | [], i, k, h, hi, hk => by
  obtain ⟨k, rfl⟩ : ∃ m, k = m + 1 := ⟨k - 1, by omega⟩
  have := drop_nil_iff.1 h
  simp only [impl_isPrinted.l0]
  rw [if_neg (by omega)]
  simp
 | b :: l, i, k, h, hi, hk => by
  obtain ⟨k, rfl⟩ : ∃ m, k = m + 1 := ⟨k - 1, by omega⟩
  obtain ⟨h1, h2, h3⟩ := bt_drop h
  simp only [List.length_cons] at hk
  simp only [impl_isPrinted.l0]
  rw [if_pos (by omega), if_pos (by omega), if_pos (by omega), h1]
  have ih := isPrinted_l0 s m hs l (i + 1) k h2 (by omega) (by omega)
  simp only [List.all_cons]
  cases e : okB b with
  | true =>
   obtain ⟨e1, e2, e3⟩ := (okB_iff b).1 e
   rw [if_neg (by omega), if_neg (by omega), if_neg e3, wrap_up (n := s.size) (by omega) (by omega) hs, show ((i : Int) + 1) = ((i + 1 : Nat) : Int) from by omega, ih]
   simp
  | false =>
   have e' : ¬ (32 ≤ (b.toNat : Int) ∧ (b.toNat : Int) ≤ 126 ∧ (b.toNat : Int) ≠ 35) := fun h => by rw [(okB_iff b).2 h] at e; cases e
   by_cases c1 : (b.toNat : Int) < 32
   ·rw [if_pos c1]; simp
   ·rw [if_neg c1]
    by_cases c2 : (b.toNat : Int) > 126
    ·rw [if_pos c2]; simp
    ·rw [if_neg c2, if_pos (by omega)]; simp
theorem isPrinted (s : ByteArray) (m k : Nat) (hs : s.size ≤ 9223372036854775807) (hk : s.size < k) : impl_isPrinted.f k s (m : Int) = some (printed (L s) m) := by
 unfold impl_isPrinted.f
 rw [show (0 : Int) = ((0 : Nat) : Int) from rfl, isPrinted_l0 s m hs (L s) 0 k rfl (by omega) (by rw [← size_L]; exact hk)]
 unfold printed
 rw [size_L]
 congr 2
 exact decide_eq_decide.2 (by omega)
def validRec (c r : List UInt8) : Bool := !c.isEmpty && printed c 160 && !decide ((64 : UInt8) ∈ c) && printed r 280
theorem spec_valid (c r : ByteArray) (k : Nat) (hc : c.size ≤ 9223372036854775807) (hr : r.size ≤ 9223372036854775807) (hk : c.size < k) (hk' : r.size < k) :
  spec_l12Record.f k c r = some (validRec (L c) (L r)) := by
 unfold spec_l12Record.f validRec
 rw [L_toList, show (160 : Int) = ((160 : Nat) : Int) from rfl, show (280 : Int) = ((280 : Nat) : Int) from rfl, show (64 : Int) = ((64 : UInt8).toNat : Int) from rfl, bytes c 160 k hc hk, bytes r 280 k hr hk', stands c 64 k hc hk]
 by_cases h0 : L c = []
 ·rw [if_pos h0, h0]; simp
 ·rw [if_neg h0]
  have h0' : (L c).isEmpty = false := by simpa using h0
  rw [h0']
  cases printed (L c) 160 <;> by_cases h2 : (64 : UInt8) ∈ L c <;> simp [h2]
theorem impl_valid (c r : ByteArray) (k : Nat) (hc : c.size ≤ 9223372036854775807) (hr : r.size ≤ 9223372036854775807) (hk : c.size < k) (hk' : r.size < k) :
  impl_IsValidRecord.f k c r = some (validRec (L c) (L r)) := by
 unfold impl_IsValidRecord.f impl_isCommand.f validRec strings_Contains.f
 rw [L_toList, show (160 : Int) = ((160 : Nat) : Int) from rfl, show (280 : Int) = ((280 : Nat) : Int) from rfl, isPrinted c 160 k hc hk, isPrinted r 280 k hr hk']
 by_cases h0 : L c = []
 ·rw [if_pos h0, h0]; simp
 ·rw [if_neg h0]
  have h0' : (L c).isEmpty = false := by simpa using h0
  rw [h0', if_pos (by rfl)]
  have h64 : ((⟨#[64]⟩ : ByteArray).data.toList.headD 0) = 64 := rfl
  rw [h64]
  cases printed (L c) 160 <;> by_cases h2 : (64 : UInt8) ∈ L c <;> simp [h2]
theorem dig_at (n : Nat) (h : n < 10) : L ((⟨#[48, 49, 50, 51, 52, 53, 54, 55, 56, 57]⟩ : ByteArray).extract n (n + 1)) = [UInt8.ofNat (48 + n)] := by
 rw [L_extract]
 match n, h with
 | 0, _ => rfl | 1, _ => rfl | 2, _ => rfl | 3, _ => rfl | 4, _ => rfl | 5, _ => rfl | 6, _ => rfl | 7, _ => rfl | 8, _ => rfl | 9, _ => rfl
theorem dec_len1 (m : Nat) : (Lib.decDigits m).length ≤ m + 1 := by
 induction m using Nat.strongRecOn with
 | _ m ih =>
  rw [Lib.decDigits]
  by_cases hm : m < 10
  ·rw [dif_pos hm]; simp
  ·rw [dif_neg hm]
   have := ih (m / 10) (by omega)
   simp only [List.length_append, List.length_cons, List.length_nil]
   omega
theorem num_nat (k : Nat) : ∀ n : Nat, n < k → n ≤ 9000000000000000000 → ∃ s, spec_l1Num.f k (n : Int) = some s ∧ L s = Lib.decDigits n := by
 induction k with
 | zero => intro n h; omega
 | succ k ih =>
  intro n h hn
  simp only [spec_l1Num.f]
  rw [if_neg (by omega)]
  by_cases h10 : n < 10
  ·rw [if_pos (by omega), if_pos (by omega), wrap_in (by omega) (by omega), if_pos (by omega), if_pos (by omega)]
   refine ⟨_, rfl, ?_⟩
   rw [show ((n : Int) + 1).toNat = n + 1 from by omega, Int.toNat_natCast, dig_at n h10, Lib.decDigits, dif_pos h10]
  ·have e1 : Int.tdiv (n : Int) 10 = ((n / 10 : Nat) : Int) := by
    rw [Int.tdiv_eq_ediv_of_nonneg (by omega)]; omega
   have e2 : Int.tmod (n : Int) 10 = ((n % 10 : Nat) : Int) := by
    rw [Int.tmod_eq_emod_of_nonneg (by omega)]; omega
   obtain ⟨s, hs, hL⟩ := ih (n / 10) (by omega) (by omega)
   have hlen : s.size ≤ n := by
    rw [size_L, hL]
    have := dec_len1 (n / 10)
    omega
   rw [if_neg (by omega), e1, e2, wrap_in (i := ((n / 10 : Nat) : Int)) (by omega) (by omega), hs, Option.bind_some]
   rw [if_pos (by omega), wrap_in (by omega) (by omega), if_pos (by omega), if_pos (by omega)]
   have e3 : (((n % 10 : Nat) : Int) + 1).toNat = n % 10 + 1 := by omega
   have hd := dig_at (n % 10) (by omega)
   rw [e3, Int.toNat_natCast]
   have hsz : ((⟨#[48, 49, 50, 51, 52, 53, 54, 55, 56, 57]⟩ : ByteArray).extract (n % 10) (n % 10 + 1)).size = 1 := by rw [size_L, hd]; rfl
   rw [hsz, if_pos (by omega)]
   refine ⟨_, rfl, ?_⟩
   rw [L_append, hL, hd]
   conv => rhs; rw [Lib.decDigits, dif_neg h10]
theorem num_any (n : Int) (k : Nat) (hk : n.natAbs + 1 < k) (h0 : -9000000000000000000 ≤ n) (h1 : n ≤ 9000000000000000000) : ∃ s, spec_l1Num.f k n = some s ∧ L s = Lib.itoa n := by
 by_cases hn : n < 0
 ·obtain ⟨k, rfl⟩ : ∃ m, k = m + 1 := ⟨k - 1, by omega⟩
  obtain ⟨s, hs, hL⟩ := num_nat k n.natAbs (by omega) (by omega)
  simp only [spec_l1Num.f]
  rw [if_pos hn, wrap_in (by omega) (by omega), show -n = (n.natAbs : Int) from by omega, hs, Option.bind_some]
  have hlen : s.size ≤ n.natAbs + 1 ∧ n.natAbs + 1 < 9223372036854775807 := by
   rw [size_L, hL]
   exact ⟨dec_len1 n.natAbs, by omega⟩
  rw [if_pos (by omega)]
  refine ⟨_, rfl, ?_⟩
  rw [L_append, hL]
  unfold Lib.itoa
  rw [if_pos hn]
  rfl
 ·obtain ⟨s, hs, hL⟩ := num_nat k n.toNat (by omega) (by omega)
  refine ⟨s, by rw [← hs]; congr 1; omega, ?_⟩
  unfold Lib.itoa
  rw [if_neg hn, hL]
theorem num_eq (n : Int) (k : Nat) (hk : n.natAbs + 1 < k) (h0 : -9000000000000000000 ≤ n) (h1 : n ≤ 9000000000000000000) : spec_l1Num.f k n = some ⟨(Lib.itoa n).toArray⟩ := by
 obtain ⟨s, hs, hL⟩ := num_any n k hk h0 h1
 rw [hs, ext_L (a := s) (b := ⟨(Lib.itoa n).toArray⟩) (by rw [hL])]
theorem itoa_eq (n : Int) (h0 : -9000000000000000000 ≤ n) (h1 : n ≤ 9000000000000000000) : strconv_Itoa.f n = some ⟨(Lib.itoa n).toArray⟩ := by
 unfold strconv_Itoa.f
 rw [if_pos (by omega)]
def sumStep (h : Int) (b : UInt8) : Int := (41 * h + (b.toNat : Int) + 1) % 999979
def sumL (l : List UInt8) (h : Int) : Int := l.foldl sumStep h
theorem sumStep_in (h : Int) (b : UInt8) : 0 ≤ sumStep h b ∧ sumStep h b < 999979 := by unfold sumStep; omega
theorem sum_in (l : List UInt8) (h : Int) (h0 : 0 ≤ h) (h1 : h < 999979) : 0 ≤ sumL l h ∧ sumL l h < 999979 := by
 induction l generalizing h with
 | nil => exact ⟨h0, h1⟩
 | cons b l ih => exact ih _ (sumStep_in h b).1 (sumStep_in h b).2
theorem step_wrap (h : Int) (b : UInt8) (h0 : 0 ≤ h) (h1 : h < 999979) : Int.tmod (wrap64 ((wrap64 ((wrap64 (41 * h)) + (wrap64 (b.toNat : Int)))) + 1)) 999979 = sumStep h b := by
 have hb : b.toNat < 256 := b.toNat_lt
 rw [wrap_in (i := 41 * h) (by omega) (by omega), wrap_in (i := (b.toNat : Int)) (by omega) (by omega), wrap_in (i := 41 * h + (b.toNat : Int)) (by omega) (by omega), wrap_in (by omega) (by omega), Int.tmod_eq_emod_of_nonneg (by omega)]
 rfl
theorem sum_l0 (s : ByteArray) (hs : s.size ≤ 9223372036854775807) : ∀ (l : List UInt8) (h : Int) (i k : Nat), (L s).drop i = l → i ≤ s.size → l.length < k → 0 ≤ h → h < 999979 →
  spec_l1Sum.l0 k s h (i : Int) = some (sumL l h)
 | [], h, i, k, hd, hi, hk, _, _ => by
  obtain ⟨k, rfl⟩ : ∃ m, k = m + 1 := ⟨k - 1, by omega⟩
  have := drop_nil_iff.1 hd
  simp only [spec_l1Sum.l0]
  rw [if_neg (by omega)]
  rfl
 | b :: l, h, i, k, hd, hi, hk, h0, h1 => by
  obtain ⟨k, rfl⟩ : ∃ m, k = m + 1 := ⟨k - 1, by omega⟩
  obtain ⟨e1, e2, e3⟩ := bt_drop hd
  simp only [List.length_cons] at hk
  simp only [spec_l1Sum.l0]
  rw [if_pos (by omega), if_pos (by omega), e1, step_wrap h b h0 h1, wrap_up (n := s.size) (by omega) (by omega) hs, show ((i : Int) + 1) = ((i + 1 : Nat) : Int) from by omega,
   sum_l0 s hs l _ (i + 1) k e2 (by omega) (by omega) (sumStep_in h b).1 (sumStep_in h b).2]
  rfl
theorem sum_eq (s : ByteArray) (k : Nat) (hs : s.size ≤ 9223372036854775807) (hk : s.size < k) : spec_l1Sum.f k s = some (sumL (L s) 7) := by
 unfold spec_l1Sum.f
 exact sum_l0 s hs (L s) 7 0 k rfl (by omega) (by rw [← size_L]; exact hk) (by omega) (by omega)
theorem check_l0 (s : ByteArray) (hs : s.size ≤ 9223372036854775807) : ∀ (l : List UInt8) (h : Int) (i k : Nat), (L s).drop i = l → i ≤ s.size → l.length < k → 0 ≤ h → h < 999979 →
  impl_Checksum.l0 k s h (s.size : Int) (i : Int) = some (sumL l h, true)
 | [], h, i, k, hd, hi, hk, _, _ => by
  obtain ⟨k, rfl⟩ : ∃ m, k = m + 1 := ⟨k - 1, by omega⟩
  have := drop_nil_iff.1 hd
  simp only [impl_Checksum.l0]
  rw [if_neg (by omega)]
  rfl
 | b :: l, h, i, k, hd, hi, hk, h0, h1 => by
  obtain ⟨k, rfl⟩ : ∃ m, k = m + 1 := ⟨k - 1, by omega⟩
  obtain ⟨e1, e2, e3⟩ := bt_drop hd
  simp only [List.length_cons] at hk
  simp only [impl_Checksum.l0]
  rw [if_pos (by omega), if_pos (by omega), if_pos (by omega), e1, step_wrap h b h0 h1, wrap_up (n := s.size) (by omega) (by omega) hs, show ((i : Int) + 1) = ((i + 1 : Nat) : Int) from by omega,
   check_l0 s hs l _ (i + 1) k e2 (by omega) (by omega) (sumStep_in h b).1 (sumStep_in h b).2]
  rfl
theorem check_eq (s : ByteArray) (k : Nat) (hk : s.size < k) : impl_Checksum.f k s = some (if s.size ≤ 4000 then (sumL (L s) 7, true) else (0, false)) := by
 unfold impl_Checksum.f
 by_cases h : s.size ≤ 4000
 ·rw [if_neg (by omega), if_pos h]
  exact check_l0 s (by omega) (L s) 7 0 k rfl (by omega) (by rw [← size_L]; exact hk) (by omega) (by omega)
 ·rw [if_pos (by omega), if_neg h]
def sealL (l : List UInt8) : List UInt8 := l ++ [35] ++ Lib.itoa (sumL l 7)
theorem decDigits_len (m : Nat) : (Lib.decDigits m).length ≤ m / 10 + 1 := by
 induction m using Nat.strongRecOn with
 | _ m ih =>
  rw [Lib.decDigits]
  by_cases hm : m < 10
  ·rw [dif_pos hm]; simp
  ·rw [dif_neg hm]
   have := ih (m / 10) (by omega)
   simp only [List.length_append, List.length_cons, List.length_nil]
   omega
theorem itoa_len (n : Int) (h0 : 0 ≤ n) (h1 : n < 999979) : (Lib.itoa n).length ≤ 100000 := by
 unfold Lib.itoa
 rw [if_neg (by omega)]
 have := decDigits_len n.toNat
 omega
theorem seal_eq (s : ByteArray) (k : Nat) (hs : s.size ≤ 9000000000000000000) (hk : s.size < k) (hk2 : 1000000 < k) : spec_l1Seal.f k s = some ⟨(sealL (L s)).toArray⟩ := by
 unfold spec_l1Seal.f
 obtain ⟨h0, h1⟩ := sum_in (L s) 7 (by omega) (by omega)
 have hl := itoa_len _ h0 h1
 rw [if_pos (by omega), sum_eq s k (by omega) hk]
 simp only [Option.bind_some]
 rw [num_eq _ k (by omega) (by omega) (by omega)]
 simp only [Option.bind_some]
 rw [if_pos (by
  have : (⟨(Lib.itoa (sumL (L s) 7)).toArray⟩ : ByteArray).size = (Lib.itoa (sumL (L s) 7)).length := by rw [size_L]
  omega)]
 refine congrArg some (ext_L ?_)
 rw [L_append, L_append]
 rfl
theorem appendChecksum_eq (s : ByteArray) (k : Nat) (hs : s.size ≤ 9000000000000000000) (hk : s.size < k) :
  impl_AppendChecksum.f k s = some (if s.size ≤ 4000 ∧ (35 : UInt8) ∉ L s ∧ (sealL (L s)).length ≤ 4000 then (⟨(sealL (L s)).toArray⟩, true) else (⟨#[]⟩, false)) := by
 unfold impl_AppendChecksum.f
 obtain ⟨h0, h1⟩ := sum_in (L s) 7 (by omega) (by omega)
 have hl := itoa_len _ h0 h1
 rw [check_eq s k hk]
 simp only [Option.bind_some]
 rw [if_pos (by omega)]
 by_cases h4 : s.size ≤ 4000
 ·rw [if_pos h4]
  have hz : (⟨(Lib.itoa (sumL (L s) 7)).toArray⟩ : ByteArray).size = (Lib.itoa (sumL (L s) 7)).length := by rw [size_L]
  have hc : strings_Contains.f s (⟨#[35]⟩ : ByteArray) = some (decide ((35 : UInt8) ∈ L s)) := by
   unfold strings_Contains.f
   rw [if_pos (show (⟨#[35]⟩ : ByteArray).size = 1 from rfl)]
   rfl
  have hsl : (sealL (L s)).length = s.size + 1 + (Lib.itoa (sumL (L s) 7)).length := by unfold sealL; rw [size_L]; simp only [List.length_append, List.length_cons, List.length_nil]
  rw [itoa_eq _ (by omega) (by omega)]
  simp only [Option.bind_some]
  rw [if_pos (by omega), if_pos trivial, hc]
  simp only [Option.bind_some, decide_eq_true_eq]
  by_cases h5 : (35 : UInt8) ∈ L s
  ·rw [if_pos h5, if_neg (fun h => h.2.1 h5)]
  ·rw [if_neg h5]
   by_cases h6 : (sealL (L s)).length ≤ 4000
   ·rw [if_neg (by omega), if_pos ⟨h4, h5, h6⟩]
    refine congrArg some (Prod.ext ?_ rfl)
    apply ext_L
    rw [L_append, L_append]
    rfl
   ·rw [if_pos (by omega), if_neg (fun h => h6 h.2.2)]
 ·rw [if_neg h4, if_neg (fun h => h4 h.1)]
  rw [itoa_eq _ (by omega) (by omega)]
  simp only [Option.bind_some]
  have hz : (⟨(Lib.itoa 0).toArray⟩ : ByteArray).size = 1 := by rw [size_L]; unfold Lib.itoa; rw [if_neg (by omega), Lib.decDigits]; rfl
  rw [if_pos (by omega), if_neg (by simp)]
theorem decDigits_pow : ∀ (d n : Nat), n < 10 ^ (d + 1) → (Lib.decDigits n).length ≤ d + 1
 | 0, n, h => by
  rw [Lib.decDigits, dif_pos (by omega)]
  simp
 | d + 1, n, h => by
  rw [Lib.decDigits]
  by_cases hn : n < 10
  ·rw [dif_pos hn]; simp
  ·rw [dif_neg hn]
   have := decDigits_pow d (n / 10) (by rw [Nat.pow_succ] at h; omega)
   simp only [List.length_append, List.length_cons, List.length_nil]
   omega
theorem decDigits_dig (n : Nat) : ∀ b ∈ Lib.decDigits n, 48 ≤ b.toNat ∧ b.toNat ≤ 57 := by
 induction n using Nat.strongRecOn with
 | _ n ih =>
  rw [Lib.decDigits]
  have hd : ∀ m : Nat, m < 10 → ∀ b ∈ [UInt8.ofNat (48 + m)], 48 ≤ b.toNat ∧ b.toNat ≤ 57 := fun m hm b hb => by
   rw [List.mem_singleton.1 hb, UInt8.toNat_ofNat']
   omega
  by_cases hn : n < 10
  ·rw [dif_pos hn]; exact hd n hn
  ·rw [dif_neg hn]
   intro b hb
   rcases List.mem_append.1 hb with hb | hb
   ·exact ih (n / 10) (by omega) b hb
   ·exact hd (n % 10) (by omega) b hb
theorem itoa_dig {n : Int} (h0 : 0 ≤ n) : ∀ b ∈ Lib.itoa n, 48 ≤ b.toNat ∧ b.toNat ≤ 57 := by
 unfold Lib.itoa
 rw [if_neg (by omega)]
 exact decDigits_dig _
theorem itoa_small {n : Int} (h0 : 0 ≤ n) (h1 : n < 1000000) : (Lib.itoa n).length ≤ 6 := by
 unfold Lib.itoa
 rw [if_neg (by omega)]
 exact decDigits_pow 5 n.toNat (by omega)
theorem sum_small (l : List UInt8) : (Lib.itoa (sumL l 7)).length ≤ 6 := by
 obtain ⟨h0, h1⟩ := sum_in l 7 (by omega) (by omega)
 exact itoa_small h0 (by omega)
def textL (n : Int) (c r : List UInt8) : List UInt8 := Lib.itoa n ++ [32] ++ c ++ [64] ++ r
def encL (n : Int) (c r : List UInt8) : List UInt8 := sealL (textL n c r) ++ [10]
theorem all_ok_no35 {l : List UInt8} (h : l.all okB = true) : (35 : UInt8) ∉ l := fun hm => by
 have := List.all_eq_true.1 h 35 hm
 exact absurd this (by decide)
theorem valid_parts {c r : List UInt8} (h : validRec c r = true) : c ≠ [] ∧ c.all okB = true ∧ c.length ≤ 160 ∧ (64 : UInt8) ∉ c ∧ r.all okB = true ∧ r.length ≤ 280 := by
 unfold validRec printed at h
 simp only [Bool.and_eq_true, decide_eq_true_eq, Bool.not_eq_true', decide_eq_false_iff_not] at h
 obtain ⟨⟨⟨h1, h2, h3⟩, h4⟩, h5, h6⟩ := h
 exact ⟨by simpa using h1, h2, h3, h4, h5, h6⟩
theorem text_no35 {n : Int} {c r : List UInt8} (h0 : 0 ≤ n) (h : validRec c r = true) : (35 : UInt8) ∉ textL n c r := by
 obtain ⟨_, h2, _, _, h5, _⟩ := valid_parts h
 unfold textL
 simp only [List.mem_append, List.mem_singleton, not_or]
 exact ⟨⟨⟨⟨fun hm => by have := itoa_dig h0 _ hm; have e : (35 : UInt8).toNat = 35 := rfl; omega, by decide⟩, all_ok_no35 h2⟩, by decide⟩, all_ok_no35 h5⟩
theorem text_len {n : Int} {c r : List UInt8} (h0 : 0 ≤ n) (h1 : n < 1000000) : (textL n c r).length ≤ 8 + c.length + r.length := by
 have := itoa_small h0 h1
 unfold textL
 simp only [List.length_append, List.length_cons, List.length_nil]
 omega
theorem seal_len (l : List UInt8) : (sealL l).length ≤ l.length + 7 := by
 have := sum_small l
 unfold sealL
 simp only [List.length_append, List.length_cons, List.length_nil]
 omega
theorem text_B (n : Int) (c r : ByteArray) : ((((⟨(Lib.itoa n).toArray⟩ : ByteArray) ++ (⟨#[32]⟩ : ByteArray)) ++ c) ++ (⟨#[64]⟩ : ByteArray)) ++ r = ⟨(textL n (L c) (L r)).toArray⟩ := by
 apply ext_L
 simp only [L_append]
 rfl
theorem B_size (l : List UInt8) : (⟨l.toArray⟩ : ByteArray).size = l.length := by rw [size_L]
theorem spec_line (n : Int) (c r : ByteArray) (k : Nat) (h0 : 0 ≤ n) (h1 : n < 1000000) (hc : c.size ≤ 1000000000000) (hr : r.size ≤ 1000000000000) (hk : 1000100 + c.size + r.size < k) :
  spec_l12Line.f k n c r = some ⟨(encL n (L c) (L r)).toArray⟩ := by
 have hi := itoa_small h0 h1
 have ht := text_len (c := L c) (r := L r) h0 h1
 have hs := seal_len (textL n (L c) (L r))
 have hc' := size_L c
 have hr' := size_L r
 unfold spec_l12Line.f
 rw [num_eq n k (by omega) (by omega) (by omega), Option.bind_some, B_size, if_pos (by omega), if_pos (by omega), if_pos (by omega), if_pos (by omega), text_B,
  seal_eq _ k (by rw [B_size]; omega) (by rw [B_size]; omega) (by omega), Option.bind_some, B_size, L_mk (textL n (L c) (L r)), if_pos (by omega)]
 refine congrArg some (ext_L ?_)
 rw [L_append]
 rfl
def encR (n : Int) (c r : ByteArray) : ByteArray × Bool := if 0 ≤ n ∧ n ≤ 59 ∧ validRec (L c) (L r) = true then (⟨(encL n (L c) (L r)).toArray⟩, true) else (⟨#[]⟩, false)
theorem impl_enc (n : Int) (c r : ByteArray) (k : Nat) (hc : c.size ≤ 1000000000000) (hr : r.size ≤ 1000000000000) (hk : 1000100 + c.size + r.size < k) :
  impl_EncodeRecord.f k n c r = some (encR n c r) := by
 obtain ⟨k, rfl⟩ : ∃ m, k = m + 1 := ⟨k - 1, by omega⟩
 unfold impl_EncodeRecord.f impl_in.f encR
 by_cases h0 : 0 ≤ n
 ·rw [if_pos (by omega), Option.bind_some]
  by_cases h1 : n ≤ 59
  ·rw [if_pos (by simpa using h1), impl_valid c r (k + 1) (by omega) (by omega) (by omega) (by omega), Option.bind_some]
   by_cases hv : validRec (L c) (L r) = true
   ·have hi := itoa_small h0 (by omega : n < 1000000)
    have ht := text_len (c := L c) (r := L r) h0 (by omega : n < 1000000)
    have hs := seal_len (textL n (L c) (L r))
    obtain ⟨_, _, v1, _, _, v2⟩ := valid_parts hv
    have hc' := size_L c
    have hr' := size_L r
    rw [hv, if_pos ⟨h0, h1, rfl⟩]
    simp only [impl_EncodeRecord.j0]
    rw [if_neg (by simp), itoa_eq n (by omega) (by omega), Option.bind_some, B_size, if_pos (by omega), if_pos (by omega), if_pos (by omega), if_pos (by omega), text_B,
     appendChecksum_eq _ k (by rw [B_size]; omega) (by rw [B_size]; omega), L_mk (textL n (L c) (L r)), if_pos ⟨by rw [B_size]; omega, text_no35 h0 hv, by omega⟩, Option.bind_some, B_size, if_pos (by omega)]
    refine congrArg some (Prod.ext (ext_L ?_) rfl)
    rw [L_append]
    rfl
   ·have hv' : validRec (L c) (L r) = false := by simpa using hv
    rw [hv', if_neg (by simp)]
    simp only [impl_EncodeRecord.j0]
    rw [if_pos (by simp)]
  ·rw [if_neg (by simpa using h1), if_neg (fun h => h1 h.2.1)]
   simp only [impl_EncodeRecord.j0]
   rw [if_pos trivial]
 ·rw [if_neg (by omega), Option.bind_some, if_neg (by simp), if_neg (fun h => h0 h.1)]
  simp only [impl_EncodeRecord.j0]
  rw [if_pos trivial]
end Go.Proofs.YthdhhpcbagpmgaaDoor.PureL
end

section
namespace Go.Proofs.YthdhhpcbagpmgaaDoor.PureL
open Go.RowKit Go.Proofs.YthdhhpcbagpmgaaDoor.Pr Go.Proofs.YthdhhpcbagpmgaaDoorW.PrintWords Go.Proofs.YthdhhpcbagpmgaaDoorW.PrintLast
set_option linter.unusedSimpArgs false
set_option linter.unusedVariables false
def upL (l : List UInt8) (c : UInt8) : List UInt8 := l.takeWhile (· != c)
def aftL (l : List UInt8) (c : UInt8) : List UInt8 := (l.dropWhile (· != c)).tail
theorem up_no {l : List UInt8} {c : UInt8} (h : c ∉ l) : upL l c = l := by
 unfold upL
 induction l with
 | nil => rfl
 | cons b l ih =>
  have hb : (b != c) = true := by simp only [bne_iff_ne, ne_eq]; rintro rfl; exact h (List.mem_cons_self ..)
  rw [List.takeWhile_cons, if_pos hb, ih (fun hm => h (List.mem_cons_of_mem _ hm))]
theorem drop_no {l : List UInt8} {c : UInt8} (h : c ∉ l) : l.dropWhile (· != c) = [] := by
 induction l with
 | nil => rfl
 | cons b l ih =>
  have hb : (b != c) = true := by simp only [bne_iff_ne, ne_eq]; rintro rfl; exact h (List.mem_cons_self ..)
  rw [List.dropWhile_cons, if_pos hb, ih (fun hm => h (List.mem_cons_of_mem _ hm))]
theorem up_mid {l r : List UInt8} {c : UInt8} (h : c ∉ l) : upL (l ++ c :: r) c = l := by
 unfold upL
 induction l with
 | nil => simp
 | cons b l ih =>
  have hb : (b != c) = true := by simp only [bne_iff_ne, ne_eq]; rintro rfl; exact h (List.mem_cons_self ..)
  rw [List.cons_append, List.takeWhile_cons, if_pos hb, ih (fun hm => h (List.mem_cons_of_mem _ hm))]
theorem aft_mid {l r : List UInt8} {c : UInt8} (h : c ∉ l) : aftL (l ++ c :: r) c = r := by
 unfold aftL
 induction l with
 | nil => simp
 | cons b l ih =>
  have hb : (b != c) = true := by simp only [bne_iff_ne, ne_eq]; rintro rfl; exact h (List.mem_cons_self ..)
  rw [List.cons_append, List.dropWhile_cons, if_pos hb, ih (fun hm => h (List.mem_cons_of_mem _ hm))]
theorem cutAt_eq (l : List UInt8) (c : UInt8) : cutAt l c = (upL l c, aftL l c, decide (c ∈ l)) := by
 unfold cutAt
 by_cases h : c ∈ l
 ·rw [if_pos h, decide_eq_true h]; rfl
 ·rw [if_neg h, up_no h, decide_eq_false h]
  unfold aftL
  rw [drop_no h]
  rfl
theorem up_len (l : List UInt8) (c : UInt8) : (upL l c).length ≤ l.length := by
 have := (List.takeWhile_prefix (· != c) (l := l)).length_le
 exact this
theorem no_tw : ∀ (l : List UInt8) (c : UInt8), c ∉ l.takeWhile (· != c)
 | [], c => by simp
 | b :: l, c => by
  by_cases hb : (b != c) = true
  ·rw [List.takeWhile_cons, if_pos hb, List.mem_cons, not_or]
   exact ⟨fun e => by rw [e] at hb; simp at hb, no_tw l c⟩
  ·rw [List.takeWhile_cons, if_neg hb]; simp
theorem up_lt {l : List UInt8} {c : UInt8} (h : c ∈ l) : (upL l c).length < l.length := by
 have h1 := List.takeWhile_append_dropWhile (p := (· != c)) (l := l)
 have h2 : l.dropWhile (· != c) ≠ [] := fun e => by
  have : c ∈ l.takeWhile (· != c) := by rw [e, List.append_nil] at h1; rw [h1]; exact h
  exact no_tw l c this
 have h3 := congrArg List.length h1
 rw [List.length_append] at h3
 have := List.length_pos_iff.2 h2
 unfold upL
 omega
theorem aft_len (l : List UInt8) (c : UInt8) : (aftL l c).length ≤ l.length := by
 unfold aftL
 have h1 := (List.dropWhile_suffix (· != c) (l := l)).length_le
 rw [List.length_tail]
 omega
theorem cut_f (s : ByteArray) (c : UInt8) (hs : s.size < 4294967281) : strings_Cut.f s (⟨#[c]⟩ : ByteArray) = some (⟨(upL (L s) c).toArray⟩, ⟨(aftL (L s) c).toArray⟩, decide (c ∈ L s)) := by
 unfold strings_Cut.f
 rw [if_pos ⟨rfl, hs⟩]
 have e : ((⟨#[c]⟩ : ByteArray).data.toList.headD 0) = c := rfl
 rw [e, cutAt_eq]
theorem split_l0 (s : ByteArray) (c : UInt8) (hs : s.size ≤ 1000000000000) : ∀ (l : List UInt8) (acc : List ByteArray) (fr i k : Nat), (L s).drop i = l → fr ≤ i → i ≤ s.size → acc.length ≤ i → l.length < k →
  ∃ q qs, spec_l1Split.l0 k s (c.toNat : Int) acc (fr : Int) (i : Int) = some (acc ++ q :: qs) ∧ qs.length = l.count c ∧ L q = ((L s).drop fr).take (i - fr) ++ upL l c
 | [], acc, fr, i, k, h, hf, hi, ha, hk => by
  obtain ⟨k, rfl⟩ : ∃ m, k = m + 1 := ⟨k - 1, by omega⟩
  have hsz := drop_nil_iff.1 h
  have hi' : i = s.size := by omega
  simp only [spec_l1Split.l0]
  rw [if_neg (by omega), if_pos (by omega), if_pos (by omega), if_pos (by omega)]
  refine ⟨_, [], rfl, rfl, ?_⟩
  rw [L_extract, Int.toNat_natCast, hi', size_L]
  simp [upL]
 | b :: l, acc, fr, i, k, h, hf, hi, ha, hk => by
  obtain ⟨k, rfl⟩ : ∃ m, k = m + 1 := ⟨k - 1, by omega⟩
  obtain ⟨e1, e2, e3⟩ := bt_drop h
  simp only [List.length_cons] at hk
  simp only [spec_l1Split.l0]
  rw [if_pos (by omega), if_pos (by omega), e1]
  by_cases e : b = c
  ·subst e
   rw [if_pos rfl, if_pos (by omega), if_pos (by omega), if_pos (by omega), if_pos (by omega), wrap_up (n := s.size) (by omega) (by omega) (by omega), show ((i : Int) + 1) = ((i + 1 : Nat) : Int) from by omega]
   obtain ⟨q, qs, h1, h2, _⟩ := split_l0 s b hs l (acc ++ [s.extract (fr : Int).toNat (i : Int).toNat]) (i + 1) (i + 1) k e2 (by omega) (by omega) (by simp; omega) (by omega)
   refine ⟨s.extract fr i, q :: qs, ?_, by simp [h2], ?_⟩
   ·rw [h1]; simp
   ·rw [L_extract]; simp [upL]
  ·rw [if_neg (fun hh => e ((byte_eq _ _).1 hh)), wrap_up (n := s.size) (by omega) (by omega) (by omega), show ((i : Int) + 1) = ((i + 1 : Nat) : Int) from by omega]
   obtain ⟨q, qs, h1, h2, h3⟩ := split_l0 s c hs l acc fr (i + 1) k e2 (by omega) (by omega) (by omega) (by omega)
   refine ⟨q, qs, h1, by rw [h2, List.count_cons]; simp [e], ?_⟩
   rw [h3]
   have hb : (b != c) = true := by simpa using e
   have hup : upL (b :: l) c = b :: upL l c := by unfold upL; rw [List.takeWhile_cons, if_pos hb]
   rw [hup]
   have hlen : i - fr < ((L s).drop fr).length := by rw [List.length_drop, ← size_L]; omega
   have hget : ((L s).drop fr)[i - fr]'hlen = b := by
    rw [List.getElem_drop]
    have hi2 : i < (L s).length := by rw [← size_L]; exact e3
    have := List.drop_eq_getElem_cons hi2
    rw [h] at this
    injection this with t1 _
    rw [t1]
    congr 1
    omega
   rw [show i + 1 - fr = (i - fr) + 1 from by omega, List.take_succ_eq_append_getElem hlen, hget]
   simp
theorem split_f (s : ByteArray) (c : UInt8) (k : Nat) (hs : s.size ≤ 1000000000000) (hk : s.size < k) :
  ∃ q qs, spec_l1Split.f k s (c.toNat : Int) = some (q :: qs) ∧ qs.length = (L s).count c ∧ L q = upL (L s) c := by
 obtain ⟨q, qs, h1, h2, h3⟩ := split_l0 s c hs (L s) [] 0 0 k rfl (by omega) (by omega) (by simp) (by rw [← size_L]; exact hk)
 exact ⟨q, qs, h1, h2, by simpa using h3⟩
def decI (_n : Nat) (line : List UInt8) : List UInt8 × List UInt8 := (upL (aftL (upL line 35) 32) 64, aftL (aftL (upL line 35) 32) 64)
def goodI (n : Nat) (line : List UInt8) : Bool := validRec (decI n line).1 (decI n line).2 && decide (encL n (decI n line).1 (decI n line).2 = line ++ [10])
theorem no_in_itoa {n : Nat} {b : UInt8} (h : b.toNat < 48) : b ∉ Lib.itoa (n : Int) := fun hm => by have := itoa_dig (n := (n : Int)) (by omega) b hm; omega
theorem enc_cuts {n : Nat} {c r line : List UInt8} (hv : validRec c r = true) (he : encL n c r = line ++ [10]) :
  upL line 35 = textL n c r ∧ aftL (textL n c r) 32 = c ++ 64 :: r ∧ upL (c ++ 64 :: r) 64 = c ∧ aftL (c ++ 64 :: r) 64 = r := by
 have hl : sealL (textL n c r) = line := by
  unfold encL at he
  exact (List.append_inj' he rfl).1
 have h35 := text_no35 (n := (n : Int)) (by omega) hv
 obtain ⟨_, _, _, h64, _, _⟩ := valid_parts hv
 refine ⟨?_, ?_, up_mid h64, aft_mid h64⟩
 ·rw [← hl]
  unfold sealL
  rw [List.append_assoc]
  exact up_mid h35
 ·unfold textL
  rw [show Lib.itoa (n : Int) ++ [32] ++ c ++ [64] ++ r = Lib.itoa (n : Int) ++ 32 :: (c ++ 64 :: r) from by simp]
  exact aft_mid (no_in_itoa (by decide))
theorem goodI_of {n : Nat} {c r line : List UInt8} (hv : validRec c r = true) (he : encL n c r = line ++ [10]) : goodI n line = true ∧ decI n line = (c, r) := by
 obtain ⟨h1, h2, h3, h4⟩ := enc_cuts hv he
 have hd : decI n line = (c, r) := by unfold decI; rw [h1, h2, h3, h4]
 refine ⟨?_, hd⟩
 unfold goodI
 rw [hd, hv, decide_eq_true he]
 rfl
theorem decode_f (n : Nat) (line : ByteArray) (k : Nat) (hn : n < 60) (hs : line.size ≤ 100000000000) (hk : 2000100 + 2 * line.size < k) :
  ∃ c r, spec_l12Decode.f k line (n : Int) = some (c, r, goodI n (L line)) ∧ (goodI n (L line) = true → (L c, L r) = decI n (L line)) := by
 obtain ⟨k, rfl⟩ : ∃ m, k = m + 1 := ⟨k - 1, by omega⟩
 have hi := itoa_small (n := (n : Int)) (by omega) (by omega)
 obtain ⟨q, qs, h1, h2, h3⟩ := split_f line 35 (k + 1) (by omega) (by omega)
 have hq : q.size ≤ line.size := by rw [size_L, h3, size_L]; exact up_len _ _
 unfold spec_l12Decode.f
 rw [num_eq (n : Int) (k + 1) (by omega) (by omega) (by omega), Option.bind_some, B_size, if_pos (by omega), show (35 : Int) = ((35 : UInt8).toNat : Int) from rfl, h1, Option.bind_some, if_pos (by simp)]
 have hrd : rdOf ByteArray.empty (q :: qs) 0 = q := rfl
 rw [hrd]
 have bad : goodI n (L line) = false → ∀ c r, validRec c r = true → encL n c r = L line ++ [10] → False := fun hb c r hv he => by rw [(goodI_of hv he).1] at hb; cases hb
 have ahead : ((⟨(Lib.itoa (n : Int)).toArray⟩ : ByteArray) ++ (⟨#[32]⟩ : ByteArray)) = ⟨(Lib.itoa (n : Int) ++ [32]).toArray⟩ := by apply ext_L; rw [L_append]
 have nohead : ¬ (Lib.itoa (n : Int) ++ [32]) <+: L q → goodI n (L line) = false := fun hp => by
  cases hg : goodI n (L line) with
  | false => rfl
  | true =>
   unfold goodI at hg
   simp only [Bool.and_eq_true, decide_eq_true_eq] at hg
   obtain ⟨e1, _⟩ := enc_cuts hg.1 hg.2
   refine absurd ?_ hp
   rw [h3, e1]
   unfold textL
   exact ⟨(decI n (L line)).1 ++ 64 :: (decI n (L line)).2, by simp⟩
 by_cases hlt : ((q.size : Int)) < (((Lib.itoa (n : Int)).length : Int) + 1)
 ·rw [if_pos hlt]
  simp only [spec_l12Decode.j0]
  rw [if_pos trivial]
  have hg := nohead (fun hp => by
   have := hp.length_le
   rw [List.length_append, List.length_singleton, ← size_L] at this
   omega)
  exact ⟨_, _, by rw [hg], fun h => by rw [hg] at h; cases h⟩
 ·rw [if_neg hlt, if_pos (by omega), if_pos (by omega), ahead]
  have htk : (q.extract 0 ((((Lib.itoa (n : Int)).length : Int) + 1) : Int).toNat).toList = (L q).take ((Lib.itoa (n : Int)).length + 1) := by
   rw [L_toList, L_extract]
   simp only [List.drop_zero, Nat.sub_zero]
   congr 1
  rw [htk, L_toList, L_mk (Lib.itoa (n : Int) ++ [32])]
  by_cases hp : (L q).take ((Lib.itoa (n : Int)).length + 1) = Lib.itoa (n : Int) ++ [32]
  ·rw [show ((L q).take ((Lib.itoa (n : Int)).length + 1) != Lib.itoa (n : Int) ++ [32]) = false from by rw [bne_eq_false_iff_eq]; exact hp]
   simp only [spec_l12Decode.j0]
   have hsz : (⟨(Lib.itoa (n : Int) ++ [32]).toArray⟩ : ByteArray).size = (Lib.itoa (n : Int)).length + 1 := by rw [B_size]; simp
   rw [if_neg (by simp), hsz, if_pos (by omega), if_pos (by omega)]
   generalize hrest : q.extract ((Lib.itoa (n : Int)).length + 1) q.size = rest
   have hL : L rest = (L q).drop ((Lib.itoa (n : Int)).length + 1) := by
    rw [← hrest, L_extract, size_L]
    exact List.take_of_length_le (by simp)
   have hrs : rest.size = q.size - ((Lib.itoa (n : Int)).length + 1) := by rw [size_L, hL, List.length_drop, ← size_L]
   have hqq : L q = Lib.itoa (n : Int) ++ 32 :: L rest := by
    have := List.take_append_drop ((Lib.itoa (n : Int)).length + 1) (L q)
    rw [hp, ← hL] at this
    rw [← this]
    simp
   obtain ⟨p, ps, g1, g2, g3⟩ := split_f rest 64 k (by omega) (by omega)
   have hpr : p.size ≤ rest.size := by rw [size_L, g3, size_L]; exact up_len _ _
   rw [show (64 : Int) = ((64 : UInt8).toNat : Int) from rfl, g1, Option.bind_some, if_pos (by simp)]
   have hrd2 : rdOf ByteArray.empty (p :: ps) 0 = p := rfl
   rw [hrd2]
   have hdec : aftL (upL (L line) 35) 32 = L rest := by rw [← h3, hqq]; exact aft_mid (no_in_itoa (by decide))
   have hdI : decI n (L line) = (upL (L rest) 64, aftL (L rest) 64) := by unfold decI; rw [hdec]
   by_cases hm : (64 : UInt8) ∈ L rest
   ·have hlt2 : p.size < rest.size := by rw [size_L, g3, size_L]; exact up_lt hm
    rw [if_neg (by omega), wrap_in (by omega) (by omega), if_pos (by omega), if_pos (by omega)]
    have hrest2 : rest.extract (((p.size : Int) + 1) : Int).toNat (q.size - ((Lib.itoa (n : Int)).length + 1)) = ⟨(aftL (L rest) 64).toArray⟩ := by
     apply ext_L
     rw [← hrs, L_extract, size_L rest, List.take_of_length_le (by simp), show (((p.size : Int) + 1) : Int).toNat = p.size + 1 from by omega, size_L p, g3]
     unfold aftL upL
     rw [← drop_takeWhile, List.tail_drop]
    rw [hrest2]
    have hc : L p = (decI n (L line)).1 := by rw [hdI, g3]
    have hr : aftL (L rest) 64 = (decI n (L line)).2 := by rw [hdI]
    have hasz : (⟨(aftL (L rest) 64).toArray⟩ : ByteArray).size ≤ rest.size := by rw [B_size, size_L]; exact aft_len _ _
    rw [spec_valid p _ k (by omega) (by omega) (by omega) (by omega), Option.bind_some, L_mk (aftL (L rest) 64), hc, hr]
    by_cases hv : validRec (decI n (L line)).1 (decI n (L line)).2 = true
    ·rw [if_pos hv, spec_line (n : Int) p _ k (by omega) (by omega) (by omega) (by rw [← hr]; omega) (by rw [← hr]; omega), Option.bind_some, if_pos (by omega)]
     refine ⟨p, ⟨(decI n (L line)).2.toArray⟩, ?_, fun _ => Prod.ext hc rfl⟩
     refine congrArg some (Prod.ext rfl (Prod.ext rfl ?_))
     show (_ == _) = goodI n (L line)
     unfold goodI
     rw [hv, Bool.true_and, L_toList, L_toList, L_append, hc, L_mk (decI n (L line)).2, Bool.eq_iff_iff, beq_iff_eq, decide_eq_true_eq]
    ·rw [if_neg hv]
     have hg : goodI n (L line) = false := by unfold goodI; rw [show validRec (decI n (L line)).1 (decI n (L line)).2 = false from by simpa using hv]; rfl
     exact ⟨_, _, by rw [hg], fun h => by rw [hg] at h; cases h⟩
   ·have hpe : p.size = rest.size := by rw [size_L, g3, up_no hm, size_L]
    rw [if_pos (by omega)]
    have hg : goodI n (L line) = false := by
     cases hg : goodI n (L line) with
     | false => rfl
     | true =>
      unfold goodI at hg
      simp only [Bool.and_eq_true, decide_eq_true_eq] at hg
      obtain ⟨e1, e2, _⟩ := enc_cuts hg.1 hg.2
      rw [e1] at hdec
      rw [e2] at hdec
      refine absurd ?_ hm
      rw [← hdec]
      simp
    exact ⟨_, _, by rw [hg], fun h => by rw [hg] at h; cases h⟩
  ·rw [show ((L q).take ((Lib.itoa (n : Int)).length + 1) != Lib.itoa (n : Int) ++ [32]) = true from by rw [bne_iff_ne]; exact hp]
   simp only [spec_l12Decode.j0]
   rw [if_pos trivial]
   have hg := nohead (fun hpre => hp (by
    have := List.prefix_iff_eq_take.1 hpre
    rw [List.length_append, List.length_singleton] at this
    exact this.symm))
   exact ⟨_, _, by rw [hg], fun h => by rw [hg] at h; cases h⟩
theorem open_eq (s : ByteArray) (hs : s.size ≤ 2000000) : ∀ (d i : Nat) (acc : List S70), i ≤ s.size → s.size - i ≤ d →
  ∃ (l : List S70) (n : Nat), n ≤ s.size ∧ (l.length ≤ 60 ∨ l = acc) ∧ ∀ k, 9000000 + 2 * d < k → impl_readRecords.l0 k s acc (i : Int) = some (l, (n : Int)) ∧ spec_l12Open.l0 k s acc (i : Int) = some (l, (n : Int)) := by
 intro d
 induction d with
 | zero =>
  intro i acc hi hd
  have hie : i = s.size := by omega
  refine ⟨acc, i, hi, .inr rfl, fun k hk => ?_⟩
  obtain ⟨k, rfl⟩ : ∃ m, k = m + 2 := ⟨k - 2, by omega⟩
  constructor
  ·simp only [impl_readRecords.l0]
   by_cases h60 : (acc.length : Int) < 60
   ·have he : L (s.extract i s.size) = [] := by rw [L_extract, hie, size_L]; simp
    have hez : (s.extract i s.size).size = 0 := by rw [size_L, he]; rfl
    rw [if_pos h60, if_pos (by omega), if_pos (by omega), Int.toNat_natCast, cut_f _ 10 (by omega), Option.bind_some, he]
    simp only [upL, aftL, List.takeWhile_nil, List.dropWhile_nil, List.tail_nil]
    rw [cut_f _ 35 (by rw [B_size]; decide), Option.bind_some, L_mk]
    simp only [upL, aftL, List.takeWhile_nil, List.dropWhile_nil, List.tail_nil]
    rw [cut_f _ 32 (by rw [B_size]; decide), Option.bind_some, L_mk]
    simp only [upL, aftL, List.takeWhile_nil, List.dropWhile_nil, List.tail_nil]
    rw [cut_f _ 64 (by rw [B_size]; decide), Option.bind_some, L_mk]
    simp only [upL, aftL, List.takeWhile_nil, List.dropWhile_nil, List.tail_nil]
    rw [impl_enc _ _ _ _ (by rw [B_size]; decide) (by rw [B_size]; decide) (by rw [B_size]; simp; omega), Option.bind_some, if_neg (by simp)]
   ·rw [if_neg h60]
  ·simp only [spec_l12Open.l0]
   rw [if_neg (by omega)]
   simp only [spec_l12Open.j1]
   rw [if_neg (by simp)]
 | succ d ih =>
  intro i acc hi hd
  by_cases h60 : (acc.length : Int) < 60
  ·generalize hx : s.extract i s.size = x
   have hLx : L x = (L s).drop i := by rw [← hx, L_extract, size_L]; exact List.take_of_length_le (by simp)
   have hxs : x.size = s.size - i := by rw [size_L, hLx, List.length_drop, ← size_L]
   generalize hline : (⟨(upL (L x) 10).toArray⟩ : ByteArray) = line
   have hLl : L line = upL (L x) 10 := by rw [← hline]
   have hls : line.size ≤ x.size := by rw [size_L, hLl, size_L]; exact up_len _ _
   have hal : acc.length < 60 := by omega
   have hb : (⟨(upL (L line) 35).toArray⟩ : ByteArray).size ≤ line.size := by rw [B_size, size_L]; exact up_len _ _
   have hr : (⟨(aftL (upL (L line) 35) 32).toArray⟩ : ByteArray).size ≤ line.size := by rw [B_size]; have := aft_len (upL (L line) 35) 32; have h2 := up_len (L line) 35; rw [size_L]; omega
   have hc : (⟨(upL (aftL (upL (L line) 35) 32) 64).toArray⟩ : ByteArray).size ≤ line.size := by rw [B_size] at hr ⊢; have := up_len (aftL (upL (L line) 35) 32) 64; omega
   have hrp : (⟨(aftL (aftL (upL (L line) 35) 32) 64).toArray⟩ : ByteArray).size ≤ line.size := by rw [B_size] at hr ⊢; have := aft_len (aftL (upL (L line) 35) 32) 64; omega
   have impl_step : ∀ k, 9000000 < k → impl_readRecords.l0 (k + 1) s acc (i : Int) =
     if (10 : UInt8) ∈ L x ∧ goodI acc.length (L line) = true then impl_readRecords.l0 k s (acc ++ [⟨⟨(decI acc.length (L line)).1.toArray⟩, ⟨(decI acc.length (L line)).2.toArray⟩⟩]) ((i + line.size + 1 : Nat) : Int) else some (acc, (i : Int)) := by
    intro k hk
    simp only [impl_readRecords.l0]
    rw [if_pos h60, if_pos (by omega), if_pos (by omega), Int.toNat_natCast, hx, cut_f x 10 (by omega), Option.bind_some, hline]
    dsimp only
    rw [cut_f line 35 (by omega), Option.bind_some]
    dsimp only
    rw [cut_f _ 32 (by omega), Option.bind_some, L_mk (upL (L line) 35)]
    dsimp only
    rw [cut_f _ 64 (by omega), Option.bind_some, L_mk (aftL (upL (L line) 35) 32)]
    dsimp only
    rw [impl_enc _ _ _ _ (by omega) (by omega) (by omega), Option.bind_some]
    by_cases hm : (10 : UInt8) ∈ L x
    ·rw [if_pos (by simpa using hm)]
     by_cases hv : validRec (upL (aftL (upL (L line) 35) 32) 64) (aftL (aftL (upL (L line) 35) 32) 64) = true
     ·have henc : encR (acc.length : Int) ⟨(upL (aftL (upL (L line) 35) 32) 64).toArray⟩ ⟨(aftL (aftL (upL (L line) 35) 32) 64).toArray⟩ = (⟨(encL (acc.length : Int) (upL (aftL (upL (L line) 35) 32) 64) (aftL (aftL (upL (L line) 35) 32) 64)).toArray⟩, true) := by
       unfold encR
       rw [L_mk (upL (aftL (upL (L line) 35) 32) 64), L_mk (aftL (aftL (upL (L line) 35) 32) 64), if_pos ⟨by omega, by omega, hv⟩]
      rw [henc]
      dsimp only
      rw [if_pos rfl, if_pos (by omega), L_toList, L_toList, L_append, L_mk (encL (acc.length : Int) (upL (aftL (upL (L line) 35) 32) 64) (aftL (aftL (upL (L line) 35) 32) 64)), L_mk [10]]
      by_cases he : encL (acc.length : Int) (upL (aftL (upL (L line) 35) 32) 64) (aftL (aftL (upL (L line) 35) 32) 64) = L line ++ [10]
      ·rw [if_pos he, if_pos (by omega), if_pos ⟨hm, (goodI_of hv he).1⟩, wrap_in (i := (i : Int) + (line.size : Int)) (by omega) (by omega), wrap_in (by omega) (by omega)]
       rfl
      ·rw [if_neg he, if_neg (fun h => he (by
        have h2 := h.2
        unfold goodI decI at h2
        simp only [Bool.and_eq_true, decide_eq_true_eq] at h2
        exact h2.2))]
     ·have henc : encR (acc.length : Int) ⟨(upL (aftL (upL (L line) 35) 32) 64).toArray⟩ ⟨(aftL (aftL (upL (L line) 35) 32) 64).toArray⟩ = (⟨#[]⟩, false) := by
       unfold encR
       rw [L_mk (upL (aftL (upL (L line) 35) 32) 64), L_mk (aftL (aftL (upL (L line) 35) 32) 64), if_neg (fun h => hv h.2.2)]
      rw [henc]
      dsimp only
      rw [if_neg (by simp), if_neg (fun h => hv (by
       have h2 := h.2
       unfold goodI decI at h2
       simp only [Bool.and_eq_true, decide_eq_true_eq] at h2
       exact h2.1))]
    ·rw [if_neg (by simpa using hm), if_neg (fun h => hm h.1)]
   have spec_step : ∀ k, 9000000 < k → spec_l12Open.l0 (k + 2) s acc (i : Int) =
     if (10 : UInt8) ∈ L x ∧ goodI acc.length (L line) = true then spec_l12Open.l0 k s (acc ++ [⟨⟨(decI acc.length (L line)).1.toArray⟩, ⟨(decI acc.length (L line)).2.toArray⟩⟩]) ((i + line.size + 1 : Nat) : Int) else some (acc, (i : Int)) := by
    intro k hk
    simp only [spec_l12Open.l0]
    by_cases hlt : (i : Int) < (s.size : Int)
    ·rw [if_pos hlt]
     simp only [spec_l12Open.j1]
     rw [if_pos (by simpa using h60), if_pos (by omega), if_pos (by omega), Int.toNat_natCast, hx]
     obtain ⟨q, qs, h1, h2, h3⟩ := split_f x 10 k (by omega) (by omega)
     rw [show (10 : Int) = ((10 : UInt8).toNat : Int) from rfl, h1, Option.bind_some, if_pos (by simp)]
     have hq : rdOf ByteArray.empty (q :: qs) 0 = line := by
      show q = line
      apply ext_L
      rw [h3, hLl]
     rw [hq]
     obtain ⟨c, r, g1, g2⟩ := decode_f acc.length line k hal (by omega) (by omega)
     rw [g1, Option.bind_some]
     by_cases hm : (10 : UInt8) ∈ L x
     ·have hcnt : 0 < qs.length := by rw [h2]; exact List.count_pos_iff.2 hm
      rw [if_neg (by simp only [List.length_cons]; omega)]
      by_cases hg : goodI acc.length (L line) = true
      ·rw [if_pos hg, if_pos (by omega), if_pos ⟨hm, hg⟩, wrap_in (i := (i : Int) + (line.size : Int)) (by omega) (by omega), wrap_in (by omega) (by omega)]
       have h4 := g2 hg
       have e1 : c = ⟨(decI acc.length (L line)).1.toArray⟩ := ext_L (by rw [← h4])
       have e2 : r = ⟨(decI acc.length (L line)).2.toArray⟩ := ext_L (by rw [← h4])
       rw [e1, e2]
       rfl
      ·rw [if_neg hg, if_neg (fun h => hg h.2)]
     ·have hcnt : qs.length = 0 := by rw [h2]; exact List.count_eq_zero.2 hm
      rw [if_pos (by simp only [List.length_cons]; omega), if_neg (fun h => hm h.1)]
    ·rw [if_neg hlt]
     simp only [spec_l12Open.j1]
     have hm : (10 : UInt8) ∉ L x := by
      have : L x = [] := List.eq_nil_of_length_eq_zero (by rw [← size_L]; omega)
      rw [this]; simp
     rw [if_neg (by simp), if_neg (fun h => hm h.1)]
   by_cases hgo : (10 : UInt8) ∈ L x ∧ goodI acc.length (L line) = true
   ·have hlt := up_lt hgo.1
    rw [← hLl, ← size_L, ← size_L] at hlt
    obtain ⟨l, n, hn, hll, h⟩ := ih (i + line.size + 1) (acc ++ [⟨⟨(decI acc.length (L line)).1.toArray⟩, ⟨(decI acc.length (L line)).2.toArray⟩⟩]) (by omega) (by omega)
    refine ⟨l, n, hn, .inl (hll.elim id (fun e => by rw [e, List.length_append]; simp; omega)), fun k hk => ?_⟩
    obtain ⟨k, rfl⟩ : ∃ m, k = m + 2 := ⟨k - 2, by omega⟩
    rw [show k + 2 = (k + 1) + 1 from rfl, impl_step (k + 1) (by omega), if_pos hgo]
    refine ⟨(h (k + 1) (by omega)).1, ?_⟩
    rw [show k + 1 + 1 = k + 2 from rfl, spec_step k (by omega), if_pos hgo]
    exact (h k (by omega)).2
   ·refine ⟨acc, i, hi, .inr rfl, fun k hk => ?_⟩
    obtain ⟨k, rfl⟩ : ∃ m, k = m + 2 := ⟨k - 2, by omega⟩
    rw [show k + 2 = (k + 1) + 1 from rfl, impl_step (k + 1) (by omega), if_neg hgo]
    refine ⟨rfl, ?_⟩
    rw [show k + 1 + 1 = k + 2 from rfl, spec_step k (by omega), if_neg hgo]
  ·refine ⟨acc, i, hi, .inr rfl, fun k hk => ?_⟩
   obtain ⟨k, rfl⟩ : ∃ m, k = m + 2 := ⟨k - 2, by omega⟩
   constructor
   ·simp only [impl_readRecords.l0]
    rw [if_neg h60]
   ·simp only [spec_l12Open.l0]
    by_cases hlt : (i : Int) < (s.size : Int)
    ·rw [if_pos hlt]
     simp only [spec_l12Open.j1]
     rw [if_neg (by simpa using h60)]
    ·rw [if_neg hlt]
     simp only [spec_l12Open.j1]
     rw [if_neg (by simp)]
theorem read_eq (s : ByteArray) (hs : s.size ≤ 2000000) : ∃ (l : List S70) (n : Nat), n ≤ s.size ∧ l.length ≤ 60 ∧ ∀ k, 20000000 < k → impl_readRecords.f k s = some (l, (n : Int)) ∧ spec_l12Open.f k s = some (l, (n : Int)) := by
 obtain ⟨l, n, hn, hl, h⟩ := open_eq s hs s.size 0 [] (by omega) (by omega)
 exact ⟨l, n, hn, hl.elim id (fun e => by rw [e]; simp), fun k hk => h k (by omega)⟩
end Go.Proofs.YthdhhpcbagpmgaaDoor.PureL
end

section
namespace Go.Proofs.YthdhhpcbagpmgaaDoor.PureL
open Go.RowKit Go.Proofs.YthdhhpcbagpmgaaDoor.Pr Go.Proofs.YthdhhpcbagpmgaaDoorW.PrintWords Go.Proofs.YthdhhpcbagpmgaaDoorW.PrintLast
theorem size_app (a b : ByteArray) : (a ++ b).size = a.size + b.size := by rw [size_L, L_append, List.length_append, ← size_L, ← size_L]
theorem records_eq (a b : ByteArray) (n : Int) (ha : a.size ≤ 1048576) (hb : b.size ≤ 1048576) : ∃ (l : List S70) (v : Bool), l.length ≤ 60 ∧ (v = true → a.size + b.size ≤ 30000) ∧ ∀ k, 30000000 < k →
  spec_l12Valid.f k a b n = some v ∧ impl_Log_records.f k a b n = some (l, v) ∧ (v = true → ∃ m, spec_l12Open.f k (a ++ b) = some (l, m)) := by
 by_cases h : a.size + b.size ≤ 30000
 ·obtain ⟨l1, n1, hn1, hl1, h1⟩ := read_eq (a ++ b) (by rw [size_app]; omega)
  obtain ⟨l2, n2, hn2, hl2, h2⟩ := read_eq a (by omega)
  refine ⟨l1, decide ((n1 : Int) = (a.size : Int) + (b.size : Int)) && decide ((n2 : Int) = (a.size : Int)) && decide ((l1.length : Int) = n), hl1, fun _ => h, fun k hk => ?_⟩
  obtain ⟨i1, s1⟩ := h1 k (by omega)
  obtain ⟨i2, s2⟩ := h2 k (by omega)
  unfold spec_l12Valid.f impl_Log_records.f
  rw [i1, i2, s1, s2, wrap_in (by omega) (by omega), if_neg (by omega), if_pos (by omega), Option.bind_some]
  dsimp only
  rw [Option.bind_some, Option.bind_some]
  dsimp only
  refine ⟨?_, ?_, fun _ => ⟨_, rfl⟩⟩
  ·by_cases c1 : (n1 : Int) = (a.size : Int) + (b.size : Int)
   ·rw [if_pos c1, decide_eq_true c1]
    by_cases c2 : (n2 : Int) = (a.size : Int)
    ·rw [if_pos c2, decide_eq_true c2]; rfl
    ·rw [if_neg c2, decide_eq_false c2]; rfl
   ·rw [if_neg c1, decide_eq_false c1]; rfl
  ·rw [if_neg (by omega), if_pos (by omega), Option.bind_some]
   dsimp only
   by_cases c1 : (n1 : Int) = (a.size : Int) + (b.size : Int)
   ·rw [if_pos c1, decide_eq_true c1]
    by_cases c2 : (n2 : Int) = (a.size : Int)
    ·rw [if_pos c2, decide_eq_true c2]; rfl
    ·rw [if_neg c2, decide_eq_false c2]; rfl
   ·rw [if_neg c1, decide_eq_false c1]; rfl
 ·refine ⟨[], false, by simp, (fun h => by cases h), fun k hk => ?_⟩
  unfold spec_l12Valid.f impl_Log_records.f
  rw [wrap_in (by omega) (by omega), if_pos (by omega)]
  rw [if_pos (by omega)]
  exact ⟨rfl, rfl, (fun h => by cases h)⟩
theorem valid_eq (a b : ByteArray) (n : Int) (ha : a.size ≤ 1048576) (hb : b.size ≤ 1048576) : ∃ v, (v = true → a.size + b.size ≤ 30000) ∧ ∀ k, 30000000 < k → spec_l12Valid.f k a b n = some v ∧ impl_IsValidLog.f k a b n = some v := by
 obtain ⟨l, v, _, hv, h⟩ := records_eq a b n ha hb
 refine ⟨v, hv, fun k hk => ?_⟩
 obtain ⟨h1, h2, _⟩ := h k hk
 unfold impl_IsValidLog.f
 rw [h2, Option.bind_some]
 exact ⟨h1, rfl⟩
theorem eqLog_same (x y : ByteArray) (m : Int) : laws_eqLog.f x y m x y m = some true := by unfold laws_eqLog.f; rw [if_pos rfl, if_pos rfl, if_pos rfl]
end Go.Proofs.YthdhhpcbagpmgaaDoor.PureL
end

section
set_option linter.unusedVariables false
set_option linter.unusedSimpArgs false
namespace Go.Proofs.YthdhhpcbagpmgaaDoor.PureL
open Go.RowKit Go.Proofs.YthdhhpcbagpmgaaDoor.Pr Go.Proofs.YthdhhpcbagpmgaaDoorW.PrintWords Go.Proofs.YthdhhpcbagpmgaaDoorW.PrintLast
def to72 (s : S99) : S66 := ⟨s.f0, s.f1, s.f2⟩
def total {α : Type} (l : List (List α)) : Nat := (l.map List.length).sum
theorem rd2_at (l : List (List S99)) (i : Nat) (h : i < l.length) : rd_L2 l (i : Int) = l[i] := by unfold rd_L2; rw [Int.toNat_natCast, List.getD_eq_getElem?_getD, List.getElem?_eq_getElem h]; rfl
theorem rd4_at (l : List (List S66)) (i : Nat) (h : i < l.length) : rd_L4 l (i : Int) = l[i] := by unfold rd_L4; rw [Int.toNat_natCast, List.getD_eq_getElem?_getD, List.getElem?_eq_getElem h]; rfl
theorem rd69_at (l : List S99) (i : Nat) (h : i < l.length) : rd_T99 l (i : Int) = l[i] := by unfold rd_T99; rw [Int.toNat_natCast, List.getD_eq_getElem?_getD, List.getElem?_eq_getElem h]; rfl
theorem rd72_at (l : List S66) (i : Nat) (h : i < l.length) : rd_T66 l (i : Int) = l[i] := by unfold rd_T66; rw [Int.toNat_natCast, List.getD_eq_getElem?_getD, List.getElem?_eq_getElem h]; rfl
theorem szSS_l (l : List (List S99)) (hb : ∀ b ∈ l, b.length ≤ 9223372036854775807) (hl : l.length ≤ 9223372036854775807) : ∀ (d i : Nat) (a : Int), d + i = l.length → 0 ≤ a → a ≤ 1048576 →
  ∃ r, (∀ k, d < k → laws_szStepSS.l0 k l a i = some r) ∧ (0 ≤ r → (total (l.drop i) : Int) ≤ a ∧ r ≤ a) := by
 intro d
 induction d with
 | zero =>
  intro i a hd h0 h1
  refine ⟨a, fun k hk => ?_, fun _ => ⟨?_, Int.le_refl _⟩⟩
  ·obtain ⟨k, rfl⟩ : ∃ z, k = z + 1 := ⟨k - 1, by omega⟩
   rw [laws_szStepSS.l0, if_neg (by omega)]
  ·rw [List.drop_eq_nil_of_le (by omega)]; simp [total]; omega
 | succ d ih =>
  intro i a hd h0 h1
  have hi : i < l.length := by omega
  have hbi := hb _ (List.getElem_mem hi)
  have hdrop : l.drop i = l[i] :: l.drop (i + 1) := List.drop_eq_getElem_cons hi
  have hw : wrap64 (a - (l[i].length : Int)) = a - (l[i].length : Int) := wrap_in (by omega) (by omega)
  by_cases hc : a - (l[i].length : Int) < 0
  ·refine ⟨-1, fun k hk => ?_, fun h => absurd h (by omega)⟩
   obtain ⟨k, rfl⟩ : ∃ z, k = z + 1 := ⟨k - 1, by omega⟩
   rw [laws_szStepSS.l0, if_pos (by omega), if_pos (by omega), rd2_at l i hi, laws_szStepS.f, hw, if_pos hc, Option.bind_some, if_pos (by omega)]
  ·obtain ⟨r, h2, h3⟩ := ih (i + 1) (a - (l[i].length : Int)) (by omega) (by omega) (by omega)
   refine ⟨r, fun k hk => ?_, fun h => ?_⟩
   ·obtain ⟨k, rfl⟩ : ∃ z, k = z + 1 := ⟨k - 1, by omega⟩
    rw [laws_szStepSS.l0, if_pos (by omega), if_pos (by omega), rd2_at l i hi, laws_szStepS.f, hw, if_neg hc, Option.bind_some, if_neg hc, wrap_in (by omega) (by omega)]
    exact h2 k (by omega)
   ·obtain ⟨this, h5⟩ := h3 h
    refine ⟨?_, by omega⟩
    rw [hdrop]
    simp only [total, List.map_cons, List.sum_cons] at this ⊢
    omega
theorem szProgram_ok (l : List (List S99)) (hb : ∀ b ∈ l, b.length ≤ 9223372036854775807) (hl : l.length ≤ 9223372036854775807) :
  ∃ r, (∀ k, l.length + 1 < k → laws_szProgram.f k l 1048576 = some r) ∧ (0 ≤ r → l.length + total l ≤ 1048576 ∧ r ≤ 1048576) := by
 have hw : wrap64 (1048576 - (l.length : Int)) = 1048576 - (l.length : Int) := wrap_in (by omega) (by omega)
 by_cases hc : 1048576 - (l.length : Int) < 0
 ·refine ⟨-1, fun k hk => ?_, fun h => absurd h (by omega)⟩
  unfold laws_szProgram.f laws_szStepSS.f
  rw [hw, if_pos hc, Option.bind_some, if_pos (by omega)]
 ·obtain ⟨r, h2, h3⟩ := szSS_l l hb hl l.length 0 (1048576 - (l.length : Int)) (by omega) (by omega) (by omega)
  by_cases hr : r < 0
  ·refine ⟨-1, fun k hk => ?_, fun h => absurd h (by omega)⟩
   unfold laws_szProgram.f laws_szStepSS.f
   have := h2 k (by omega)
   rw [Int.natCast_zero] at this
   rw [hw, if_neg hc, this, Option.bind_some, if_pos hr]
  ·refine ⟨r, fun k hk => ?_, fun h => ?_⟩
   ·unfold laws_szProgram.f laws_szStepSS.f
    have := h2 k (by omega)
    rw [Int.natCast_zero] at this
    rw [hw, if_neg hc, this, Option.bind_some, if_neg hr]
   ·obtain ⟨this, h5⟩ := h3 h
    rw [List.drop_zero] at this
    exact ⟨by omega, by omega⟩
theorem toStepS_l (l : List S99) (hl : l.length ≤ 1048576) : ∀ (d i : Nat), d + i = l.length → ∀ k, d < k → laws_toStepS.l0 k l ((l.map to72).take i ++ List.replicate d z66) i = some (l.map to72) := by
 intro d
 induction d with
 | zero =>
  intro i hd k hk
  obtain ⟨k, rfl⟩ : ∃ z, k = z + 1 := ⟨k - 1, by omega⟩
  rw [laws_toStepS.l0, if_neg (by omega), List.take_of_length_le (by simp; omega)]
  simp
 | succ d ih =>
  intro i hd k hk
  obtain ⟨k, rfl⟩ : ∃ z, k = z + 1 := ⟨k - 1, by omega⟩
  have hi : i < l.length := by omega
  have hlen : ((l.map to72).take i ++ List.replicate (d + 1) z66).length = l.length := by simp; omega
  have htl : ((l.map to72).take i).length = i := by simp; omega
  rw [laws_toStepS.l0, if_pos (by omega), if_pos (by omega), rd69_at l i hi, laws_toStep.f, Option.bind_some, if_pos (by rw [hlen]; omega), wrap_in (by omega) (by omega), Int.toNat_natCast]
  have hset : ((l.map to72).take i ++ List.replicate (d + 1) z66).set i (to72 l[i]) = (l.map to72).take (i + 1) ++ List.replicate d z66 := by
   rw [List.set_append_right _ _ (by omega), htl, Nat.sub_self, List.replicate_succ, List.set_cons_zero, List.take_add_one, List.getElem?_map, List.getElem?_eq_getElem hi]
   simp
  exact (congrArg (fun z => laws_toStepS.l0 k l z ((i : Int) + 1)) hset).trans (by exact_mod_cast ih (i + 1) (by omega) k (by omega))
theorem toStepS_ok (l : List S99) (hl : l.length ≤ 1048576) (k : Nat) (hk : 1048577 < k) : laws_toStepS.f k l = some (l.map to72) := by
 unfold laws_toStepS.f
 rw [if_pos (by omega), if_pos (by omega), Int.toNat_natCast]
 have := toStepS_l l hl l.length 0 (by omega) k (by omega)
 simpa using this
def toP (l : List (List S99)) : List (List S66) := l.map (·.map to72)
theorem toStepSS_l (l : List (List S99)) (hl : l.length ≤ 1048576) (hb : ∀ b ∈ l, b.length ≤ 1048576) : ∀ (d i : Nat), d + i = l.length → ∀ k, 1048577 + d < k → laws_toStepSS.l0 k l ((toP l).take i ++ List.replicate d []) i = some (toP l) := by
 intro d
 induction d with
 | zero =>
  intro i hd k hk
  obtain ⟨k, rfl⟩ : ∃ z, k = z + 1 := ⟨k - 1, by omega⟩
  rw [laws_toStepSS.l0, if_neg (by omega), List.take_of_length_le (by simp [toP]; omega)]
  simp
 | succ d ih =>
  intro i hd k hk
  obtain ⟨k, rfl⟩ : ∃ z, k = z + 1 := ⟨k - 1, by omega⟩
  have hi : i < l.length := by omega
  have hlen : ((toP l).take i ++ List.replicate (d + 1) []).length = l.length := by simp [toP]; omega
  have htl : ((toP l).take i).length = i := by simp [toP]; omega
  rw [laws_toStepSS.l0, if_pos (by omega), if_pos (by omega), rd2_at l i hi, toStepS_ok _ (hb _ (List.getElem_mem hi)) k (by omega), Option.bind_some, if_pos (by rw [hlen]; omega), wrap_in (by omega) (by omega), Int.toNat_natCast]
  have hset : ((toP l).take i ++ List.replicate (d + 1) []).set i (l[i].map to72) = (toP l).take (i + 1) ++ List.replicate d [] := by
   rw [List.set_append_right _ _ (by omega), htl, Nat.sub_self, List.replicate_succ, List.set_cons_zero, List.take_add_one]
   have : (toP l)[i]? = some (l[i].map to72) := by unfold toP; rw [List.getElem?_map, List.getElem?_eq_getElem hi]; rfl
   rw [this]
   simp
  exact (congrArg (fun z => laws_toStepSS.l0 k l z ((i : Int) + 1)) hset).trans (by exact_mod_cast ih (i + 1) (by omega) k (by omega))
theorem toProgram_ok (l : List (List S99)) (hl : l.length ≤ 1048576) (hb : ∀ b ∈ l, b.length ≤ 1048576) (k : Nat) (hk : 2097154 < k) : laws_toProgram.f k l = some (toP l) := by
 unfold laws_toProgram.f laws_toStepSS.f
 rw [if_pos (by omega), if_pos (by omega), Int.toNat_natCast]
 have := toStepSS_l l hl hb l.length 0 (by omega) k (by omega)
 simp only [List.take_zero, List.nil_append, Int.natCast_zero] at this
 rw [this, Option.bind_some]
theorem eqStepS_l (l : List S66) (hl : l.length ≤ 1048576) : ∀ (d i : Nat), d + i = l.length → ∀ k, d < k → laws_eqStepS.l0 k l l i = some true := by
 intro d
 induction d with
 | zero =>
  intro i hd k hk
  obtain ⟨k, rfl⟩ : ∃ z, k = z + 1 := ⟨k - 1, by omega⟩
  rw [laws_eqStepS.l0, if_neg (by omega)]
 | succ d ih =>
  intro i hd k hk
  obtain ⟨k, rfl⟩ : ∃ z, k = z + 1 := ⟨k - 1, by omega⟩
  rw [laws_eqStepS.l0, if_pos (by omega), if_pos (by omega), if_pos (by omega), laws_eqStep.f, if_pos rfl, if_pos rfl, if_pos rfl, Option.bind_some, if_pos rfl, wrap_in (by omega) (by omega)]
  exact_mod_cast ih (i + 1) (by omega) k (by omega)
theorem eqStepSS_l (l : List (List S66)) (hl : l.length ≤ 1048576) (hb : ∀ b ∈ l, b.length ≤ 1048576) : ∀ (d i : Nat), d + i = l.length → ∀ k, 1048577 + d < k → laws_eqStepSS.l0 k l l i = some true := by
 intro d
 induction d with
 | zero =>
  intro i hd k hk
  obtain ⟨k, rfl⟩ : ∃ z, k = z + 1 := ⟨k - 1, by omega⟩
  rw [laws_eqStepSS.l0, if_neg (by omega)]
 | succ d ih =>
  intro i hd k hk
  obtain ⟨k, rfl⟩ : ∃ z, k = z + 1 := ⟨k - 1, by omega⟩
  have hi : i < l.length := by omega
  have hbi := hb _ (List.getElem_mem hi)
  have h1 := eqStepS_l l[i] hbi l[i].length 0 (by omega) k (by omega)
  rw [Int.natCast_zero] at h1
  rw [laws_eqStepSS.l0, if_pos (by omega), if_pos (by omega), if_pos (by omega), rd4_at l i hi, laws_eqStepS.f, if_pos rfl, h1, Option.bind_some, if_pos rfl, wrap_in (by omega) (by omega)]
  exact_mod_cast ih (i + 1) (by omega) k (by omega)
theorem eqProgram_ok (l : List (List S66)) (hl : l.length ≤ 1048576) (hb : ∀ b ∈ l, b.length ≤ 1048576) (k : Nat) (hk : 2097154 < k) : laws_eqProgram.f k l l = some true := by
 unfold laws_eqProgram.f laws_eqStepSS.f
 have := eqStepSS_l l hl hb l.length 0 (by omega) k (by omega)
 rw [Int.natCast_zero] at this
 rw [if_pos rfl, this, Option.bind_some, if_pos rfl]
theorem total_cons {α : Type} (b : List α) (l : List (List α)) : total (b :: l) = b.length + total l := by simp [total]
theorem sin_eq (a b c : Int) : spec_l1In.f a b c = some (decide (b ≤ a ∧ a ≤ c)) := by
 unfold spec_l1In.f
 by_cases h : a ≥ b
 ·rw [if_pos h]; simp [show b ≤ a from h]
 ·rw [if_neg h]; simp [show ¬ b ≤ a from h]
theorem sStep_eq (l : List (List S66)) (s : S66) (hl : l.length ≤ 6) (k : Nat) (hk : 2 < k) : spec_l2Step.f k l s.f0 s.f1 s.f2 = some (stepOk (l.length : Int) s) := by
 obtain ⟨a, b, c⟩ := s
 obtain ⟨k, rfl⟩ : ∃ z, k = z + 1 := ⟨k - 1, by omega⟩
 obtain ⟨k, rfl⟩ : ∃ z, k = z + 1 := ⟨k - 1, by omega⟩
 have hw : wrap64 ((l.length : Int) - 1) = (l.length : Int) - 1 := wrap_in (by omega) (by omega)
 simp only [stepOk, spec_l2Step.f, spec_l2Step.j0, spec_l2Step.j1, spec_l2Reg.f, spec_l2Number.f, spec_l2Function.f, sin_eq, Option.bind_some, hw]
 generalize (l.length : Int) = n
 by_cases k1 : a = 1
 ·subst k1
  rw [if_pos rfl]
  by_cases hb : 0 ≤ b ∧ b ≤ 3 <;> by_cases hc : -32768 ≤ c ∧ c ≤ 32767 <;> simp [hb, hc]
 rw [if_neg k1]
 by_cases k2 : a = 2
 ·subst k2
  rw [if_pos rfl]
  by_cases hb : 0 ≤ b ∧ b ≤ 3 <;> by_cases hc : 0 ≤ c ∧ c ≤ 3 <;> simp [hb, hc]
 rw [if_neg k2]
 by_cases k4 : a = 4
 ·subst k4
  rw [if_pos rfl]
  by_cases hb : 0 ≤ b ∧ b ≤ n - 1 <;> by_cases hc : 0 ≤ c ∧ c ≤ 3 <;> simp [hb, hc]
 rw [if_neg k4]
 by_cases k5 : a = 5
 ·subst k5
  by_cases hb : 0 ≤ b ∧ b ≤ n - 1 <;> by_cases hc : 0 ≤ c ∧ c ≤ 3 <;> simp [hb, hc]
 have e5 : (a == 5) = false := by simp [k5]
 rw [e5, if_neg (by simp)]
 by_cases k10 : a = 10
 ·subst k10
  by_cases hb : b = 0 <;> by_cases hc : c = 0 <;> simp [hb, hc]
 by_cases k11 : a = 11
 ·subst k11
  by_cases hb : 0 ≤ b ∧ b ≤ 8 <;> by_cases hc : 0 ≤ c ∧ c ≤ 3 <;> simp [hb, hc]
 by_cases hb : 0 ≤ b ∧ b ≤ 3 <;> by_cases hc : c = 0 <;> by_cases k3 : a = 3 <;> by_cases k6 : a = 6 <;> by_cases k7 : a = 7 <;> by_cases k8 : a = 8 <;> by_cases k9 : a = 9 <;> by_cases k12 : a = 12 <;> by_cases k13 : a = 13 <;> simp_all
 all_goals (have hq : ¬ (0 ≤ b ∧ b ≤ 3) := fun h => by have := hb h.1; omega)
 all_goals (rw [if_neg hq, ← Bool.decide_and, decide_eq_false hq])
theorem prog_l1 (l : List (List S66)) (hl : l.length ≤ 6) (i : Nat) (hi : i < l.length) (hb : l[i].length ≤ 8) : ∀ (d j : Nat), d + j = l[i].length → ∀ k, 10 + d < k →
  ∃ k', k ≤ k' + d + 1 ∧ spec_l2Program.l1 k i j l = if ((l[i].drop j).all (stepOk (l.length : Int))) = true then spec_l2Program.l0 k' ((i + 1 : Nat) : Int) l else some false := by
 intro d
 induction d with
 | zero =>
  intro j hd k hk
  obtain ⟨k, rfl⟩ : ∃ z, k = z + 1 := ⟨k - 1, by omega⟩
  refine ⟨k, by omega, ?_⟩
  rw [spec_l2Program.l1, if_pos (by omega), if_pos (by omega), rd4_at l i hi, if_neg (by omega), wrap_in (by omega) (by omega), List.drop_eq_nil_of_le (by omega)]
  simp
 | succ d ih =>
  intro j hd k hk
  obtain ⟨k, rfl⟩ : ∃ z, k = z + 1 := ⟨k - 1, by omega⟩
  have hj : j < l[i].length := by omega
  obtain ⟨k', h1, h2⟩ := ih (j + 1) (by omega) k (by omega)
  have hdrop : l[i].drop j = l[i][j] :: l[i].drop (j + 1) := List.drop_eq_getElem_cons hj
  refine ⟨k', by omega, ?_⟩
  rw [spec_l2Program.l1, if_pos (by omega), if_pos (by omega), rd4_at l i hi, if_pos (by omega), if_pos (by omega), rd72_at _ j hj, sStep_eq l l[i][j] hl k (by omega), Option.bind_some, wrap_in (by omega) (by omega), hdrop]
  cases hs : stepOk (l.length : Int) l[i][j] with
  | true =>
   rw [if_pos rfl, List.all_cons, hs, Bool.true_and]
   exact_mod_cast h2
  | false =>
   rw [if_neg (by simp), List.all_cons, hs, Bool.false_and, if_neg (by simp)]
theorem prog_l0 (l : List (List S66)) (hl : l.length ≤ 6) : ∀ (d i : Nat), d + i = l.length → ∀ k, 100 * d + 20 < k → spec_l2Program.l0 k i l = some ((l.drop i).all (bodyOk (l.length : Int))) := by
 intro d
 induction d with
 | zero =>
  intro i hd k hk
  obtain ⟨k, rfl⟩ : ∃ z, k = z + 1 := ⟨k - 1, by omega⟩
  rw [spec_l2Program.l0, if_neg (by omega), List.drop_eq_nil_of_le (by omega)]
  rfl
 | succ d ih =>
  intro i hd k hk
  obtain ⟨k, rfl⟩ : ∃ z, k = z + 1 := ⟨k - 1, by omega⟩
  have hi : i < l.length := by omega
  have hdrop : l.drop i = l[i] :: l.drop (i + 1) := List.drop_eq_getElem_cons hi
  rw [spec_l2Program.l0, if_pos (by omega), if_pos (by omega), rd4_at l i hi, hdrop, List.all_cons]
  by_cases h8 : l[i].length ≤ 8
  ·obtain ⟨k', h1, h2⟩ := prog_l1 l hl i hi h8 l[i].length 0 (by omega) k (by omega)
   rw [Int.natCast_zero, List.drop_zero] at h2
   have hk : bodyOk (l.length : Int) l[i] = l[i].all (stepOk (l.length : Int)) := by unfold bodyOk; rw [decide_eq_true h8, Bool.true_and]
   rw [if_neg (by omega), h2, hk]
   cases ha : l[i].all (stepOk (l.length : Int)) with
   | true => rw [if_pos rfl, Bool.true_and]; exact ih (i + 1) (by omega) k' (by omega)
   | false => rw [if_neg (by simp), Bool.false_and]
  ·have hk : bodyOk (l.length : Int) l[i] = false := by unfold bodyOk; rw [decide_eq_false h8, Bool.false_and]
   rw [if_pos (by omega), hk, Bool.false_and]
theorem program_ok (l : List (List S66)) (k : Nat) (hk : 1000 < k) : spec_l2Program.f k l = some (progOk l) := by
 unfold spec_l2Program.f progOk
 rw [sin_eq, Option.bind_some]
 by_cases h : 1 ≤ l.length ∧ l.length ≤ 6
 ·have := prog_l0 l h.2 l.length 0 (by omega) k (by omega)
  rw [Int.natCast_zero, List.drop_zero] at this
  rw [decide_eq_true (by omega), if_pos rfl, this, decide_eq_true h.1, decide_eq_true h.2]
  rfl
 ·rw [decide_eq_false (by omega), if_neg (by simp)]
  by_cases h1 : 1 ≤ l.length
  ·rw [decide_eq_false (show ¬ l.length ≤ 6 by omega)]; simp
  ·rw [decide_eq_false h1]; simp
theorem total_toP (l : List (List S99)) : total (toP l) = total l := by
 unfold total toP
 rw [List.map_map]
 congr 1
 apply List.map_congr_left
 intro b _
 simp
theorem mem_total {α : Type} : ∀ (l : List (List α)) (b : List α), b ∈ l → b.length ≤ total l := by
 intro l
 induction l with
 | nil => intro b h; cases h
 | cons c l ih =>
  intro b h
  rw [total_cons]
  rcases List.mem_cons.1 h with h | h
  ·subst h; omega
  ·have := ih b h; omega
end Go.Proofs.YthdhhpcbagpmgaaDoor.PureL
end

section
set_option linter.unusedVariables false
set_option linter.unusedSimpArgs false
namespace Go.Proofs.YthdhhpcbagpmgaaDoor.PureL
open Go.RowKit Go.Proofs.YthdhhpcbagpmgaaDoor.Pr Go.Proofs.YthdhhpcbagpmgaaDoorW.PrintWords Go.Proofs.YthdhhpcbagpmgaaDoorW.PrintLast
def goodB (p : List (List S66)) (u v : Int) : Bool := progOk p && decide (0 ≤ u ∧ u ≤ 200) && decide (0 ≤ v ∧ v ≤ 1000)
theorem good_eq (p : List (List S66)) (u v : Int) (k : Nat) (hk : 1000 < k) : spec_l12Good.f k p u v = some (goodB p u v) ∧ impl_IsBench.f p u v = some (goodB p u v) := by
 unfold spec_l12Good.f impl_IsBench.f impl_IsProgram.f goodB
 rw [program_ok p k hk, sin_eq, in_eq, sin_eq, in_eq]
 simp only [Option.bind_some]
 cases hp : progOk p with
 | false => simp
 | true =>
  by_cases hf : 0 ≤ u ∧ u ≤ 200
  ·simp [hf]
  ·simp [hf]
theorem sz_log' (a b : ByteArray) (n : Int) (z : Int) (h0 : 0 ≤ z) (h1 : z ≤ 1048576) (ha : a.size ≤ 140737488351232) (hb : b.size ≤ 140737488351232) : ∃ r, laws_szLog.f a b n z = some r ∧ (¬ r < 0 → a.size ≤ 1048576 ∧ b.size ≤ 1048576) := by
 unfold laws_szLog.f
 rw [wrap_in (by omega) (by omega), wrap_in (by omega) (by omega)]
 by_cases h1 : z - (a.size : Int) < 0
 ·rw [if_pos h1]; exact ⟨_, rfl, fun h => absurd (by omega) h⟩
 ·rw [if_neg h1]
  by_cases h2 : z - (a.size : Int) - (b.size : Int) < 0
  ·rw [if_pos h2]; exact ⟨_, rfl, fun h => absurd (by omega) h⟩
  ·rw [if_neg h2]; exact ⟨_, rfl, fun _ => by omega⟩
theorem sz_console (l : List (List S99)) (u v : Int) (a b : ByteArray) (n : Int) (hb : ∀ b ∈ l, b.length ≤ 9223372036854775807) (hl : l.length ≤ 9223372036854775807) (ha : a.size ≤ 140737488351232) (hb2 : b.size ≤ 140737488351232) :
  ∃ r, (∀ k, l.length + 1 < k → laws_szConsole.f k l u v a b n 1048576 = some r) ∧ (¬ r < 0 → l.length + total l ≤ 1048576 ∧ a.size ≤ 1048576 ∧ b.size ≤ 1048576) := by
 obtain ⟨z, h1, h2⟩ := szProgram_ok l hb hl
 by_cases h0 : z < 0
 ·refine ⟨-1, fun k hk => ?_, fun h => absurd (by omega) h⟩
  unfold laws_szConsole.f laws_szBench.f
  rw [h1 k hk, Option.bind_some, if_pos h0, Option.bind_some, if_pos (by omega)]
 ·have hz : z ≤ 1048576 := (h2 (by omega)).2
  obtain ⟨r, h3, h4⟩ := sz_log' a b n z (by omega) hz ha hb2
  by_cases hr : r < 0
  ·refine ⟨-1, fun k hk => ?_, fun h => absurd (by omega) h⟩
   unfold laws_szConsole.f laws_szBench.f
   rw [h1 k hk, Option.bind_some, if_neg h0, Option.bind_some, if_neg h0, h3, Option.bind_some, if_pos hr]
  ·refine ⟨r, fun k hk => ?_, fun _ => ⟨(h2 (by omega)).1, h4 hr⟩⟩
   unfold laws_szConsole.f laws_szBench.f
   rw [h1 k hk, Option.bind_some, if_neg h0, Option.bind_some, if_neg h0, h3, Option.bind_some, if_neg hr]
theorem FnExactIsValidConsole (l : List (List S99)) (u v : Int) (a b : ByteArray) (n : Int) (hb : ∀ b ∈ l, b.length ≤ 9223372036854775807) (hl : l.length ≤ 9223372036854775807) (ha : a.size ≤ 140737488351232) (hb2 : b.size ≤ 140737488351232) :
  ∃ k, laws_FnExactIsValidConsole.f k l u v a b n = some true := by
 obtain ⟨z, hz, hs⟩ := sz_console l u v a b n hb hl ha hb2
 obtain ⟨k, hk⟩ : ∃ k, 40000000 + l.length < k := ⟨_, Nat.lt_succ_self _⟩
 refine ⟨k, ?_⟩
 unfold laws_FnExactIsValidConsole.f
 rw [hz k (by omega), Option.bind_some]
 by_cases h : z < 0
 ·rw [if_pos h]
 rw [if_neg h]
 obtain ⟨h1, h2, h3⟩ := hs h
 have hb3 : ∀ b ∈ l, b.length ≤ 1048576 := fun b hb => by have := mem_total l b hb; omega
 have hpl : (toP l).length ≤ 1048576 := by unfold toP; rw [List.length_map]; omega
 have htp : total (toP l) ≤ 1048576 := by rw [total_toP]; omega
 have hpb : ∀ b ∈ toP l, b.length ≤ 1048576 := fun b hb => by have := mem_total _ b hb; omega
 have hT : laws_toConsole.f k l u v a b n = some (toP l, u, v, a, b, n) := by
  unfold laws_toConsole.f laws_toBench.f laws_toLog.f
  rw [toProgram_ok l (by omega) hb3 k (by omega), Option.bind_some, Option.bind_some, Option.bind_some]
 have hE : laws_eqConsole.f k (toP l) u v a b n (toP l) u v a b n = some true := by
  unfold laws_eqConsole.f laws_eqBench.f
  rw [eqProgram_ok _ hpl hpb k (by omega), Option.bind_some, if_pos rfl, if_pos rfl, if_pos rfl, Option.bind_some, if_pos rfl, eqLog_same, Option.bind_some, if_pos rfl]
 obtain ⟨w, _, hv⟩ := valid_eq a b n h2 h3
 obtain ⟨e1, e2⟩ := hv k (by omega)
 obtain ⟨g1, g2⟩ := good_eq (toP l) u v k (by omega)
 rw [hT]
 simp only [Option.bind_some]
 unfold spec_IsValidConsole.f impl_IsValidConsole.f
 rw [g1, g2, e1, e2]
 simp only [Option.bind_some]
 rw [hE]
 cases goodB (toP l) u v <;> simp
end Go.Proofs.YthdhhpcbagpmgaaDoor.PureL
end

section
namespace Go.Proofs.YthdhhpcbagpmgaaDoor.PureL
open Go.RowKit Go.Proofs.YthdhhpcbagpmgaaDoor.Pr Go.Proofs.YthdhhpcbagpmgaaDoorW.PrintWords Go.Proofs.YthdhhpcbagpmgaaDoorW.PrintLast Go.ChangeShapes Go.WideShapes
set_option linter.unusedVariables false
set_option linter.unusedSimpArgs false
section
variable {H : Type} {enc : TypeId × Value → H} {w : World} {base : Nat} {spare : Nat → Bool} {held : Bool}
def Opens {α : Type} (enc : TypeId × Value → H) (w : World) (base : Nat) (spare : Nat → Bool) (held : Bool) (d : Kd α) (t : TypeId) (good : α → Prop) : Prop :=
 ∀ (fuel : Nat) (cs : List Value) (x : DataW H × List MemPlace), DataW.trod enc Tryd.prog w base spare held fuel t cs = some x → ∃ y, d.K w y cs ∧ good y
theorem opens_slice {α : Type} {d : Kd α} {t e : TypeId} {good : α → Prop} (ht : Tryd.prog.underlying t = some (.slice e)) (hc : Tryd.prog.cellsOf e = d.sz) (h : Opens enc w base spare held d e good) :
  Opens enc w base spare held (Kd.slice e d) t (fun l => l.length ≤ maxLen ∧ ∀ y ∈ l, good y) := by
 intro fuel cs x hx
 rcases DataW.trod_slice ht hx with ⟨rfl, _⟩ | ⟨a, len, cap, elems, rest, n, _, rfl, _, hb, hl, hm, hlen, hel, _, _⟩
 ·exact ⟨[], ⟨none, 0, rfl, Nat.le_refl _, rfl, by simp, fun h => absurd h (by simp)⟩, by simp, by simp⟩
 ·have each : ∀ i, i < len → ∃ y, (∃ c, c.length = d.sz ∧ d.K w y c ∧ ∀ q u, c[q]? = some u → w.cell? (a.add (i * d.sz + q)) = some u) ∧ good y := by
   intro i hi
   have he := hel i hi
   rw [List.getElem?_eq_getElem (by omega), Option.bind_eq_some_iff] at he
   obtain ⟨c, hcs, hy⟩ := he
   obtain ⟨y, hK, hg⟩ := h n c _ hy
   obtain ⟨_, hcl, hcell⟩ := World.cells?_some hcs
   rw [hc] at hcl hcell
   refine ⟨y, ⟨c, hcl, hK, fun q u hq => ?_⟩, hg⟩
   have hq' : q < c.length := (List.getElem?_eq_some_iff.1 hq).1
   have := hcell q (by omega)
   rw [hq, Addr.add_add] at this
   exact this
  have build : ∀ m, m ≤ len → ∃ l : List α, l.length = m ∧ (∀ j p, l[j]? = some p → ∃ c, c.length = d.sz ∧ d.K w p c ∧ ∀ q u, c[q]? = some u → w.cell? (a.add (j * d.sz + q)) = some u) ∧ ∀ y ∈ l, good y := by
   intro m
   induction m with
   | zero => intro _; exact ⟨[], rfl, fun j p h => by simp at h, by simp⟩
   | succ m ih =>
    intro hm
    obtain ⟨l, h1, h2, h3⟩ := ih (by omega)
    obtain ⟨y, hy, hg⟩ := each m (by omega)
    refine ⟨l ++ [y], by simp [h1], fun j p hp => ?_, fun z hz => ?_⟩
    ·by_cases hj : j < l.length
     ·rw [List.getElem?_append_left hj] at hp; exact h2 j p hp
     ·have hj2 : j < (l ++ [y]).length := (List.getElem?_eq_some_iff.1 hp).1
      have hjm : j = m := by simp only [List.length_append, List.length_singleton] at hj2; omega
      subst hjm
      rw [List.getElem?_append_right (by omega), h1, Nat.sub_self] at hp
      simp only [List.getElem?_cons_zero, Option.some.injEq] at hp
      subst hp
      exact hy
    ·rcases List.mem_append.1 hz with hz | hz
     ·exact h3 z hz
     ·rw [List.mem_singleton] at hz; subst hz; exact hg
  obtain ⟨l, h1, h2, h3⟩ := build len (Nat.le_refl _)
  have hmx : maxLen ≤ 9223372036854775807 := by simp only [maxLen]; decide
  refine ⟨l, ⟨some a, cap, by rw [h1], by omega, h1 ▸ rfl, by omega, fun _ => ⟨a, rfl, h2⟩⟩, by omega, h3⟩
set_option maxRecDepth 100000 in
theorem opens_step : Opens enc w base spare held k99 99 (fun s => (Lit.int .i64 s.f0).wf = true ∧ (Lit.int .i64 s.f1).wf = true ∧ (Lit.int .i64 s.f2).wf = true) := by
 intro fuel cs x hx
 obtain ⟨xs, n, _, _, hl, hlen, hf⟩ := DataW.trod_struct Tryd.underlying99 hx
 have hcl : cs.length = 3 := hl.trans (by kernel_rfl)
 have h3 : Tryd.prog.cellsOf 3 = 1 := by kernel_rfl
 have h0 := hf 0 { name := "Kind", type := 3, offset := 0, embedded := false, tag := "", pkgPath := "", byteOffset := 0 } rfl
 have h1 := hf 1 { name := "A", type := 3, offset := 1, embedded := false, tag := "", pkgPath := "", byteOffset := 8 } rfl
 have h2 := hf 2 { name := "B", type := 3, offset := 2, embedded := false, tag := "", pkgPath := "", byteOffset := 16 } rfl
 have hx3 : xs.length = 3 := hlen
 match cs, hcl with
 | [c0, c1, c2], _ =>
  dsimp only at h0 h1 h2
  rw [h3] at h0 h1 h2
  rw [List.getElem?_eq_getElem (by omega)] at h0 h1 h2
  obtain ⟨n0, e0, _, w0⟩ := DataW.trod_int Tryd.underlying3 h0
  obtain ⟨n1, e1, _, w1⟩ := DataW.trod_int Tryd.underlying3 h1
  obtain ⟨n2, e2, _, w2⟩ := DataW.trod_int Tryd.underlying3 h2
  simp at e0 e1 e2
  subst e0 e1 e2
  exact ⟨⟨n0, n1, n2⟩, k99_mk w ⟨n0, n1, n2⟩, w0, w1, w2⟩
theorem opens_body : Opens enc w base spare held (Kd.slice 99 k99) 81 (fun l => l.length ≤ maxLen ∧ ∀ s ∈ l, (Lit.int .i64 s.f0).wf = true ∧ (Lit.int .i64 s.f1).wf = true ∧ (Lit.int .i64 s.f2).wf = true) :=
 opens_slice Tryd.underlying81 (by kernel_rfl) opens_step
theorem opens_bodies : Opens enc w base spare held (Kd.slice 81 (Kd.slice 99 k99)) 22 (fun l => l.length ≤ maxLen ∧ ∀ b ∈ l, b.length ≤ maxLen ∧ ∀ s ∈ b, (Lit.int .i64 s.f0).wf = true ∧ (Lit.int .i64 s.f1).wf = true ∧ (Lit.int .i64 s.f2).wf = true) :=
 opens_slice Tryd.underlying22 (by kernel_rfl) opens_body
set_option maxRecDepth 100000 in
theorem open_program {fuel : Nat} {cs : List Value} {x : DataW H × List MemPlace} (h : DataW.trod enc Tryd.prog w base spare held fuel 24 cs = some x) :
  ∃ (l : List (List S99)) (A : Option Addr) (c : Nat), cs = [.slice A l.length c] ∧ l.length ≤ c ∧ Kd.C (Kd.slice 99 k99) w A l.length l ∧ l.length ≤ maxLen ∧ ∀ b ∈ l, b.length ≤ maxLen ∧ ∀ s ∈ b, (Lit.int .i64 s.f0).wf = true ∧ (Lit.int .i64 s.f1).wf = true ∧ (Lit.int .i64 s.f2).wf = true := by
 obtain ⟨y0, n, _, hl, hy⟩ := trod_struct1 Tryd.underlying24 h
 have hcl : cs.length = 1 := hl.trans (by kernel_rfl)
 have hSS : Tryd.prog.cellsOf 22 = 1 := by kernel_rfl
 match cs, hcl with
 | [v], _ =>
  rw [hSS] at hy
  obtain ⟨l, ⟨A, c, e, hc, hC⟩, hg⟩ := opens_bodies n _ _ hy
  simp at e
  subst e
  exact ⟨l, A, c, rfl, hc, hC, hg⟩
set_option maxRecDepth 100000 in
theorem open_bench {fuel : Nat} {cs : List Value} {x : DataW H × List MemPlace} (h : DataW.trod enc Tryd.prog w base spare held fuel 26 cs = some x) :
  ∃ (l : List (List S99)) (A : Option Addr) (c : Nat) (u v : Int), cs = [.slice A l.length c, .int .i64 u, .int .i64 v] ∧ l.length ≤ c ∧ Kd.C (Kd.slice 99 k99) w A l.length l ∧ l.length ≤ maxLen ∧ ∀ b ∈ l, b.length ≤ maxLen := by
 obtain ⟨xs, n, _, _, hl, hlen, hf⟩ := DataW.trod_struct Tryd.underlying26 h
 have hcl : cs.length = 3 := hl.trans (by kernel_rfl)
 have h3 : Tryd.prog.cellsOf 3 = 1 := by kernel_rfl
 have hPR : Tryd.prog.cellsOf 24 = 1 := by kernel_rfl
 have g0 := hf 0 { name := "Program", type := 24, offset := 0, embedded := false, tag := "", pkgPath := "", byteOffset := 0 } rfl
 have g1 := hf 1 { name := "Fuel", type := 3, offset := 1, embedded := false, tag := "", pkgPath := "", byteOffset := 24 } rfl
 have g2 := hf 2 { name := "Count", type := 3, offset := 2, embedded := false, tag := "", pkgPath := "", byteOffset := 32 } rfl
 have hx3 : xs.length = 3 := hlen
 match cs, hcl with
 | [c0, c1, c2], _ =>
  dsimp only at g0 g1 g2
  rw [hPR] at g0
  rw [h3] at g1 g2
  rw [List.getElem?_eq_getElem (by omega)] at g0 g1 g2
  obtain ⟨l, A, c, e0, hc, hC, hm, hg⟩ := open_program g0
  obtain ⟨n1, e1, _, _⟩ := DataW.trod_int Tryd.underlying3 g1
  obtain ⟨n2, e2, _, _⟩ := DataW.trod_int Tryd.underlying3 g2
  simp at e0 e1 e2
  subst e0 e1 e2
  exact ⟨l, A, c, n1, n2, rfl, hc, hC, hm, fun b hb => (hg b hb).1⟩
set_option maxRecDepth 100000 in
theorem open_console {fuel : Nat} {cs : List Value} {x : DataW H × List MemPlace} (h : DataW.trod enc Tryd.prog w base spare held fuel 30 cs = some x) :
  ∃ (l : List (List S99)) (A : Option Addr) (c : Nat) (u v : Int) (a b : ByteArray) (n : Int) (xb : DataW H), cs = [.slice A l.length c, .int .i64 u, .int .i64 v, .string a, .string b, .int .i64 n] ∧ l.length ≤ c ∧ Kd.C (Kd.slice 99 k99) w A l.length l ∧ l.length ≤ maxLen ∧ (∀ b ∈ l, b.length ≤ maxLen) ∧
   x.1 = .agg [xb, .agg [.lit (.string a.data.toList), .lit (.string b.data.toList), .lit (.int .i64 n)]] := by
 obtain ⟨y0, y1, n, rfl, hl, g0, g1⟩ := trod_struct2 Tryd.underlying30 h
 have hcl : cs.length = 6 := hl.trans (by kernel_rfl)
 have h26 : Tryd.prog.cellsOf 26 = 3 := by kernel_rfl
 have h28 : Tryd.prog.cellsOf 28 = 3 := by kernel_rfl
 have hI : Tryd.prog.cellsOf 3 = 1 := by kernel_rfl
 have hS : Tryd.prog.cellsOf 9 = 1 := by kernel_rfl
 match cs, hcl with
 | [c0, c1, c2, c3, c4, c5], _ =>
  dsimp only at g0 g1
  rw [h26] at g0
  rw [h28] at g1
  obtain ⟨l, A, c, u, v, e0, hc, hC, hm, hg⟩ := open_bench g0
  obtain ⟨z0, z1, z2, m, hz, _, f0, f1, f2⟩ := Go.Deep.trod_struct3 Tryd.underlying28 g1
  subst hz
  dsimp only at f0 f1 f2
  rw [hS] at f0 f1
  rw [hI] at f2
  obtain ⟨a, ea, rfl, _⟩ := DataW.trod_string Tryd.underlying9 f0
  obtain ⟨b, eb, rfl, _⟩ := DataW.trod_string Tryd.underlying9 f1
  obtain ⟨k, ek, rfl, _⟩ := DataW.trod_int Tryd.underlying3 f2
  simp at e0 ea eb ek
  obtain ⟨rfl, rfl, rfl⟩ := e0
  subst ea eb ek
  exact ⟨l, A, c, u, v, a, b, k, y0.1, rfl, hc, hC, hm, hg, rfl⟩
end
end Go.Proofs.YthdhhpcbagpmgaaDoor.PureL
end
