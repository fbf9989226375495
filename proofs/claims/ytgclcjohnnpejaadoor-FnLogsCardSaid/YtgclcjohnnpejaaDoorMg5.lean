-- texts of this session, and of the kit's print, cut to what the claim leans on
import Derived.Test.YtgclcjohnnpejaaDoorMg4
import Derived.Test.YtgclcjohnnpejaaDoorMg2
import Derived.Test.YtgclcjohnnpejaaDoorMg3
import Derived.Shelf.Strings.Builder1
import Derived.Shelf.Strings.Builder2
import Derived.Shelf.Strings.OnBuilder
import Derived.Shelf.Small.Strs
import Derived.Shelf.Strconv.Itoa0
import Derived.Shelf.Strconv.Itoa1
import Derived.Shelf.LaysM
import Derived.Shelf.Strconv.Itoa2
import Derived.Shelf.Strconv.Itoa3
import Derived.Shelf.Strings.Search1
import Derived.Shelf.Strings.Search2
import Derived.Shelf.Strings.Search3
import Derived.Shelf.Strings.Cut
import Derived.Shelf.Strings.Count
import Derived.Shelf.Strings.Shaped
import Derived.Shelf.Strings.Split
import Derived.Shelf.Strings.SplitShaped
import Derived.Shelf.Unicode.DecodeSlow
import Derived.Test.YtgclcjohnnpejaaDoorProg
import Derived.Test.YtgclcjohnnpejaaDoorMg0
section
namespace Go.Proofs.YtgclcjohnnpejaaDoor.Pr
open Go.RowKit Go.Proofs.YtgclcjohnnpejaaDoorW.PrintWords Go.Proofs.YtgclcjohnnpejaaDoorW.PrintLast Go.Proofs.YtgclcjohnnpejaaDoorW.PrintMore
attribute [local go_sem] max2_int min2_int max_two min_two max_three min_three max_four min_four
set_option linter.unusedVariables false
set_option linter.unusedSimpArgs false
def spec_l12Valid.f (k : Nat) (a0_0 : ByteArray) (a0_1 : ByteArray) (a0_2 : Int) : Option (Bool) := if (wrap64 ((a0_0.size : Int) + (a0_1.size : Int))) > 30000 then (some false) else (if a0_0.size + a0_1.size ≤ 9223372036854775807 then ((spec_l12Open.f k (a0_0 ++ a0_1)).bind fun bt231 => ((spec_l12Open.f k a0_0).bind fun bt235 => (if bt231.2 = (wrap64 ((a0_0.size : Int) + (a0_1.size : Int))) then (if bt235.2 = (a0_0.size : Int) then (some ((bt231.1.length : Int) == a0_2)) else (some false)) else (some false)))) else (none))
set_option maxHeartbeats 8000000 in
set_option maxRecDepth 100000 in
theorem spec_l12Valid.calls (k : Nat) (a0_0 : ByteArray) (a0_1 : ByteArray) (a0_2 : Int) (r : Bool) (w : World) (h : spec_l12Valid.f k a0_0 a0_1 a0_2 = some r) :
  Calls Tryd.prog 81 #[.agg #[.string a0_0, .string a0_1, .int .i64 a0_2]] w fun e w' => e = .returned (.bool r) ∧ Below w.heap.size w w' := by
 have hu42 := Tryd.underlying42
 have HB := am (Below.refl w.heap.size w)
 have H : (if (wrap64 ((a0_0.size : Int) + (a0_1.size : Int))) > 30000 then (some false) else (if a0_0.size + a0_1.size ≤ 9223372036854775807 then ((spec_l12Open.f k (a0_0 ++ a0_1)).bind fun bt231 => ((spec_l12Open.f k a0_0).bind fun bt235 => (if bt231.2 = (wrap64 ((a0_0.size : Int) + (a0_1.size : Int))) then (if bt235.2 = (a0_0.size : Int) then (some ((bt231.1.length : Int) == a0_2)) else (some false)) else (some false)))) else (none))) = some r := h
 clear h
 by_cases c2 : (wrap64 ((a0_0.size : Int) + (a0_1.size : Int))) > 30000
 ·rw [if_pos c2] at H
  have c2b0 : decide (30000 < (wrap64 ((a0_0.size : Int) + (a0_1.size : Int)))) = true := decide_eq_true c2
  clear c2
  obtain rfl := Option.some.inj H
  (try (have hz_ : wrap64 ((a0_0.size : Int) + (a0_1.size : Int)) = (a0_0.size : Int) + (a0_1.size : Int) := zq201; simp only [hz_] at c2b0; clear hz_))
  go_enter Tryd.func81, Tryd.ntmps81
  go_wp2_with (first | ((with_reducible refine gate_dst (N := 1) rfl ?_); (try (refine gate_guard (by rfl) ?_; dsimp only)); refine box_event ?hg (N := 1) ?hd (cs := #[.string a0_0, .string a0_1, .int .i64 a0_2]) (t := 42) ?hr ?_; (case hd => rfl); (case hg => rfl); (case hr => first | (go_simp; done) | (go_simp; rfl)); intro gb230 hg w3 hbox hb; have n0_ := am (below_step zq0 hb); have n1_ := am (hbox); have n2_ := am ((zq8 : w.heap.size ≤ gb230)); have n3_ := am ((zq8 : w.heap.size ≤ gb230)); clear HB; have HB := n0_; have BK230 := n1_; have GW230 := n2_; have GE230 := n3_; clear n0_ n1_ n2_ n3_; clear hb hbox hg; have hcz4_0 : w3.cell? ⟨gb230, 0, none⟩ = some (.string a0_0) := (blk_cell BK230.out 0).trans rfl; have hcz4_1 : w3.cell? ⟨gb230, 1, none⟩ = some (.string a0_1) := (blk_cell BK230.out 1).trans rfl; have hcz4_2 : w3.cell? ⟨gb230, 2, none⟩ = some (.int .i64 a0_2) := (blk_cell BK230.out 2).trans rfl; have hfz4_0 := blk_frozen BK230.out 0; have hfz4_1 := blk_frozen BK230.out 1; have hfz4_2 := blk_frozen BK230.out 2))
  go_ret
  exact ⟨zq7, zq36⟩
 ·rw [if_neg c2] at H
  have c2b0 : decide (30000 < (wrap64 ((a0_0.size : Int) + (a0_1.size : Int)))) = false := decide_eq_false c2
  clear c2
  by_cases c5 : a0_0.size + a0_1.size ≤ 9223372036854775807
  ·rw [if_pos c5] at H
   have c5b0 := eq_true c5
   have c5b1 : decide (a0_0.size + a0_1.size ≤ 9223372036854775807) = true := decide_eq_true c5
   try have c5b2 : (9223372036854775807 < a0_0.size + a0_1.size) = False := eq_false (Nat.not_lt.2 c5)
   replace H := bem H
   obtain ⟨⟨t231, t232⟩, A60, H⟩ := H
   replace H : ((spec_l12Open.f k a0_0).bind fun bt235 => (if t232 = (wrap64 ((a0_0.size : Int) + (a0_1.size : Int))) then (if bt235.2 = (a0_0.size : Int) then (some ((t231.length : Int) == a0_2)) else (some false)) else (some false))) = some r := H
   have A6 := am A60
   clear A60
   replace H := bem H
   obtain ⟨⟨t235, t236⟩, A70, H⟩ := H
   replace H : (if t232 = (wrap64 ((a0_0.size : Int) + (a0_1.size : Int))) then (if t236 = (a0_0.size : Int) then (some ((t231.length : Int) == a0_2)) else (some false)) else (some false)) = some r := H
   have A7 := am A70
   clear A70
   by_cases c8 : t232 = (wrap64 ((a0_0.size : Int) + (a0_1.size : Int)))
   ·rw [if_pos c8] at H
    have c8b0 : (t232 == (wrap64 ((a0_0.size : Int) + (a0_1.size : Int)))) = true := beq_iff_eq.mpr c8
    have c8b1 : (t232 != (wrap64 ((a0_0.size : Int) + (a0_1.size : Int)))) = false := bne_eq_false_iff_eq.mpr c8
    clear c8
    by_cases c9 : t236 = (a0_0.size : Int)
    ·rw [if_pos c9] at H
     have c9b0 : (t236 == (a0_0.size : Int)) = true := beq_iff_eq.mpr c9
     have c9b1 : (t236 != (a0_0.size : Int)) = false := bne_eq_false_iff_eq.mpr c9
     clear c9
     obtain rfl := Option.some.inj H
     (try (have hz_ : wrap64 ((a0_0.size : Int) + (a0_1.size : Int)) = (a0_0.size : Int) + (a0_1.size : Int) := zq201; simp only [hz_] at c2b0 c8b0 c8b1; clear hz_))
     go_enter Tryd.func81, Tryd.ntmps81
     go_wp2_with (first | ((with_reducible refine gate_dst (N := 1) rfl ?_); (try (refine gate_guard (by rfl) ?_; dsimp only)); refine box_event ?hg (N := 1) ?hd (cs := #[.string a0_0, .string a0_1, .int .i64 a0_2]) (t := 42) ?hr ?_; (case hd => rfl); (case hg => rfl); (case hr => first | (go_simp; done) | (go_simp; rfl)); intro gb230 hg w10 hbox hb; have n0_ := am (below_step zq0 hb); have n1_ := am (hbox); have n2_ := am ((zq8 : w.heap.size ≤ gb230)); have n3_ := am ((zq8 : w.heap.size ≤ gb230)); clear HB; have HB := n0_; have BK230 := n1_; have GW230 := n2_; have GE230 := n3_; clear n0_ n1_ n2_ n3_; clear hb hbox hg; have hcz11_0 : w10.cell? ⟨gb230, 0, none⟩ = some (.string a0_0) := (blk_cell BK230.out 0).trans rfl; have hcz11_1 : w10.cell? ⟨gb230, 1, none⟩ = some (.string a0_1) := (blk_cell BK230.out 1).trans rfl; have hcz11_2 : w10.cell? ⟨gb230, 2, none⟩ = some (.int .i64 a0_2) := (blk_cell BK230.out 2).trans rfl; have hfz11_0 := blk_frozen BK230.out 0; have hfz11_1 := blk_frozen BK230.out 1; have hfz11_2 := blk_frozen BK230.out 2) | ((with_reducible refine gate_callee (f := 79) rfl ?_); refine goesL_ (some 21) rfl rfl Tryd.func79 zq21 rfl #[.string (a0_0 ++ a0_1)] rfl zq5 ?_; (with_reducible refine (spec_l12Open.calls k (a0_0 ++ a0_1) t231 t232 _ A6.out).mono ?_); rintro e w12 ⟨v233, rfl, ho0, hb⟩; refine ⟨_, rfl, ?_⟩; have n0_ := am (Kd.R_lower ho0 (below_size zq36)); have n1_ := am (blk_below (g := gb230) (o := .cells #[.string a0_0, .string a0_1, .int .i64 a0_2] 42 (0, 0)) zq39 hb); have n2_ := am (below_step zq36 hb); clear BK230; clear HB; have HO234 := n0_; have BK230 := n1_; have HB := n2_; clear n0_ n1_ n2_; (try clear hb); (try clear hb2); (try clear hk); (try clear hi); (try clear ho0); have hcz13_0 : w12.cell? ⟨gb230, 0, none⟩ = some (.string a0_0) := (blk_cell BK230.out 0).trans rfl; have hcz13_1 : w12.cell? ⟨gb230, 1, none⟩ = some (.string a0_1) := (blk_cell BK230.out 1).trans rfl; have hcz13_2 : w12.cell? ⟨gb230, 2, none⟩ = some (.int .i64 a0_2) := (blk_cell BK230.out 2).trans rfl; have hfz13_0 := blk_frozen BK230.out 0; have hfz13_1 := blk_frozen BK230.out 1; have hfz13_2 := blk_frozen BK230.out 2) | ((with_reducible refine gate_callee (f := 79) rfl ?_); refine goesL_ (some 27) rfl rfl Tryd.func79 zq21 rfl #[.string a0_0] rfl zq5 ?_; (with_reducible refine (spec_l12Open.calls k a0_0 t235 t236 _ A7.out).mono ?_); rintro e w14 ⟨v237, rfl, ho0, hb⟩; refine ⟨_, rfl, ?_⟩; have n0_ := am (Kd.R_elder' zq40 (Kd.R_base ho0) hb); have n1_ := am (Kd.R_lower (Kd.R_new' ho0 (Kd.R_lt zq40)) (below_size zq36)); have n2_ := am (blk_below (g := gb230) (o := .cells #[.string a0_0, .string a0_1, .int .i64 a0_2] 42 (0, 0)) zq39 hb); have n3_ := am (below_step zq36 hb); clear HO234; clear BK230; clear HB; have HO234 := n0_; have HO238 := n1_; have BK230 := n2_; have HB := n3_; clear n0_ n1_ n2_ n3_; (try clear hb); (try clear hb2); (try clear hk); (try clear hi); (try clear ho0); have hcz15_0 : w14.cell? ⟨gb230, 0, none⟩ = some (.string a0_0) := (blk_cell BK230.out 0).trans rfl; have hcz15_1 : w14.cell? ⟨gb230, 1, none⟩ = some (.string a0_1) := (blk_cell BK230.out 1).trans rfl; have hcz15_2 : w14.cell? ⟨gb230, 2, none⟩ = some (.int .i64 a0_2) := (blk_cell BK230.out 2).trans rfl; have hfz15_0 := blk_frozen BK230.out 0; have hfz15_1 := blk_frozen BK230.out 1; have hfz15_2 := blk_frozen BK230.out 2; obtain ⟨Ao16, co16, eo16⟩ := Kd.R_slice HO234.out; subst eo16))
     go_ret
     exact ⟨zq7, zq36⟩
    ·rw [if_neg c9] at H
     have c9b0 : (t236 == (a0_0.size : Int)) = false := beq_eq_false_iff_ne.mpr c9
     have c9b1 : (t236 != (a0_0.size : Int)) = true := bne_iff_ne.mpr c9
     obtain rfl := Option.some.inj H
     (try (have hz_ : wrap64 ((a0_0.size : Int) + (a0_1.size : Int)) = (a0_0.size : Int) + (a0_1.size : Int) := zq201; simp only [hz_] at c2b0 c8b0 c8b1; clear hz_))
     go_enter Tryd.func81, Tryd.ntmps81
     go_wp2_with (first | ((with_reducible refine gate_dst (N := 1) rfl ?_); (try (refine gate_guard (by rfl) ?_; dsimp only)); refine box_event ?hg (N := 1) ?hd (cs := #[.string a0_0, .string a0_1, .int .i64 a0_2]) (t := 42) ?hr ?_; (case hd => rfl); (case hg => rfl); (case hr => first | (go_simp; done) | (go_simp; rfl)); intro gb230 hg w17 hbox hb; have n0_ := am (below_step zq0 hb); have n1_ := am (hbox); have n2_ := am ((zq8 : w.heap.size ≤ gb230)); have n3_ := am ((zq8 : w.heap.size ≤ gb230)); clear HB; have HB := n0_; have BK230 := n1_; have GW230 := n2_; have GE230 := n3_; clear n0_ n1_ n2_ n3_; clear hb hbox hg; have hcz18_0 : w17.cell? ⟨gb230, 0, none⟩ = some (.string a0_0) := (blk_cell BK230.out 0).trans rfl; have hcz18_1 : w17.cell? ⟨gb230, 1, none⟩ = some (.string a0_1) := (blk_cell BK230.out 1).trans rfl; have hcz18_2 : w17.cell? ⟨gb230, 2, none⟩ = some (.int .i64 a0_2) := (blk_cell BK230.out 2).trans rfl; have hfz18_0 := blk_frozen BK230.out 0; have hfz18_1 := blk_frozen BK230.out 1; have hfz18_2 := blk_frozen BK230.out 2) | ((with_reducible refine gate_callee (f := 79) rfl ?_); refine goesL_ (some 21) rfl rfl Tryd.func79 zq21 rfl #[.string (a0_0 ++ a0_1)] rfl zq5 ?_; (with_reducible refine (spec_l12Open.calls k (a0_0 ++ a0_1) t231 t232 _ A6.out).mono ?_); rintro e w19 ⟨v233, rfl, ho0, hb⟩; refine ⟨_, rfl, ?_⟩; have n0_ := am (Kd.R_lower ho0 (below_size zq36)); have n1_ := am (blk_below (g := gb230) (o := .cells #[.string a0_0, .string a0_1, .int .i64 a0_2] 42 (0, 0)) zq39 hb); have n2_ := am (below_step zq36 hb); clear BK230; clear HB; have HO234 := n0_; have BK230 := n1_; have HB := n2_; clear n0_ n1_ n2_; (try clear hb); (try clear hb2); (try clear hk); (try clear hi); (try clear ho0); have hcz20_0 : w19.cell? ⟨gb230, 0, none⟩ = some (.string a0_0) := (blk_cell BK230.out 0).trans rfl; have hcz20_1 : w19.cell? ⟨gb230, 1, none⟩ = some (.string a0_1) := (blk_cell BK230.out 1).trans rfl; have hcz20_2 : w19.cell? ⟨gb230, 2, none⟩ = some (.int .i64 a0_2) := (blk_cell BK230.out 2).trans rfl; have hfz20_0 := blk_frozen BK230.out 0; have hfz20_1 := blk_frozen BK230.out 1; have hfz20_2 := blk_frozen BK230.out 2) | ((with_reducible refine gate_callee (f := 79) rfl ?_); refine goesL_ (some 27) rfl rfl Tryd.func79 zq21 rfl #[.string a0_0] rfl zq5 ?_; (with_reducible refine (spec_l12Open.calls k a0_0 t235 t236 _ A7.out).mono ?_); rintro e w21 ⟨v237, rfl, ho0, hb⟩; refine ⟨_, rfl, ?_⟩; have n0_ := am (Kd.R_elder' zq40 (Kd.R_base ho0) hb); have n1_ := am (Kd.R_lower (Kd.R_new' ho0 (Kd.R_lt zq40)) (below_size zq36)); have n2_ := am (blk_below (g := gb230) (o := .cells #[.string a0_0, .string a0_1, .int .i64 a0_2] 42 (0, 0)) zq39 hb); have n3_ := am (below_step zq36 hb); clear HO234; clear BK230; clear HB; have HO234 := n0_; have HO238 := n1_; have BK230 := n2_; have HB := n3_; clear n0_ n1_ n2_ n3_; (try clear hb); (try clear hb2); (try clear hk); (try clear hi); (try clear ho0); have hcz22_0 : w21.cell? ⟨gb230, 0, none⟩ = some (.string a0_0) := (blk_cell BK230.out 0).trans rfl; have hcz22_1 : w21.cell? ⟨gb230, 1, none⟩ = some (.string a0_1) := (blk_cell BK230.out 1).trans rfl; have hcz22_2 : w21.cell? ⟨gb230, 2, none⟩ = some (.int .i64 a0_2) := (blk_cell BK230.out 2).trans rfl; have hfz22_0 := blk_frozen BK230.out 0; have hfz22_1 := blk_frozen BK230.out 1; have hfz22_2 := blk_frozen BK230.out 2))
     go_ret
     exact ⟨zq7, zq36⟩
   ·rw [if_neg c8] at H
    have c8b0 : (t232 == (wrap64 ((a0_0.size : Int) + (a0_1.size : Int)))) = false := beq_eq_false_iff_ne.mpr c8
    have c8b1 : (t232 != (wrap64 ((a0_0.size : Int) + (a0_1.size : Int)))) = true := bne_iff_ne.mpr c8
    obtain rfl := Option.some.inj H
    (try (have hz_ : wrap64 ((a0_0.size : Int) + (a0_1.size : Int)) = (a0_0.size : Int) + (a0_1.size : Int) := zq201; simp only [hz_] at c2b0 c8b0 c8b1; clear hz_))
    go_enter Tryd.func81, Tryd.ntmps81
    go_wp2_with (first | ((with_reducible refine gate_dst (N := 1) rfl ?_); (try (refine gate_guard (by rfl) ?_; dsimp only)); refine box_event ?hg (N := 1) ?hd (cs := #[.string a0_0, .string a0_1, .int .i64 a0_2]) (t := 42) ?hr ?_; (case hd => rfl); (case hg => rfl); (case hr => first | (go_simp; done) | (go_simp; rfl)); intro gb230 hg w23 hbox hb; have n0_ := am (below_step zq0 hb); have n1_ := am (hbox); have n2_ := am ((zq8 : w.heap.size ≤ gb230)); have n3_ := am ((zq8 : w.heap.size ≤ gb230)); clear HB; have HB := n0_; have BK230 := n1_; have GW230 := n2_; have GE230 := n3_; clear n0_ n1_ n2_ n3_; clear hb hbox hg; have hcz24_0 : w23.cell? ⟨gb230, 0, none⟩ = some (.string a0_0) := (blk_cell BK230.out 0).trans rfl; have hcz24_1 : w23.cell? ⟨gb230, 1, none⟩ = some (.string a0_1) := (blk_cell BK230.out 1).trans rfl; have hcz24_2 : w23.cell? ⟨gb230, 2, none⟩ = some (.int .i64 a0_2) := (blk_cell BK230.out 2).trans rfl; have hfz24_0 := blk_frozen BK230.out 0; have hfz24_1 := blk_frozen BK230.out 1; have hfz24_2 := blk_frozen BK230.out 2) | ((with_reducible refine gate_callee (f := 79) rfl ?_); refine goesL_ (some 21) rfl rfl Tryd.func79 zq21 rfl #[.string (a0_0 ++ a0_1)] rfl zq5 ?_; (with_reducible refine (spec_l12Open.calls k (a0_0 ++ a0_1) t231 t232 _ A6.out).mono ?_); rintro e w25 ⟨v233, rfl, ho0, hb⟩; refine ⟨_, rfl, ?_⟩; have n0_ := am (Kd.R_lower ho0 (below_size zq36)); have n1_ := am (blk_below (g := gb230) (o := .cells #[.string a0_0, .string a0_1, .int .i64 a0_2] 42 (0, 0)) zq39 hb); have n2_ := am (below_step zq36 hb); clear BK230; clear HB; have HO234 := n0_; have BK230 := n1_; have HB := n2_; clear n0_ n1_ n2_; (try clear hb); (try clear hb2); (try clear hk); (try clear hi); (try clear ho0); have hcz26_0 : w25.cell? ⟨gb230, 0, none⟩ = some (.string a0_0) := (blk_cell BK230.out 0).trans rfl; have hcz26_1 : w25.cell? ⟨gb230, 1, none⟩ = some (.string a0_1) := (blk_cell BK230.out 1).trans rfl; have hcz26_2 : w25.cell? ⟨gb230, 2, none⟩ = some (.int .i64 a0_2) := (blk_cell BK230.out 2).trans rfl; have hfz26_0 := blk_frozen BK230.out 0; have hfz26_1 := blk_frozen BK230.out 1; have hfz26_2 := blk_frozen BK230.out 2) | ((with_reducible refine gate_callee (f := 79) rfl ?_); refine goesL_ (some 27) rfl rfl Tryd.func79 zq21 rfl #[.string a0_0] rfl zq5 ?_; (with_reducible refine (spec_l12Open.calls k a0_0 t235 t236 _ A7.out).mono ?_); rintro e w27 ⟨v237, rfl, ho0, hb⟩; refine ⟨_, rfl, ?_⟩; have n0_ := am (Kd.R_elder' zq40 (Kd.R_base ho0) hb); have n1_ := am (Kd.R_lower (Kd.R_new' ho0 (Kd.R_lt zq40)) (below_size zq36)); have n2_ := am (blk_below (g := gb230) (o := .cells #[.string a0_0, .string a0_1, .int .i64 a0_2] 42 (0, 0)) zq39 hb); have n3_ := am (below_step zq36 hb); clear HO234; clear BK230; clear HB; have HO234 := n0_; have HO238 := n1_; have BK230 := n2_; have HB := n3_; clear n0_ n1_ n2_ n3_; (try clear hb); (try clear hb2); (try clear hk); (try clear hi); (try clear ho0); have hcz28_0 : w27.cell? ⟨gb230, 0, none⟩ = some (.string a0_0) := (blk_cell BK230.out 0).trans rfl; have hcz28_1 : w27.cell? ⟨gb230, 1, none⟩ = some (.string a0_1) := (blk_cell BK230.out 1).trans rfl; have hcz28_2 : w27.cell? ⟨gb230, 2, none⟩ = some (.int .i64 a0_2) := (blk_cell BK230.out 2).trans rfl; have hfz28_0 := blk_frozen BK230.out 0; have hfz28_1 := blk_frozen BK230.out 1; have hfz28_2 := blk_frozen BK230.out 2))
    go_ret
    exact ⟨zq7, zq36⟩
  ·rw [if_neg c5] at H
   exact absurd H zq176
def spec_IsValidLog.f (k : Nat) (a0_0 : ByteArray) (a0_1 : ByteArray) (a0_2 : Int) : Option (Bool) := (spec_l12Valid.f k a0_0 a0_1 a0_2).bind fun t240 => (some t240)
set_option maxHeartbeats 8000000 in
set_option maxRecDepth 100000 in
theorem spec_IsValidLog.calls (k : Nat) (a0_0 : ByteArray) (a0_1 : ByteArray) (a0_2 : Int) (r : Bool) (w : World) (h : spec_IsValidLog.f k a0_0 a0_1 a0_2 = some r) :
  Calls Tryd.prog 31 #[.agg #[.string a0_0, .string a0_1, .int .i64 a0_2]] w fun e w' => e = .returned (.bool r) ∧ Below w.heap.size w w' := by
 have hu42 := Tryd.underlying42
 have HB := am (Below.refl w.heap.size w)
 have H : ((spec_l12Valid.f k a0_0 a0_1 a0_2).bind fun t240 => (some t240)) = some r := h
 clear h
 replace H := bem H
 obtain ⟨t240, A20, H⟩ := H
 replace H : (some t240) = some r := H
 have A2 := am A20
 clear A20
 obtain rfl := Option.some.inj H
 go_enter Tryd.func31, Tryd.ntmps31
 go_wp2_with (first | ((with_reducible refine gate_dst (N := 1) rfl ?_); refine box_event ?hg (N := 1) ?hd (cs := #[.string a0_0, .string a0_1, .int .i64 a0_2]) (t := 42) ?hr ?_; (case hd => rfl); (case hg => rfl); (case hr => first | (go_simp; done) | (go_simp; rfl)); intro gb239 hg w3 hbox hb; have n0_ := am (below_step zq0 hb); have n1_ := am (hbox); have n2_ := am ((zq8 : w.heap.size ≤ gb239)); have n3_ := am ((zq8 : w.heap.size ≤ gb239)); clear HB; have HB := n0_; have BK239 := n1_; have GW239 := n2_; have GE239 := n3_; clear n0_ n1_ n2_ n3_; clear hb hbox hg; have hcz4_0 : w3.cell? ⟨gb239, 0, none⟩ = some (.string a0_0) := (blk_cell BK239.out 0).trans rfl; have hcz4_1 : w3.cell? ⟨gb239, 1, none⟩ = some (.string a0_1) := (blk_cell BK239.out 1).trans rfl; have hcz4_2 : w3.cell? ⟨gb239, 2, none⟩ = some (.int .i64 a0_2) := (blk_cell BK239.out 2).trans rfl; have hfz4_0 := blk_frozen BK239.out 0; have hfz4_1 := blk_frozen BK239.out 1; have hfz4_2 := blk_frozen BK239.out 2) | ((with_reducible refine gate_callee (f := 81) rfl ?_); refine goesL_ (some 4) rfl rfl Tryd.func81 zq21 rfl #[.agg #[.string a0_0, .string a0_1, .int .i64 a0_2]] rfl zq5 ?_; (with_reducible refine (spec_l12Valid.calls k a0_0 a0_1 a0_2 t240 _ A2.out).mono ?_); rintro e w5 ⟨rfl, hb⟩; refine ⟨_, rfl, ?_⟩; have n0_ := am (blk_below (g := gb239) (o := .cells #[.string a0_0, .string a0_1, .int .i64 a0_2] 42 (0, 0)) (by (with_reducible repeat (first | refine blk_drewN ?_ _ | refine blk_drew ?_ | refine blk_alloc ?_ _)); exact BK239.out) hb); have n1_ := am (below_step zq180 hb); clear BK239; clear HB; have BK239 := n0_; have HB := n1_; clear n0_ n1_; (try clear hb); (try clear hb2); (try clear hk); (try clear hi)))
 go_ret
 exact ⟨zq7, zq180⟩
def impl_Log_records.f (k : Nat) (a0_0 : ByteArray) (a0_1 : ByteArray) (a0_2 : Int) : Option ((List (S38)) × Bool) := if (wrap64 ((a0_0.size : Int) + (a0_1.size : Int))) > 30000 then (some (([] : List (S38)), false)) else (if a0_0.size + a0_1.size ≤ 9223372036854775807 then ((impl_readRecords.f k (a0_0 ++ a0_1)).bind fun bt245 => ((impl_readRecords.f k a0_0).bind fun bt249 => (if bt245.2 = (wrap64 ((a0_0.size : Int) + (a0_1.size : Int))) then (if bt249.2 = (a0_0.size : Int) then (some (bt245.1, ((bt245.1.length : Int) == a0_2))) else (some (bt245.1, false))) else (some (bt245.1, false))))) else (none))
set_option maxHeartbeats 8000000 in
set_option maxRecDepth 100000 in
theorem impl_Log_records.calls (k : Nat) (a0_0 : ByteArray) (a0_1 : ByteArray) (a0_2 : Int) (r1 : List (S38)) (r2 : Bool) (w : World) (hgl : Glob w) (h : impl_Log_records.f k a0_0 a0_1 a0_2 = some (r1, r2)) :
  Calls Tryd.prog 82 #[.agg #[.string a0_0, .string a0_1, .int .i64 a0_2]] w fun e w' => ∃ v0_ : Value, e = .returned (.tuple #[v0_, .bool r2]) ∧ Kd.R k38 38 w' w.heap.size (fun _ => True) v0_ r1 ∧ Below w.heap.size w w' := by
 have hu42 := Tryd.underlying42
 have HB := am (Below.refl w.heap.size w)
 have HGL := am hgl
 clear hgl
 have H : (if (wrap64 ((a0_0.size : Int) + (a0_1.size : Int))) > 30000 then (some (([] : List (S38)), false)) else (if a0_0.size + a0_1.size ≤ 9223372036854775807 then ((impl_readRecords.f k (a0_0 ++ a0_1)).bind fun bt245 => ((impl_readRecords.f k a0_0).bind fun bt249 => (if bt245.2 = (wrap64 ((a0_0.size : Int) + (a0_1.size : Int))) then (if bt249.2 = (a0_0.size : Int) then (some (bt245.1, ((bt245.1.length : Int) == a0_2))) else (some (bt245.1, false))) else (some (bt245.1, false))))) else (none))) = some (r1, r2) := h
 clear h
 by_cases c2 : (wrap64 ((a0_0.size : Int) + (a0_1.size : Int))) > 30000
 ·rw [if_pos c2] at H
  have c2b0 : decide (30000 < (wrap64 ((a0_0.size : Int) + (a0_1.size : Int)))) = true := decide_eq_true c2
  clear c2
  simp only [Option.some.injEq, Prod.mk.injEq] at H
  obtain ⟨rfl, rfl⟩ := H
  (try (have hz_ : wrap64 ((a0_0.size : Int) + (a0_1.size : Int)) = (a0_0.size : Int) + (a0_1.size : Int) := zq201; simp only [hz_] at c2b0; clear hz_))
  go_enter Tryd.func82, Tryd.ntmps82
  go_wp2_with (first | ((with_reducible refine gate_dst (N := 1) rfl ?_); (try (refine gate_guard (by rfl) ?_; dsimp only)); refine box_event ?hg (N := 1) ?hd (cs := #[.string a0_0, .string a0_1, .int .i64 a0_2]) (t := 42) ?hr ?_; (case hd => rfl); (case hg => rfl); (case hr => first | (go_simp; done) | (go_simp; rfl)); intro gb244 hg w3 hbox hb; have n0_ := am (below_step zq0 hb); have n1_ := am (hbox); have n2_ := am ((zq8 : w.heap.size ≤ gb244)); have n3_ := am ((zq8 : w.heap.size ≤ gb244)); clear HB; have HB := n0_; have BK244 := n1_; have GW244 := n2_; have GE244 := n3_; clear n0_ n1_ n2_ n3_; clear hb hbox hg; have hcz4_0 : w3.cell? ⟨gb244, 0, none⟩ = some (.string a0_0) := (blk_cell BK244.out 0).trans rfl; have hcz4_1 : w3.cell? ⟨gb244, 1, none⟩ = some (.string a0_1) := (blk_cell BK244.out 1).trans rfl; have hcz4_2 : w3.cell? ⟨gb244, 2, none⟩ = some (.int .i64 a0_2) := (blk_cell BK244.out 2).trans rfl; have hfz4_0 := blk_frozen BK244.out 0; have hfz4_1 := blk_frozen BK244.out 1; have hfz4_2 := blk_frozen BK244.out 2))
  repeat (go_quiet (first | ((with_reducible refine gate_dst (N := 1) rfl ?_); (try (refine gate_guard (by rfl) ?_; dsimp only)); refine box_event ?hg (N := 1) ?hd (cs := #[.string a0_0, .string a0_1, .int .i64 a0_2]) (t := 42) ?hr ?_; (case hd => rfl); (case hg => rfl); (case hr => first | (go_simp; done) | (go_simp; rfl)); intro gb244 hg w3 hbox hb; have n0_ := am (below_step zq0 hb); have n1_ := am (hbox); have n2_ := am ((zq8 : w.heap.size ≤ gb244)); have n3_ := am ((zq8 : w.heap.size ≤ gb244)); clear HB; have HB := n0_; have BK244 := n1_; have GW244 := n2_; have GE244 := n3_; clear n0_ n1_ n2_ n3_; clear hb hbox hg; have hcz4_0 : w3.cell? ⟨gb244, 0, none⟩ = some (.string a0_0) := (blk_cell BK244.out 0).trans rfl; have hcz4_1 : w3.cell? ⟨gb244, 1, none⟩ = some (.string a0_1) := (blk_cell BK244.out 1).trans rfl; have hcz4_2 : w3.cell? ⟨gb244, 2, none⟩ = some (.int .i64 a0_2) := (blk_cell BK244.out 2).trans rfl; have hfz4_0 := blk_frozen BK244.out 0; have hfz4_1 := blk_frozen BK244.out 1; have hfz4_2 := blk_frozen BK244.out 2)); try go_wp2_with (first | ((with_reducible refine gate_dst (N := 1) rfl ?_); (try (refine gate_guard (by rfl) ?_; dsimp only)); refine box_event ?hg (N := 1) ?hd (cs := #[.string a0_0, .string a0_1, .int .i64 a0_2]) (t := 42) ?hr ?_; (case hd => rfl); (case hg => rfl); (case hr => first | (go_simp; done) | (go_simp; rfl)); intro gb244 hg w3 hbox hb; have n0_ := am (below_step zq0 hb); have n1_ := am (hbox); have n2_ := am ((zq8 : w.heap.size ≤ gb244)); have n3_ := am ((zq8 : w.heap.size ≤ gb244)); clear HB; have HB := n0_; have BK244 := n1_; have GW244 := n2_; have GE244 := n3_; clear n0_ n1_ n2_ n3_; clear hb hbox hg; have hcz4_0 : w3.cell? ⟨gb244, 0, none⟩ = some (.string a0_0) := (blk_cell BK244.out 0).trans rfl; have hcz4_1 : w3.cell? ⟨gb244, 1, none⟩ = some (.string a0_1) := (blk_cell BK244.out 1).trans rfl; have hcz4_2 : w3.cell? ⟨gb244, 2, none⟩ = some (.int .i64 a0_2) := (blk_cell BK244.out 2).trans rfl; have hfz4_0 := blk_frozen BK244.out 0; have hfz4_1 := blk_frozen BK244.out 1; have hfz4_2 := blk_frozen BK244.out 2)))
  go_ret2
  exact ⟨_, zq7, zq190, zq35⟩
 ·rw [if_neg c2] at H
  have c2b0 : decide (30000 < (wrap64 ((a0_0.size : Int) + (a0_1.size : Int)))) = false := decide_eq_false c2
  clear c2
  by_cases c5 : a0_0.size + a0_1.size ≤ 9223372036854775807
  ·rw [if_pos c5] at H
   have c5b0 := eq_true c5
   have c5b1 : decide (a0_0.size + a0_1.size ≤ 9223372036854775807) = true := decide_eq_true c5
   try have c5b2 : (9223372036854775807 < a0_0.size + a0_1.size) = False := eq_false (Nat.not_lt.2 c5)
   replace H := bem H
   obtain ⟨⟨t245, t246⟩, A60, H⟩ := H
   replace H : ((impl_readRecords.f k a0_0).bind fun bt249 => (if t246 = (wrap64 ((a0_0.size : Int) + (a0_1.size : Int))) then (if bt249.2 = (a0_0.size : Int) then (some (t245, ((t245.length : Int) == a0_2))) else (some (t245, false))) else (some (t245, false)))) = some (r1, r2) := H
   have A6 := am A60
   clear A60
   replace H := bem H
   obtain ⟨⟨t249, t250⟩, A70, H⟩ := H
   replace H : (if t246 = (wrap64 ((a0_0.size : Int) + (a0_1.size : Int))) then (if t250 = (a0_0.size : Int) then (some (t245, ((t245.length : Int) == a0_2))) else (some (t245, false))) else (some (t245, false))) = some (r1, r2) := H
   have A7 := am A70
   clear A70
   by_cases c8 : t246 = (wrap64 ((a0_0.size : Int) + (a0_1.size : Int)))
   ·rw [if_pos c8] at H
    have c8b0 : (t246 == (wrap64 ((a0_0.size : Int) + (a0_1.size : Int)))) = true := beq_iff_eq.mpr c8
    have c8b1 : (t246 != (wrap64 ((a0_0.size : Int) + (a0_1.size : Int)))) = false := bne_eq_false_iff_eq.mpr c8
    clear c8
    by_cases c9 : t250 = (a0_0.size : Int)
    ·rw [if_pos c9] at H
     have c9b0 : (t250 == (a0_0.size : Int)) = true := beq_iff_eq.mpr c9
     have c9b1 : (t250 != (a0_0.size : Int)) = false := bne_eq_false_iff_eq.mpr c9
     clear c9
     simp only [Option.some.injEq, Prod.mk.injEq] at H
     obtain ⟨rfl, rfl⟩ := H
     (try (have hz_ : wrap64 ((a0_0.size : Int) + (a0_1.size : Int)) = (a0_0.size : Int) + (a0_1.size : Int) := zq201; simp only [hz_] at c2b0 c8b0 c8b1; clear hz_))
     go_enter Tryd.func82, Tryd.ntmps82
     go_wp2_with (first | ((with_reducible refine gate_dst (N := 1) rfl ?_); (try (refine gate_guard (by rfl) ?_; dsimp only)); refine box_event ?hg (N := 1) ?hd (cs := #[.string a0_0, .string a0_1, .int .i64 a0_2]) (t := 42) ?hr ?_; (case hd => rfl); (case hg => rfl); (case hr => first | (go_simp; done) | (go_simp; rfl)); intro gb244 hg w10 hbox hb; have n0_ := am (below_step zq0 hb); have n1_ := am (hbox); have n2_ := am ((zq8 : w.heap.size ≤ gb244)); have n3_ := am ((zq8 : w.heap.size ≤ gb244)); clear HB; have HB := n0_; have BK244 := n1_; have GW244 := n2_; have GE244 := n3_; clear n0_ n1_ n2_ n3_; clear hb hbox hg; have hcz11_0 : w10.cell? ⟨gb244, 0, none⟩ = some (.string a0_0) := (blk_cell BK244.out 0).trans rfl; have hcz11_1 : w10.cell? ⟨gb244, 1, none⟩ = some (.string a0_1) := (blk_cell BK244.out 1).trans rfl; have hcz11_2 : w10.cell? ⟨gb244, 2, none⟩ = some (.int .i64 a0_2) := (blk_cell BK244.out 2).trans rfl; have hfz11_0 := blk_frozen BK244.out 0; have hfz11_1 := blk_frozen BK244.out 1; have hfz11_2 := blk_frozen BK244.out 2) | (go_at_call 80; (with_reducible refine (impl_readRecords.calls k (a0_0 ++ a0_1) t245 t246 _ ?side1 A6.out).mono ?_); (case side1 => exact Glob.below HGL.out zq35); rintro e w12 ⟨v247, rfl, ho0, hb⟩; have n0_ := am (Kd.R_lower ho0 (below_size zq35)); have n1_ := am (blk_below (g := gb244) (o := .cells #[.string a0_0, .string a0_1, .int .i64 a0_2] 42 (0, 0)) zq37 hb); have n2_ := am (below_step zq35 hb); clear BK244; clear HB; have HO248 := n0_; have BK244 := n1_; have HB := n2_; clear n0_ n1_ n2_; (try clear hb); (try clear hb2); (try clear hk); (try clear hi); (try clear ho0); have hcz13_0 : w12.cell? ⟨gb244, 0, none⟩ = some (.string a0_0) := (blk_cell BK244.out 0).trans rfl; have hcz13_1 : w12.cell? ⟨gb244, 1, none⟩ = some (.string a0_1) := (blk_cell BK244.out 1).trans rfl; have hcz13_2 : w12.cell? ⟨gb244, 2, none⟩ = some (.int .i64 a0_2) := (blk_cell BK244.out 2).trans rfl; have hfz13_0 := blk_frozen BK244.out 0; have hfz13_1 := blk_frozen BK244.out 1; have hfz13_2 := blk_frozen BK244.out 2) | (go_at_call 80; (with_reducible refine (impl_readRecords.calls k a0_0 t249 t250 _ ?side1 A7.out).mono ?_); (case side1 => exact Glob.below HGL.out zq35); rintro e w14 ⟨v251, rfl, ho0, hb⟩; have n0_ := am (Kd.R_elder' zq38 (Kd.R_base ho0) hb); have n1_ := am (Kd.R_lower (Kd.R_new' ho0 (Kd.R_lt zq38)) (below_size zq35)); have n2_ := am (blk_below (g := gb244) (o := .cells #[.string a0_0, .string a0_1, .int .i64 a0_2] 42 (0, 0)) zq37 hb); have n3_ := am (below_step zq35 hb); clear HO248; clear BK244; clear HB; have HO248 := n0_; have HO252 := n1_; have BK244 := n2_; have HB := n3_; clear n0_ n1_ n2_ n3_; (try clear hb); (try clear hb2); (try clear hk); (try clear hi); (try clear ho0); have hcz15_0 : w14.cell? ⟨gb244, 0, none⟩ = some (.string a0_0) := (blk_cell BK244.out 0).trans rfl; have hcz15_1 : w14.cell? ⟨gb244, 1, none⟩ = some (.string a0_1) := (blk_cell BK244.out 1).trans rfl; have hcz15_2 : w14.cell? ⟨gb244, 2, none⟩ = some (.int .i64 a0_2) := (blk_cell BK244.out 2).trans rfl; have hfz15_0 := blk_frozen BK244.out 0; have hfz15_1 := blk_frozen BK244.out 1; have hfz15_2 := blk_frozen BK244.out 2; obtain ⟨Ao16, co16, eo16⟩ := Kd.R_slice HO248.out; subst eo16))
     repeat (go_quiet (first | ((with_reducible refine gate_dst (N := 1) rfl ?_); (try (refine gate_guard (by rfl) ?_; dsimp only)); refine box_event ?hg (N := 1) ?hd (cs := #[.string a0_0, .string a0_1, .int .i64 a0_2]) (t := 42) ?hr ?_; (case hd => rfl); (case hg => rfl); (case hr => first | (go_simp; done) | (go_simp; rfl)); intro gb244 hg w10 hbox hb; have n0_ := am (below_step zq0 hb); have n1_ := am (hbox); have n2_ := am ((zq8 : w.heap.size ≤ gb244)); have n3_ := am ((zq8 : w.heap.size ≤ gb244)); clear HB; have HB := n0_; have BK244 := n1_; have GW244 := n2_; have GE244 := n3_; clear n0_ n1_ n2_ n3_; clear hb hbox hg; have hcz11_0 : w10.cell? ⟨gb244, 0, none⟩ = some (.string a0_0) := (blk_cell BK244.out 0).trans rfl; have hcz11_1 : w10.cell? ⟨gb244, 1, none⟩ = some (.string a0_1) := (blk_cell BK244.out 1).trans rfl; have hcz11_2 : w10.cell? ⟨gb244, 2, none⟩ = some (.int .i64 a0_2) := (blk_cell BK244.out 2).trans rfl; have hfz11_0 := blk_frozen BK244.out 0; have hfz11_1 := blk_frozen BK244.out 1; have hfz11_2 := blk_frozen BK244.out 2) | (go_at_call 80; (with_reducible refine (impl_readRecords.calls k (a0_0 ++ a0_1) t245 t246 _ ?side1 A6.out).mono ?_); (case side1 => exact Glob.below HGL.out zq35); rintro e w12 ⟨v247, rfl, ho0, hb⟩; have n0_ := am (Kd.R_lower ho0 (below_size zq35)); have n1_ := am (blk_below (g := gb244) (o := .cells #[.string a0_0, .string a0_1, .int .i64 a0_2] 42 (0, 0)) zq37 hb); have n2_ := am (below_step zq35 hb); clear BK244; clear HB; have HO248 := n0_; have BK244 := n1_; have HB := n2_; clear n0_ n1_ n2_; (try clear hb); (try clear hb2); (try clear hk); (try clear hi); (try clear ho0); have hcz13_0 : w12.cell? ⟨gb244, 0, none⟩ = some (.string a0_0) := (blk_cell BK244.out 0).trans rfl; have hcz13_1 : w12.cell? ⟨gb244, 1, none⟩ = some (.string a0_1) := (blk_cell BK244.out 1).trans rfl; have hcz13_2 : w12.cell? ⟨gb244, 2, none⟩ = some (.int .i64 a0_2) := (blk_cell BK244.out 2).trans rfl; have hfz13_0 := blk_frozen BK244.out 0; have hfz13_1 := blk_frozen BK244.out 1; have hfz13_2 := blk_frozen BK244.out 2) | (go_at_call 80; (with_reducible refine (impl_readRecords.calls k a0_0 t249 t250 _ ?side1 A7.out).mono ?_); (case side1 => exact Glob.below HGL.out zq35); rintro e w14 ⟨v251, rfl, ho0, hb⟩; have n0_ := am (Kd.R_elder' zq38 (Kd.R_base ho0) hb); have n1_ := am (Kd.R_lower (Kd.R_new' ho0 (Kd.R_lt zq38)) (below_size zq35)); have n2_ := am (blk_below (g := gb244) (o := .cells #[.string a0_0, .string a0_1, .int .i64 a0_2] 42 (0, 0)) zq37 hb); have n3_ := am (below_step zq35 hb); clear HO248; clear BK244; clear HB; have HO248 := n0_; have HO252 := n1_; have BK244 := n2_; have HB := n3_; clear n0_ n1_ n2_ n3_; (try clear hb); (try clear hb2); (try clear hk); (try clear hi); (try clear ho0); have hcz15_0 : w14.cell? ⟨gb244, 0, none⟩ = some (.string a0_0) := (blk_cell BK244.out 0).trans rfl; have hcz15_1 : w14.cell? ⟨gb244, 1, none⟩ = some (.string a0_1) := (blk_cell BK244.out 1).trans rfl; have hcz15_2 : w14.cell? ⟨gb244, 2, none⟩ = some (.int .i64 a0_2) := (blk_cell BK244.out 2).trans rfl; have hfz15_0 := blk_frozen BK244.out 0; have hfz15_1 := blk_frozen BK244.out 1; have hfz15_2 := blk_frozen BK244.out 2; obtain ⟨Ao16, co16, eo16⟩ := Kd.R_slice HO248.out; subst eo16)); try go_wp2_with (first | ((with_reducible refine gate_dst (N := 1) rfl ?_); (try (refine gate_guard (by rfl) ?_; dsimp only)); refine box_event ?hg (N := 1) ?hd (cs := #[.string a0_0, .string a0_1, .int .i64 a0_2]) (t := 42) ?hr ?_; (case hd => rfl); (case hg => rfl); (case hr => first | (go_simp; done) | (go_simp; rfl)); intro gb244 hg w10 hbox hb; have n0_ := am (below_step zq0 hb); have n1_ := am (hbox); have n2_ := am ((zq8 : w.heap.size ≤ gb244)); have n3_ := am ((zq8 : w.heap.size ≤ gb244)); clear HB; have HB := n0_; have BK244 := n1_; have GW244 := n2_; have GE244 := n3_; clear n0_ n1_ n2_ n3_; clear hb hbox hg; have hcz11_0 : w10.cell? ⟨gb244, 0, none⟩ = some (.string a0_0) := (blk_cell BK244.out 0).trans rfl; have hcz11_1 : w10.cell? ⟨gb244, 1, none⟩ = some (.string a0_1) := (blk_cell BK244.out 1).trans rfl; have hcz11_2 : w10.cell? ⟨gb244, 2, none⟩ = some (.int .i64 a0_2) := (blk_cell BK244.out 2).trans rfl; have hfz11_0 := blk_frozen BK244.out 0; have hfz11_1 := blk_frozen BK244.out 1; have hfz11_2 := blk_frozen BK244.out 2) | (go_at_call 80; (with_reducible refine (impl_readRecords.calls k (a0_0 ++ a0_1) t245 t246 _ ?side1 A6.out).mono ?_); (case side1 => exact Glob.below HGL.out zq35); rintro e w12 ⟨v247, rfl, ho0, hb⟩; have n0_ := am (Kd.R_lower ho0 (below_size zq35)); have n1_ := am (blk_below (g := gb244) (o := .cells #[.string a0_0, .string a0_1, .int .i64 a0_2] 42 (0, 0)) zq37 hb); have n2_ := am (below_step zq35 hb); clear BK244; clear HB; have HO248 := n0_; have BK244 := n1_; have HB := n2_; clear n0_ n1_ n2_; (try clear hb); (try clear hb2); (try clear hk); (try clear hi); (try clear ho0); have hcz13_0 : w12.cell? ⟨gb244, 0, none⟩ = some (.string a0_0) := (blk_cell BK244.out 0).trans rfl; have hcz13_1 : w12.cell? ⟨gb244, 1, none⟩ = some (.string a0_1) := (blk_cell BK244.out 1).trans rfl; have hcz13_2 : w12.cell? ⟨gb244, 2, none⟩ = some (.int .i64 a0_2) := (blk_cell BK244.out 2).trans rfl; have hfz13_0 := blk_frozen BK244.out 0; have hfz13_1 := blk_frozen BK244.out 1; have hfz13_2 := blk_frozen BK244.out 2) | (go_at_call 80; (with_reducible refine (impl_readRecords.calls k a0_0 t249 t250 _ ?side1 A7.out).mono ?_); (case side1 => exact Glob.below HGL.out zq35); rintro e w14 ⟨v251, rfl, ho0, hb⟩; have n0_ := am (Kd.R_elder' zq38 (Kd.R_base ho0) hb); have n1_ := am (Kd.R_lower (Kd.R_new' ho0 (Kd.R_lt zq38)) (below_size zq35)); have n2_ := am (blk_below (g := gb244) (o := .cells #[.string a0_0, .string a0_1, .int .i64 a0_2] 42 (0, 0)) zq37 hb); have n3_ := am (below_step zq35 hb); clear HO248; clear BK244; clear HB; have HO248 := n0_; have HO252 := n1_; have BK244 := n2_; have HB := n3_; clear n0_ n1_ n2_ n3_; (try clear hb); (try clear hb2); (try clear hk); (try clear hi); (try clear ho0); have hcz15_0 : w14.cell? ⟨gb244, 0, none⟩ = some (.string a0_0) := (blk_cell BK244.out 0).trans rfl; have hcz15_1 : w14.cell? ⟨gb244, 1, none⟩ = some (.string a0_1) := (blk_cell BK244.out 1).trans rfl; have hcz15_2 : w14.cell? ⟨gb244, 2, none⟩ = some (.int .i64 a0_2) := (blk_cell BK244.out 2).trans rfl; have hfz15_0 := blk_frozen BK244.out 0; have hfz15_1 := blk_frozen BK244.out 1; have hfz15_2 := blk_frozen BK244.out 2; obtain ⟨Ao16, co16, eo16⟩ := Kd.R_slice HO248.out; subst eo16)))
     go_ret2
     exact ⟨_, zq7, zq42, zq35⟩
    ·rw [if_neg c9] at H
     have c9b0 : (t250 == (a0_0.size : Int)) = false := beq_eq_false_iff_ne.mpr c9
     have c9b1 : (t250 != (a0_0.size : Int)) = true := bne_iff_ne.mpr c9
     simp only [Option.some.injEq, Prod.mk.injEq] at H
     obtain ⟨rfl, rfl⟩ := H
     (try (have hz_ : wrap64 ((a0_0.size : Int) + (a0_1.size : Int)) = (a0_0.size : Int) + (a0_1.size : Int) := zq201; simp only [hz_] at c2b0 c8b0 c8b1; clear hz_))
     go_enter Tryd.func82, Tryd.ntmps82
     go_wp2_with (first | ((with_reducible refine gate_dst (N := 1) rfl ?_); (try (refine gate_guard (by rfl) ?_; dsimp only)); refine box_event ?hg (N := 1) ?hd (cs := #[.string a0_0, .string a0_1, .int .i64 a0_2]) (t := 42) ?hr ?_; (case hd => rfl); (case hg => rfl); (case hr => first | (go_simp; done) | (go_simp; rfl)); intro gb244 hg w17 hbox hb; have n0_ := am (below_step zq0 hb); have n1_ := am (hbox); have n2_ := am ((zq8 : w.heap.size ≤ gb244)); have n3_ := am ((zq8 : w.heap.size ≤ gb244)); clear HB; have HB := n0_; have BK244 := n1_; have GW244 := n2_; have GE244 := n3_; clear n0_ n1_ n2_ n3_; clear hb hbox hg; have hcz18_0 : w17.cell? ⟨gb244, 0, none⟩ = some (.string a0_0) := (blk_cell BK244.out 0).trans rfl; have hcz18_1 : w17.cell? ⟨gb244, 1, none⟩ = some (.string a0_1) := (blk_cell BK244.out 1).trans rfl; have hcz18_2 : w17.cell? ⟨gb244, 2, none⟩ = some (.int .i64 a0_2) := (blk_cell BK244.out 2).trans rfl; have hfz18_0 := blk_frozen BK244.out 0; have hfz18_1 := blk_frozen BK244.out 1; have hfz18_2 := blk_frozen BK244.out 2) | (go_at_call 80; (with_reducible refine (impl_readRecords.calls k (a0_0 ++ a0_1) t245 t246 _ ?side1 A6.out).mono ?_); (case side1 => exact Glob.below HGL.out zq35); rintro e w19 ⟨v247, rfl, ho0, hb⟩; have n0_ := am (Kd.R_lower ho0 (below_size zq35)); have n1_ := am (blk_below (g := gb244) (o := .cells #[.string a0_0, .string a0_1, .int .i64 a0_2] 42 (0, 0)) zq37 hb); have n2_ := am (below_step zq35 hb); clear BK244; clear HB; have HO248 := n0_; have BK244 := n1_; have HB := n2_; clear n0_ n1_ n2_; (try clear hb); (try clear hb2); (try clear hk); (try clear hi); (try clear ho0); have hcz20_0 : w19.cell? ⟨gb244, 0, none⟩ = some (.string a0_0) := (blk_cell BK244.out 0).trans rfl; have hcz20_1 : w19.cell? ⟨gb244, 1, none⟩ = some (.string a0_1) := (blk_cell BK244.out 1).trans rfl; have hcz20_2 : w19.cell? ⟨gb244, 2, none⟩ = some (.int .i64 a0_2) := (blk_cell BK244.out 2).trans rfl; have hfz20_0 := blk_frozen BK244.out 0; have hfz20_1 := blk_frozen BK244.out 1; have hfz20_2 := blk_frozen BK244.out 2) | (go_at_call 80; (with_reducible refine (impl_readRecords.calls k a0_0 t249 t250 _ ?side1 A7.out).mono ?_); (case side1 => exact Glob.below HGL.out zq35); rintro e w21 ⟨v251, rfl, ho0, hb⟩; have n0_ := am (Kd.R_elder' zq38 (Kd.R_base ho0) hb); have n1_ := am (Kd.R_lower (Kd.R_new' ho0 (Kd.R_lt zq38)) (below_size zq35)); have n2_ := am (blk_below (g := gb244) (o := .cells #[.string a0_0, .string a0_1, .int .i64 a0_2] 42 (0, 0)) zq37 hb); have n3_ := am (below_step zq35 hb); clear HO248; clear BK244; clear HB; have HO248 := n0_; have HO252 := n1_; have BK244 := n2_; have HB := n3_; clear n0_ n1_ n2_ n3_; (try clear hb); (try clear hb2); (try clear hk); (try clear hi); (try clear ho0); have hcz22_0 : w21.cell? ⟨gb244, 0, none⟩ = some (.string a0_0) := (blk_cell BK244.out 0).trans rfl; have hcz22_1 : w21.cell? ⟨gb244, 1, none⟩ = some (.string a0_1) := (blk_cell BK244.out 1).trans rfl; have hcz22_2 : w21.cell? ⟨gb244, 2, none⟩ = some (.int .i64 a0_2) := (blk_cell BK244.out 2).trans rfl; have hfz22_0 := blk_frozen BK244.out 0; have hfz22_1 := blk_frozen BK244.out 1; have hfz22_2 := blk_frozen BK244.out 2))
     repeat (go_quiet (first | ((with_reducible refine gate_dst (N := 1) rfl ?_); (try (refine gate_guard (by rfl) ?_; dsimp only)); refine box_event ?hg (N := 1) ?hd (cs := #[.string a0_0, .string a0_1, .int .i64 a0_2]) (t := 42) ?hr ?_; (case hd => rfl); (case hg => rfl); (case hr => first | (go_simp; done) | (go_simp; rfl)); intro gb244 hg w17 hbox hb; have n0_ := am (below_step zq0 hb); have n1_ := am (hbox); have n2_ := am ((zq8 : w.heap.size ≤ gb244)); have n3_ := am ((zq8 : w.heap.size ≤ gb244)); clear HB; have HB := n0_; have BK244 := n1_; have GW244 := n2_; have GE244 := n3_; clear n0_ n1_ n2_ n3_; clear hb hbox hg; have hcz18_0 : w17.cell? ⟨gb244, 0, none⟩ = some (.string a0_0) := (blk_cell BK244.out 0).trans rfl; have hcz18_1 : w17.cell? ⟨gb244, 1, none⟩ = some (.string a0_1) := (blk_cell BK244.out 1).trans rfl; have hcz18_2 : w17.cell? ⟨gb244, 2, none⟩ = some (.int .i64 a0_2) := (blk_cell BK244.out 2).trans rfl; have hfz18_0 := blk_frozen BK244.out 0; have hfz18_1 := blk_frozen BK244.out 1; have hfz18_2 := blk_frozen BK244.out 2) | (go_at_call 80; (with_reducible refine (impl_readRecords.calls k (a0_0 ++ a0_1) t245 t246 _ ?side1 A6.out).mono ?_); (case side1 => exact Glob.below HGL.out zq35); rintro e w19 ⟨v247, rfl, ho0, hb⟩; have n0_ := am (Kd.R_lower ho0 (below_size zq35)); have n1_ := am (blk_below (g := gb244) (o := .cells #[.string a0_0, .string a0_1, .int .i64 a0_2] 42 (0, 0)) zq37 hb); have n2_ := am (below_step zq35 hb); clear BK244; clear HB; have HO248 := n0_; have BK244 := n1_; have HB := n2_; clear n0_ n1_ n2_; (try clear hb); (try clear hb2); (try clear hk); (try clear hi); (try clear ho0); have hcz20_0 : w19.cell? ⟨gb244, 0, none⟩ = some (.string a0_0) := (blk_cell BK244.out 0).trans rfl; have hcz20_1 : w19.cell? ⟨gb244, 1, none⟩ = some (.string a0_1) := (blk_cell BK244.out 1).trans rfl; have hcz20_2 : w19.cell? ⟨gb244, 2, none⟩ = some (.int .i64 a0_2) := (blk_cell BK244.out 2).trans rfl; have hfz20_0 := blk_frozen BK244.out 0; have hfz20_1 := blk_frozen BK244.out 1; have hfz20_2 := blk_frozen BK244.out 2) | (go_at_call 80; (with_reducible refine (impl_readRecords.calls k a0_0 t249 t250 _ ?side1 A7.out).mono ?_); (case side1 => exact Glob.below HGL.out zq35); rintro e w21 ⟨v251, rfl, ho0, hb⟩; have n0_ := am (Kd.R_elder' zq38 (Kd.R_base ho0) hb); have n1_ := am (Kd.R_lower (Kd.R_new' ho0 (Kd.R_lt zq38)) (below_size zq35)); have n2_ := am (blk_below (g := gb244) (o := .cells #[.string a0_0, .string a0_1, .int .i64 a0_2] 42 (0, 0)) zq37 hb); have n3_ := am (below_step zq35 hb); clear HO248; clear BK244; clear HB; have HO248 := n0_; have HO252 := n1_; have BK244 := n2_; have HB := n3_; clear n0_ n1_ n2_ n3_; (try clear hb); (try clear hb2); (try clear hk); (try clear hi); (try clear ho0); have hcz22_0 : w21.cell? ⟨gb244, 0, none⟩ = some (.string a0_0) := (blk_cell BK244.out 0).trans rfl; have hcz22_1 : w21.cell? ⟨gb244, 1, none⟩ = some (.string a0_1) := (blk_cell BK244.out 1).trans rfl; have hcz22_2 : w21.cell? ⟨gb244, 2, none⟩ = some (.int .i64 a0_2) := (blk_cell BK244.out 2).trans rfl; have hfz22_0 := blk_frozen BK244.out 0; have hfz22_1 := blk_frozen BK244.out 1; have hfz22_2 := blk_frozen BK244.out 2)); try go_wp2_with (first | ((with_reducible refine gate_dst (N := 1) rfl ?_); (try (refine gate_guard (by rfl) ?_; dsimp only)); refine box_event ?hg (N := 1) ?hd (cs := #[.string a0_0, .string a0_1, .int .i64 a0_2]) (t := 42) ?hr ?_; (case hd => rfl); (case hg => rfl); (case hr => first | (go_simp; done) | (go_simp; rfl)); intro gb244 hg w17 hbox hb; have n0_ := am (below_step zq0 hb); have n1_ := am (hbox); have n2_ := am ((zq8 : w.heap.size ≤ gb244)); have n3_ := am ((zq8 : w.heap.size ≤ gb244)); clear HB; have HB := n0_; have BK244 := n1_; have GW244 := n2_; have GE244 := n3_; clear n0_ n1_ n2_ n3_; clear hb hbox hg; have hcz18_0 : w17.cell? ⟨gb244, 0, none⟩ = some (.string a0_0) := (blk_cell BK244.out 0).trans rfl; have hcz18_1 : w17.cell? ⟨gb244, 1, none⟩ = some (.string a0_1) := (blk_cell BK244.out 1).trans rfl; have hcz18_2 : w17.cell? ⟨gb244, 2, none⟩ = some (.int .i64 a0_2) := (blk_cell BK244.out 2).trans rfl; have hfz18_0 := blk_frozen BK244.out 0; have hfz18_1 := blk_frozen BK244.out 1; have hfz18_2 := blk_frozen BK244.out 2) | (go_at_call 80; (with_reducible refine (impl_readRecords.calls k (a0_0 ++ a0_1) t245 t246 _ ?side1 A6.out).mono ?_); (case side1 => exact Glob.below HGL.out zq35); rintro e w19 ⟨v247, rfl, ho0, hb⟩; have n0_ := am (Kd.R_lower ho0 (below_size zq35)); have n1_ := am (blk_below (g := gb244) (o := .cells #[.string a0_0, .string a0_1, .int .i64 a0_2] 42 (0, 0)) zq37 hb); have n2_ := am (below_step zq35 hb); clear BK244; clear HB; have HO248 := n0_; have BK244 := n1_; have HB := n2_; clear n0_ n1_ n2_; (try clear hb); (try clear hb2); (try clear hk); (try clear hi); (try clear ho0); have hcz20_0 : w19.cell? ⟨gb244, 0, none⟩ = some (.string a0_0) := (blk_cell BK244.out 0).trans rfl; have hcz20_1 : w19.cell? ⟨gb244, 1, none⟩ = some (.string a0_1) := (blk_cell BK244.out 1).trans rfl; have hcz20_2 : w19.cell? ⟨gb244, 2, none⟩ = some (.int .i64 a0_2) := (blk_cell BK244.out 2).trans rfl; have hfz20_0 := blk_frozen BK244.out 0; have hfz20_1 := blk_frozen BK244.out 1; have hfz20_2 := blk_frozen BK244.out 2) | (go_at_call 80; (with_reducible refine (impl_readRecords.calls k a0_0 t249 t250 _ ?side1 A7.out).mono ?_); (case side1 => exact Glob.below HGL.out zq35); rintro e w21 ⟨v251, rfl, ho0, hb⟩; have n0_ := am (Kd.R_elder' zq38 (Kd.R_base ho0) hb); have n1_ := am (Kd.R_lower (Kd.R_new' ho0 (Kd.R_lt zq38)) (below_size zq35)); have n2_ := am (blk_below (g := gb244) (o := .cells #[.string a0_0, .string a0_1, .int .i64 a0_2] 42 (0, 0)) zq37 hb); have n3_ := am (below_step zq35 hb); clear HO248; clear BK244; clear HB; have HO248 := n0_; have HO252 := n1_; have BK244 := n2_; have HB := n3_; clear n0_ n1_ n2_ n3_; (try clear hb); (try clear hb2); (try clear hk); (try clear hi); (try clear ho0); have hcz22_0 : w21.cell? ⟨gb244, 0, none⟩ = some (.string a0_0) := (blk_cell BK244.out 0).trans rfl; have hcz22_1 : w21.cell? ⟨gb244, 1, none⟩ = some (.string a0_1) := (blk_cell BK244.out 1).trans rfl; have hcz22_2 : w21.cell? ⟨gb244, 2, none⟩ = some (.int .i64 a0_2) := (blk_cell BK244.out 2).trans rfl; have hfz22_0 := blk_frozen BK244.out 0; have hfz22_1 := blk_frozen BK244.out 1; have hfz22_2 := blk_frozen BK244.out 2)))
     go_ret2
     exact ⟨_, zq7, zq42, zq35⟩
   ·rw [if_neg c8] at H
    have c8b0 : (t246 == (wrap64 ((a0_0.size : Int) + (a0_1.size : Int)))) = false := beq_eq_false_iff_ne.mpr c8
    have c8b1 : (t246 != (wrap64 ((a0_0.size : Int) + (a0_1.size : Int)))) = true := bne_iff_ne.mpr c8
    simp only [Option.some.injEq, Prod.mk.injEq] at H
    obtain ⟨rfl, rfl⟩ := H
    (try (have hz_ : wrap64 ((a0_0.size : Int) + (a0_1.size : Int)) = (a0_0.size : Int) + (a0_1.size : Int) := zq201; simp only [hz_] at c2b0 c8b0 c8b1; clear hz_))
    go_enter Tryd.func82, Tryd.ntmps82
    go_wp2_with (first | ((with_reducible refine gate_dst (N := 1) rfl ?_); (try (refine gate_guard (by rfl) ?_; dsimp only)); refine box_event ?hg (N := 1) ?hd (cs := #[.string a0_0, .string a0_1, .int .i64 a0_2]) (t := 42) ?hr ?_; (case hd => rfl); (case hg => rfl); (case hr => first | (go_simp; done) | (go_simp; rfl)); intro gb244 hg w23 hbox hb; have n0_ := am (below_step zq0 hb); have n1_ := am (hbox); have n2_ := am ((zq8 : w.heap.size ≤ gb244)); have n3_ := am ((zq8 : w.heap.size ≤ gb244)); clear HB; have HB := n0_; have BK244 := n1_; have GW244 := n2_; have GE244 := n3_; clear n0_ n1_ n2_ n3_; clear hb hbox hg; have hcz24_0 : w23.cell? ⟨gb244, 0, none⟩ = some (.string a0_0) := (blk_cell BK244.out 0).trans rfl; have hcz24_1 : w23.cell? ⟨gb244, 1, none⟩ = some (.string a0_1) := (blk_cell BK244.out 1).trans rfl; have hcz24_2 : w23.cell? ⟨gb244, 2, none⟩ = some (.int .i64 a0_2) := (blk_cell BK244.out 2).trans rfl; have hfz24_0 := blk_frozen BK244.out 0; have hfz24_1 := blk_frozen BK244.out 1; have hfz24_2 := blk_frozen BK244.out 2) | (go_at_call 80; (with_reducible refine (impl_readRecords.calls k (a0_0 ++ a0_1) t245 t246 _ ?side1 A6.out).mono ?_); (case side1 => exact Glob.below HGL.out zq35); rintro e w25 ⟨v247, rfl, ho0, hb⟩; have n0_ := am (Kd.R_lower ho0 (below_size zq35)); have n1_ := am (blk_below (g := gb244) (o := .cells #[.string a0_0, .string a0_1, .int .i64 a0_2] 42 (0, 0)) zq37 hb); have n2_ := am (below_step zq35 hb); clear BK244; clear HB; have HO248 := n0_; have BK244 := n1_; have HB := n2_; clear n0_ n1_ n2_; (try clear hb); (try clear hb2); (try clear hk); (try clear hi); (try clear ho0); have hcz26_0 : w25.cell? ⟨gb244, 0, none⟩ = some (.string a0_0) := (blk_cell BK244.out 0).trans rfl; have hcz26_1 : w25.cell? ⟨gb244, 1, none⟩ = some (.string a0_1) := (blk_cell BK244.out 1).trans rfl; have hcz26_2 : w25.cell? ⟨gb244, 2, none⟩ = some (.int .i64 a0_2) := (blk_cell BK244.out 2).trans rfl; have hfz26_0 := blk_frozen BK244.out 0; have hfz26_1 := blk_frozen BK244.out 1; have hfz26_2 := blk_frozen BK244.out 2) | (go_at_call 80; (with_reducible refine (impl_readRecords.calls k a0_0 t249 t250 _ ?side1 A7.out).mono ?_); (case side1 => exact Glob.below HGL.out zq35); rintro e w27 ⟨v251, rfl, ho0, hb⟩; have n0_ := am (Kd.R_elder' zq38 (Kd.R_base ho0) hb); have n1_ := am (Kd.R_lower (Kd.R_new' ho0 (Kd.R_lt zq38)) (below_size zq35)); have n2_ := am (blk_below (g := gb244) (o := .cells #[.string a0_0, .string a0_1, .int .i64 a0_2] 42 (0, 0)) zq37 hb); have n3_ := am (below_step zq35 hb); clear HO248; clear BK244; clear HB; have HO248 := n0_; have HO252 := n1_; have BK244 := n2_; have HB := n3_; clear n0_ n1_ n2_ n3_; (try clear hb); (try clear hb2); (try clear hk); (try clear hi); (try clear ho0); have hcz28_0 : w27.cell? ⟨gb244, 0, none⟩ = some (.string a0_0) := (blk_cell BK244.out 0).trans rfl; have hcz28_1 : w27.cell? ⟨gb244, 1, none⟩ = some (.string a0_1) := (blk_cell BK244.out 1).trans rfl; have hcz28_2 : w27.cell? ⟨gb244, 2, none⟩ = some (.int .i64 a0_2) := (blk_cell BK244.out 2).trans rfl; have hfz28_0 := blk_frozen BK244.out 0; have hfz28_1 := blk_frozen BK244.out 1; have hfz28_2 := blk_frozen BK244.out 2))
    repeat (go_quiet (first | ((with_reducible refine gate_dst (N := 1) rfl ?_); (try (refine gate_guard (by rfl) ?_; dsimp only)); refine box_event ?hg (N := 1) ?hd (cs := #[.string a0_0, .string a0_1, .int .i64 a0_2]) (t := 42) ?hr ?_; (case hd => rfl); (case hg => rfl); (case hr => first | (go_simp; done) | (go_simp; rfl)); intro gb244 hg w23 hbox hb; have n0_ := am (below_step zq0 hb); have n1_ := am (hbox); have n2_ := am ((zq8 : w.heap.size ≤ gb244)); have n3_ := am ((zq8 : w.heap.size ≤ gb244)); clear HB; have HB := n0_; have BK244 := n1_; have GW244 := n2_; have GE244 := n3_; clear n0_ n1_ n2_ n3_; clear hb hbox hg; have hcz24_0 : w23.cell? ⟨gb244, 0, none⟩ = some (.string a0_0) := (blk_cell BK244.out 0).trans rfl; have hcz24_1 : w23.cell? ⟨gb244, 1, none⟩ = some (.string a0_1) := (blk_cell BK244.out 1).trans rfl; have hcz24_2 : w23.cell? ⟨gb244, 2, none⟩ = some (.int .i64 a0_2) := (blk_cell BK244.out 2).trans rfl; have hfz24_0 := blk_frozen BK244.out 0; have hfz24_1 := blk_frozen BK244.out 1; have hfz24_2 := blk_frozen BK244.out 2) | (go_at_call 80; (with_reducible refine (impl_readRecords.calls k (a0_0 ++ a0_1) t245 t246 _ ?side1 A6.out).mono ?_); (case side1 => exact Glob.below HGL.out zq35); rintro e w25 ⟨v247, rfl, ho0, hb⟩; have n0_ := am (Kd.R_lower ho0 (below_size zq35)); have n1_ := am (blk_below (g := gb244) (o := .cells #[.string a0_0, .string a0_1, .int .i64 a0_2] 42 (0, 0)) zq37 hb); have n2_ := am (below_step zq35 hb); clear BK244; clear HB; have HO248 := n0_; have BK244 := n1_; have HB := n2_; clear n0_ n1_ n2_; (try clear hb); (try clear hb2); (try clear hk); (try clear hi); (try clear ho0); have hcz26_0 : w25.cell? ⟨gb244, 0, none⟩ = some (.string a0_0) := (blk_cell BK244.out 0).trans rfl; have hcz26_1 : w25.cell? ⟨gb244, 1, none⟩ = some (.string a0_1) := (blk_cell BK244.out 1).trans rfl; have hcz26_2 : w25.cell? ⟨gb244, 2, none⟩ = some (.int .i64 a0_2) := (blk_cell BK244.out 2).trans rfl; have hfz26_0 := blk_frozen BK244.out 0; have hfz26_1 := blk_frozen BK244.out 1; have hfz26_2 := blk_frozen BK244.out 2) | (go_at_call 80; (with_reducible refine (impl_readRecords.calls k a0_0 t249 t250 _ ?side1 A7.out).mono ?_); (case side1 => exact Glob.below HGL.out zq35); rintro e w27 ⟨v251, rfl, ho0, hb⟩; have n0_ := am (Kd.R_elder' zq38 (Kd.R_base ho0) hb); have n1_ := am (Kd.R_lower (Kd.R_new' ho0 (Kd.R_lt zq38)) (below_size zq35)); have n2_ := am (blk_below (g := gb244) (o := .cells #[.string a0_0, .string a0_1, .int .i64 a0_2] 42 (0, 0)) zq37 hb); have n3_ := am (below_step zq35 hb); clear HO248; clear BK244; clear HB; have HO248 := n0_; have HO252 := n1_; have BK244 := n2_; have HB := n3_; clear n0_ n1_ n2_ n3_; (try clear hb); (try clear hb2); (try clear hk); (try clear hi); (try clear ho0); have hcz28_0 : w27.cell? ⟨gb244, 0, none⟩ = some (.string a0_0) := (blk_cell BK244.out 0).trans rfl; have hcz28_1 : w27.cell? ⟨gb244, 1, none⟩ = some (.string a0_1) := (blk_cell BK244.out 1).trans rfl; have hcz28_2 : w27.cell? ⟨gb244, 2, none⟩ = some (.int .i64 a0_2) := (blk_cell BK244.out 2).trans rfl; have hfz28_0 := blk_frozen BK244.out 0; have hfz28_1 := blk_frozen BK244.out 1; have hfz28_2 := blk_frozen BK244.out 2)); try go_wp2_with (first | ((with_reducible refine gate_dst (N := 1) rfl ?_); (try (refine gate_guard (by rfl) ?_; dsimp only)); refine box_event ?hg (N := 1) ?hd (cs := #[.string a0_0, .string a0_1, .int .i64 a0_2]) (t := 42) ?hr ?_; (case hd => rfl); (case hg => rfl); (case hr => first | (go_simp; done) | (go_simp; rfl)); intro gb244 hg w23 hbox hb; have n0_ := am (below_step zq0 hb); have n1_ := am (hbox); have n2_ := am ((zq8 : w.heap.size ≤ gb244)); have n3_ := am ((zq8 : w.heap.size ≤ gb244)); clear HB; have HB := n0_; have BK244 := n1_; have GW244 := n2_; have GE244 := n3_; clear n0_ n1_ n2_ n3_; clear hb hbox hg; have hcz24_0 : w23.cell? ⟨gb244, 0, none⟩ = some (.string a0_0) := (blk_cell BK244.out 0).trans rfl; have hcz24_1 : w23.cell? ⟨gb244, 1, none⟩ = some (.string a0_1) := (blk_cell BK244.out 1).trans rfl; have hcz24_2 : w23.cell? ⟨gb244, 2, none⟩ = some (.int .i64 a0_2) := (blk_cell BK244.out 2).trans rfl; have hfz24_0 := blk_frozen BK244.out 0; have hfz24_1 := blk_frozen BK244.out 1; have hfz24_2 := blk_frozen BK244.out 2) | (go_at_call 80; (with_reducible refine (impl_readRecords.calls k (a0_0 ++ a0_1) t245 t246 _ ?side1 A6.out).mono ?_); (case side1 => exact Glob.below HGL.out zq35); rintro e w25 ⟨v247, rfl, ho0, hb⟩; have n0_ := am (Kd.R_lower ho0 (below_size zq35)); have n1_ := am (blk_below (g := gb244) (o := .cells #[.string a0_0, .string a0_1, .int .i64 a0_2] 42 (0, 0)) zq37 hb); have n2_ := am (below_step zq35 hb); clear BK244; clear HB; have HO248 := n0_; have BK244 := n1_; have HB := n2_; clear n0_ n1_ n2_; (try clear hb); (try clear hb2); (try clear hk); (try clear hi); (try clear ho0); have hcz26_0 : w25.cell? ⟨gb244, 0, none⟩ = some (.string a0_0) := (blk_cell BK244.out 0).trans rfl; have hcz26_1 : w25.cell? ⟨gb244, 1, none⟩ = some (.string a0_1) := (blk_cell BK244.out 1).trans rfl; have hcz26_2 : w25.cell? ⟨gb244, 2, none⟩ = some (.int .i64 a0_2) := (blk_cell BK244.out 2).trans rfl; have hfz26_0 := blk_frozen BK244.out 0; have hfz26_1 := blk_frozen BK244.out 1; have hfz26_2 := blk_frozen BK244.out 2) | (go_at_call 80; (with_reducible refine (impl_readRecords.calls k a0_0 t249 t250 _ ?side1 A7.out).mono ?_); (case side1 => exact Glob.below HGL.out zq35); rintro e w27 ⟨v251, rfl, ho0, hb⟩; have n0_ := am (Kd.R_elder' zq38 (Kd.R_base ho0) hb); have n1_ := am (Kd.R_lower (Kd.R_new' ho0 (Kd.R_lt zq38)) (below_size zq35)); have n2_ := am (blk_below (g := gb244) (o := .cells #[.string a0_0, .string a0_1, .int .i64 a0_2] 42 (0, 0)) zq37 hb); have n3_ := am (below_step zq35 hb); clear HO248; clear BK244; clear HB; have HO248 := n0_; have HO252 := n1_; have BK244 := n2_; have HB := n3_; clear n0_ n1_ n2_ n3_; (try clear hb); (try clear hb2); (try clear hk); (try clear hi); (try clear ho0); have hcz28_0 : w27.cell? ⟨gb244, 0, none⟩ = some (.string a0_0) := (blk_cell BK244.out 0).trans rfl; have hcz28_1 : w27.cell? ⟨gb244, 1, none⟩ = some (.string a0_1) := (blk_cell BK244.out 1).trans rfl; have hcz28_2 : w27.cell? ⟨gb244, 2, none⟩ = some (.int .i64 a0_2) := (blk_cell BK244.out 2).trans rfl; have hfz28_0 := blk_frozen BK244.out 0; have hfz28_1 := blk_frozen BK244.out 1; have hfz28_2 := blk_frozen BK244.out 2)))
    go_ret2
    exact ⟨_, zq7, zq42, zq35⟩
  ·rw [if_neg c5] at H
   exact absurd H zq176
def impl_IsValidLog.f (k : Nat) (a0_0 : ByteArray) (a0_1 : ByteArray) (a0_2 : Int) : Option (Bool) := (impl_Log_records.f k a0_0 a0_1 a0_2).bind fun bt254 => (some bt254.2)
set_option maxHeartbeats 8000000 in
set_option maxRecDepth 100000 in
theorem impl_IsValidLog.calls (k : Nat) (a0_0 : ByteArray) (a0_1 : ByteArray) (a0_2 : Int) (r : Bool) (w : World) (hgl : Glob w) (h : impl_IsValidLog.f k a0_0 a0_1 a0_2 = some r) :
  Calls Tryd.prog 33 #[.agg #[.string a0_0, .string a0_1, .int .i64 a0_2]] w fun e w' => e = .returned (.bool r) ∧ Below w.heap.size w w' := by
 have hu42 := Tryd.underlying42
 have HB := am (Below.refl w.heap.size w)
 have HGL := am hgl
 clear hgl
 have H : ((impl_Log_records.f k a0_0 a0_1 a0_2).bind fun bt254 => (some bt254.2)) = some r := h
 clear h
 replace H := bem H
 obtain ⟨⟨t254, t257⟩, A20, H⟩ := H
 replace H : (some t257) = some r := H
 have A2 := am A20
 clear A20
 obtain rfl := Option.some.inj H
 go_enter Tryd.func33, Tryd.ntmps33
 go_wp2_with (first | ((with_reducible refine gate_dst (N := 1) rfl ?_); refine box_event ?hg (N := 1) ?hd (cs := #[.string a0_0, .string a0_1, .int .i64 a0_2]) (t := 42) ?hr ?_; (case hd => rfl); (case hg => rfl); (case hr => first | (go_simp; done) | (go_simp; rfl)); intro gb253 hg w3 hbox hb; have n0_ := am (below_step zq0 hb); have n1_ := am (hbox); have n2_ := am ((zq8 : w.heap.size ≤ gb253)); have n3_ := am ((zq8 : w.heap.size ≤ gb253)); clear HB; have HB := n0_; have BK253 := n1_; have GW253 := n2_; have GE253 := n3_; clear n0_ n1_ n2_ n3_; clear hb hbox hg; have hcz4_0 : w3.cell? ⟨gb253, 0, none⟩ = some (.string a0_0) := (blk_cell BK253.out 0).trans rfl; have hcz4_1 : w3.cell? ⟨gb253, 1, none⟩ = some (.string a0_1) := (blk_cell BK253.out 1).trans rfl; have hcz4_2 : w3.cell? ⟨gb253, 2, none⟩ = some (.int .i64 a0_2) := (blk_cell BK253.out 2).trans rfl; have hfz4_0 := blk_frozen BK253.out 0; have hfz4_1 := blk_frozen BK253.out 1; have hfz4_2 := blk_frozen BK253.out 2) | ((with_reducible refine gate_callee (f := 82) rfl ?_); refine goesL_ (some 7) rfl rfl Tryd.func82 zq21 rfl #[.agg #[.string a0_0, .string a0_1, .int .i64 a0_2]] rfl zq5 ?_; (with_reducible refine (impl_Log_records.calls k a0_0 a0_1 a0_2 t254 t257 _ ?side1 A2.out).mono ?_); (case side1 => exact Glob.below HGL.out zq41); rintro e w5 ⟨v255, rfl, ho0, hb⟩; refine ⟨_, rfl, ?_⟩; have n0_ := am (Kd.R_lower ho0 (below_size zq41)); have n1_ := am (blk_below (g := gb253) (o := .cells #[.string a0_0, .string a0_1, .int .i64 a0_2] 42 (0, 0)) (by (with_reducible repeat (first | refine blk_drewN ?_ _ | refine blk_drew ?_ | refine blk_alloc ?_ _)); exact BK253.out) hb); have n2_ := am (below_step zq41 hb); clear BK253; clear HB; have HO256 := n0_; have BK253 := n1_; have HB := n2_; clear n0_ n1_ n2_; (try clear hb); (try clear hb2); (try clear hk); (try clear hi); (try clear ho0)))
 go_ret
 exact ⟨zq7, zq41⟩
def spec_SyncLog.f (k : Nat) (a0_0 : ByteArray) (a0_1 : ByteArray) (a0_2 : Int) : Option (ByteArray × ByteArray × Int × Bool) := (spec_l12Valid.f k a0_0 a0_1 a0_2).bind fun t270 => (if t270 = true then (if a0_0.size + a0_1.size ≤ 9223372036854775807 then (some (a0_0 ++ a0_1, (⟨#[]⟩ : ByteArray), a0_2, true)) else (none)) else (some ((⟨#[]⟩ : ByteArray), (⟨#[]⟩ : ByteArray), 0, false)))
set_option maxHeartbeats 8000000 in
set_option maxRecDepth 100000 in
theorem spec_SyncLog.calls (k : Nat) (a0_0 : ByteArray) (a0_1 : ByteArray) (a0_2 : Int) (r1 : ByteArray) (r2 : ByteArray) (r3 : Int) (r4 : Bool) (w : World) (h : spec_SyncLog.f k a0_0 a0_1 a0_2 = some (r1, r2, r3, r4)) :
  Calls Tryd.prog 36 #[.agg #[.string a0_0, .string a0_1, .int .i64 a0_2]] w fun e w' => e = .returned (.tuple #[.agg #[.string r1, .string r2, .int .i64 r3], .bool r4]) ∧ Below w.heap.size w w' := by
 have hu42 := Tryd.underlying42
 have HB := am (Below.refl w.heap.size w)
 have H : ((spec_l12Valid.f k a0_0 a0_1 a0_2).bind fun t270 => (if t270 = true then (if a0_0.size + a0_1.size ≤ 9223372036854775807 then (some (a0_0 ++ a0_1, (⟨#[]⟩ : ByteArray), a0_2, true)) else (none)) else (some ((⟨#[]⟩ : ByteArray), (⟨#[]⟩ : ByteArray), 0, false)))) = some (r1, r2, r3, r4) := h
 clear h
 replace H := bem H
 obtain ⟨t270, A20, H⟩ := H
 replace H : (if t270 = true then (if a0_0.size + a0_1.size ≤ 9223372036854775807 then (some (a0_0 ++ a0_1, (⟨#[]⟩ : ByteArray), a0_2, true)) else (none)) else (some ((⟨#[]⟩ : ByteArray), (⟨#[]⟩ : ByteArray), 0, false))) = some (r1, r2, r3, r4) := H
 have A2 := am A20
 clear A20
 by_cases c3 : t270 = true
 ·subst c3
  have H1 : (if a0_0.size + a0_1.size ≤ 9223372036854775807 then (some (a0_0 ++ a0_1, (⟨#[]⟩ : ByteArray), a0_2, true)) else (none)) = some (r1, r2, r3, r4) := by rw [if_pos rfl] at H; exact H
  clear H
  have H := H1
  clear H1
  by_cases c4 : a0_0.size + a0_1.size ≤ 9223372036854775807
  ·rw [if_pos c4] at H
   have c4b0 := eq_true c4
   have c4b1 : decide (a0_0.size + a0_1.size ≤ 9223372036854775807) = true := decide_eq_true c4
   try have c4b2 : (9223372036854775807 < a0_0.size + a0_1.size) = False := eq_false (Nat.not_lt.2 c4)
   simp only [Option.some.injEq, Prod.mk.injEq] at H
   obtain ⟨rfl, rfl, rfl, rfl⟩ := H
   go_enter Tryd.func36, Tryd.ntmps36
   go_wp2_with (first | ((with_reducible refine gate_dst (N := 1) rfl ?_); refine box_event ?hg (N := 1) ?hd (cs := #[.string a0_0, .string a0_1, .int .i64 a0_2]) (t := 42) ?hr ?_; (case hd => rfl); (case hg => rfl); (case hr => first | (go_simp; done) | (go_simp; rfl)); intro gb268 hg w5 hbox hb; have n0_ := am (below_step zq0 hb); have n1_ := am (hbox); have n2_ := am ((zq8 : w.heap.size ≤ gb268)); have n3_ := am ((zq8 : w.heap.size ≤ gb268)); clear HB; have HB := n0_; have BK268 := n1_; have GW268 := n2_; have GE268 := n3_; clear n0_ n1_ n2_ n3_; clear hb hbox hg) | ((with_reducible refine gate_dst (N := 2) rfl ?_); refine box_event ?hg (N := 2) ?hd (cs := #[.string ⟨#[]⟩, .string ⟨#[]⟩, .int .i64 0]) (t := 42) ?hr ?_; (case hd => rfl); (case hg => rfl); (case hr => first | (go_simp; done) | (go_simp; rfl)); intro gb269 hg w6 hbox hb; have n0_ := am (blk_below (g := gb268) (o := .cells #[.string a0_0, .string a0_1, .int .i64 a0_2] 42 (0, 0)) zq46 hb); have n1_ := am (below_step zq44 hb); have n2_ := am (hbox); have n3_ := am ((by rw [hg]; exact (below_size zq44) : w.heap.size ≤ gb269)); have n4_ := am ((by rw [hg]; exact (below_size zq44) : w.heap.size ≤ gb269)); have n5_ := am ((zq193 : gb268 ≠ gb269)); have n6_ := am ((zq194 : gb269 ≠ gb268)); clear BK268; clear HB; have BK268 := n0_; have HB := n1_; have BK269 := n2_; have GW269 := n3_; have GE269 := n4_; have NB268_269 := n5_; have NB269_268 := n6_; clear n0_ n1_ n2_ n3_ n4_ n5_ n6_; clear hb hbox hg; have hnb7 := NB268_269.out; have hnc7 := NB269_268.out; have hcz8_0 : w6.cell? ⟨gb268, 0, none⟩ = some (.string a0_0) := (blk_cell BK268.out 0).trans rfl; have hcz8_1 : w6.cell? ⟨gb268, 1, none⟩ = some (.string a0_1) := (blk_cell BK268.out 1).trans rfl; have hcz8_2 : w6.cell? ⟨gb268, 2, none⟩ = some (.int .i64 a0_2) := (blk_cell BK268.out 2).trans rfl; have hfz8_0 := blk_frozen BK268.out 0; have hfz8_1 := blk_frozen BK268.out 1; have hfz8_2 := blk_frozen BK268.out 2) | ((with_reducible refine gate_callee (f := 81) rfl ?_); refine goesL_ (some 5) rfl rfl Tryd.func81 zq21 rfl #[.agg #[.string a0_0, .string a0_1, .int .i64 a0_2]] rfl zq5 ?_; (with_reducible refine (spec_l12Valid.calls k a0_0 a0_1 a0_2 true _ A2.out).mono ?_); rintro e w9 ⟨rfl, hb⟩; refine ⟨_, rfl, ?_⟩; have n0_ := am (blk_below (g := gb268) (o := .cells #[.string a0_0, .string a0_1, .int .i64 a0_2] 42 (0, 0)) zq46 hb); have n1_ := am (blk_below (g := gb269) (o := .cells #[.string ⟨#[]⟩, .string ⟨#[]⟩, .int .i64 0] 42 (0, 0)) zq204 hb); have n2_ := am (below_step zq48 hb); clear BK268; clear BK269; clear HB; have BK268 := n0_; have BK269 := n1_; have HB := n2_; clear n0_ n1_ n2_; (try clear hb); (try clear hb2); (try clear hk); (try clear hi); have hcz10_0 : w9.cell? ⟨gb268, 0, none⟩ = some (.string a0_0) := (blk_cell BK268.out 0).trans rfl; have hcz10_1 : w9.cell? ⟨gb268, 1, none⟩ = some (.string a0_1) := (blk_cell BK268.out 1).trans rfl; have hcz10_2 : w9.cell? ⟨gb268, 2, none⟩ = some (.int .i64 a0_2) := (blk_cell BK268.out 2).trans rfl; have hfz10_0 := blk_frozen BK268.out 0; have hfz10_1 := blk_frozen BK268.out 1; have hfz10_2 := blk_frozen BK268.out 2; have hcz11_0 : w9.cell? ⟨gb269, 0, none⟩ = some (.string ⟨#[]⟩) := (blk_cell BK269.out 0).trans rfl; have hcz11_1 : w9.cell? ⟨gb269, 1, none⟩ = some (.string ⟨#[]⟩) := (blk_cell BK269.out 1).trans rfl; have hcz11_2 : w9.cell? ⟨gb269, 2, none⟩ = some (.int .i64 0) := (blk_cell BK269.out 2).trans rfl; have hfz11_0 := blk_frozen BK269.out 0; have hfz11_1 := blk_frozen BK269.out 1; have hfz11_2 := blk_frozen BK269.out 2))
   refine bodyPost_ret (results_ct rfl _ _ gb269 42 #[.string (a0_0 ++ a0_1), .string ⟨#[]⟩, .int .i64 a0_2] (0, 0) _ rfl (by (with_reducible repeat (first | refine blk_drewN ?_ _ | refine blk_drew ?_ | refine blk_alloc ?_ _)); refine blk_put (cs := #[.string (a0_0 ++ a0_1), .string ⟨#[]⟩, .int .i64 0]) ?_ 2 _ rfl; (with_reducible repeat (first | refine blk_drewN ?_ _ | refine blk_drew ?_ | refine blk_alloc ?_ _)); refine blk_put (cs := #[.string (a0_0 ++ a0_1), .string ⟨#[]⟩, .int .i64 0]) ?_ 1 _ rfl; (with_reducible repeat (first | refine blk_drewN ?_ _ | refine blk_drew ?_ | refine blk_alloc ?_ _)); refine blk_put (cs := #[.string ⟨#[]⟩, .string ⟨#[]⟩, .int .i64 0]) ?_ 0 _ rfl; (with_reducible repeat (first | refine blk_drewN ?_ _ | refine blk_drew ?_ | refine blk_alloc ?_ _)); exact BK269.out) Tryd.underlying42 rfl zq21) rfl ?_
   exact ⟨zq7, zq48⟩
  ·rw [if_neg c4] at H
   exact absurd H zq176
 ·replace c3 := Bool.eq_false_iff.mpr c3
  subst c3
  have H1 : (some ((⟨#[]⟩ : ByteArray), (⟨#[]⟩ : ByteArray), 0, false)) = some (r1, r2, r3, r4) := by rw [if_neg (show ¬ (false = true) by decide)] at H; exact H
  clear H
  have H := H1
  clear H1
  simp only [Option.some.injEq, Prod.mk.injEq] at H
  obtain ⟨rfl, rfl, rfl, rfl⟩ := H
  go_enter Tryd.func36, Tryd.ntmps36
  go_wp2_with (first | ((with_reducible refine gate_dst (N := 1) rfl ?_); refine box_event ?hg (N := 1) ?hd (cs := #[.string a0_0, .string a0_1, .int .i64 a0_2]) (t := 42) ?hr ?_; (case hd => rfl); (case hg => rfl); (case hr => first | (go_simp; done) | (go_simp; rfl)); intro gb268 hg w12 hbox hb; have n0_ := am (below_step zq0 hb); have n1_ := am (hbox); have n2_ := am ((zq8 : w.heap.size ≤ gb268)); have n3_ := am ((zq8 : w.heap.size ≤ gb268)); clear HB; have HB := n0_; have BK268 := n1_; have GW268 := n2_; have GE268 := n3_; clear n0_ n1_ n2_ n3_; clear hb hbox hg) | ((with_reducible refine gate_dst (N := 2) rfl ?_); refine box_event ?hg (N := 2) ?hd (cs := #[.string ⟨#[]⟩, .string ⟨#[]⟩, .int .i64 0]) (t := 42) ?hr ?_; (case hd => rfl); (case hg => rfl); (case hr => first | (go_simp; done) | (go_simp; rfl)); intro gb269 hg w13 hbox hb; have n0_ := am (blk_below (g := gb268) (o := .cells #[.string a0_0, .string a0_1, .int .i64 a0_2] 42 (0, 0)) zq46 hb); have n1_ := am (below_step zq44 hb); have n2_ := am (hbox); have n3_ := am ((by rw [hg]; exact (below_size zq44) : w.heap.size ≤ gb269)); have n4_ := am ((by rw [hg]; exact (below_size zq44) : w.heap.size ≤ gb269)); have n5_ := am ((zq193 : gb268 ≠ gb269)); have n6_ := am ((zq194 : gb269 ≠ gb268)); clear BK268; clear HB; have BK268 := n0_; have HB := n1_; have BK269 := n2_; have GW269 := n3_; have GE269 := n4_; have NB268_269 := n5_; have NB269_268 := n6_; clear n0_ n1_ n2_ n3_ n4_ n5_ n6_; clear hb hbox hg; have hnb14 := NB268_269.out; have hnc14 := NB269_268.out; have hcz15_0 : w13.cell? ⟨gb268, 0, none⟩ = some (.string a0_0) := (blk_cell BK268.out 0).trans rfl; have hcz15_1 : w13.cell? ⟨gb268, 1, none⟩ = some (.string a0_1) := (blk_cell BK268.out 1).trans rfl; have hcz15_2 : w13.cell? ⟨gb268, 2, none⟩ = some (.int .i64 a0_2) := (blk_cell BK268.out 2).trans rfl; have hfz15_0 := blk_frozen BK268.out 0; have hfz15_1 := blk_frozen BK268.out 1; have hfz15_2 := blk_frozen BK268.out 2) | ((with_reducible refine gate_callee (f := 81) rfl ?_); refine goesL_ (some 5) rfl rfl Tryd.func81 zq21 rfl #[.agg #[.string a0_0, .string a0_1, .int .i64 a0_2]] rfl zq5 ?_; (with_reducible refine (spec_l12Valid.calls k a0_0 a0_1 a0_2 false _ A2.out).mono ?_); rintro e w16 ⟨rfl, hb⟩; refine ⟨_, rfl, ?_⟩; have n0_ := am (blk_below (g := gb268) (o := .cells #[.string a0_0, .string a0_1, .int .i64 a0_2] 42 (0, 0)) zq46 hb); have n1_ := am (blk_below (g := gb269) (o := .cells #[.string ⟨#[]⟩, .string ⟨#[]⟩, .int .i64 0] 42 (0, 0)) zq204 hb); have n2_ := am (below_step zq48 hb); clear BK268; clear BK269; clear HB; have BK268 := n0_; have BK269 := n1_; have HB := n2_; clear n0_ n1_ n2_; (try clear hb); (try clear hb2); (try clear hk); (try clear hi); have hcz17_0 : w16.cell? ⟨gb269, 0, none⟩ = some (.string ⟨#[]⟩) := (blk_cell BK269.out 0).trans rfl; have hcz17_1 : w16.cell? ⟨gb269, 1, none⟩ = some (.string ⟨#[]⟩) := (blk_cell BK269.out 1).trans rfl; have hcz17_2 : w16.cell? ⟨gb269, 2, none⟩ = some (.int .i64 0) := (blk_cell BK269.out 2).trans rfl; have hfz17_0 := blk_frozen BK269.out 0; have hfz17_1 := blk_frozen BK269.out 1; have hfz17_2 := blk_frozen BK269.out 2))
  refine bodyPost_ret (results_ct rfl _ _ gb269 42 #[.string ⟨#[]⟩, .string ⟨#[]⟩, .int .i64 0] (0, 0) _ rfl (by (with_reducible repeat (first | refine blk_drewN ?_ _ | refine blk_drew ?_ | refine blk_alloc ?_ _)); refine blk_put (cs := #[.string ⟨#[]⟩, .string ⟨#[]⟩, .int .i64 0]) ?_ 2 _ rfl; (with_reducible repeat (first | refine blk_drewN ?_ _ | refine blk_drew ?_ | refine blk_alloc ?_ _)); refine blk_put (cs := #[.string ⟨#[]⟩, .string ⟨#[]⟩, .int .i64 0]) ?_ 1 _ rfl; (with_reducible repeat (first | refine blk_drewN ?_ _ | refine blk_drew ?_ | refine blk_alloc ?_ _)); refine blk_put (cs := #[.string ⟨#[]⟩, .string ⟨#[]⟩, .int .i64 0]) ?_ 0 _ rfl; (with_reducible repeat (first | refine blk_drewN ?_ _ | refine blk_drew ?_ | refine blk_alloc ?_ _)); exact BK269.out) Tryd.underlying42 rfl zq21) rfl ?_
  exact ⟨zq7, zq48⟩
def impl_SyncLog.f (k : Nat) (a0_0 : ByteArray) (a0_1 : ByteArray) (a0_2 : Int) : Option (ByteArray × ByteArray × Int × Bool) := (impl_IsValidLog.f k a0_0 a0_1 a0_2).bind fun t273 => (if t273 = true then (if a0_0.size + a0_1.size ≤ 9223372036854775807 then (some (a0_0 ++ a0_1, (⟨#[]⟩ : ByteArray), a0_2, true)) else (none)) else (some ((⟨#[]⟩ : ByteArray), (⟨#[]⟩ : ByteArray), 0, false)))
set_option maxHeartbeats 8000000 in
set_option maxRecDepth 100000 in
theorem impl_SyncLog.calls (k : Nat) (a0_0 : ByteArray) (a0_1 : ByteArray) (a0_2 : Int) (r1 : ByteArray) (r2 : ByteArray) (r3 : Int) (r4 : Bool) (w : World) (hgl : Glob w) (h : impl_SyncLog.f k a0_0 a0_1 a0_2 = some (r1, r2, r3, r4)) :
  Calls Tryd.prog 37 #[.agg #[.string a0_0, .string a0_1, .int .i64 a0_2]] w fun e w' => e = .returned (.tuple #[.agg #[.string r1, .string r2, .int .i64 r3], .bool r4]) ∧ Below w.heap.size w w' := by
 have hu42 := Tryd.underlying42
 have HB := am (Below.refl w.heap.size w)
 have HGL := am hgl
 clear hgl
 have H : ((impl_IsValidLog.f k a0_0 a0_1 a0_2).bind fun t273 => (if t273 = true then (if a0_0.size + a0_1.size ≤ 9223372036854775807 then (some (a0_0 ++ a0_1, (⟨#[]⟩ : ByteArray), a0_2, true)) else (none)) else (some ((⟨#[]⟩ : ByteArray), (⟨#[]⟩ : ByteArray), 0, false)))) = some (r1, r2, r3, r4) := h
 clear h
 replace H := bem H
 obtain ⟨t273, A20, H⟩ := H
 replace H : (if t273 = true then (if a0_0.size + a0_1.size ≤ 9223372036854775807 then (some (a0_0 ++ a0_1, (⟨#[]⟩ : ByteArray), a0_2, true)) else (none)) else (some ((⟨#[]⟩ : ByteArray), (⟨#[]⟩ : ByteArray), 0, false))) = some (r1, r2, r3, r4) := H
 have A2 := am A20
 clear A20
 by_cases c3 : t273 = true
 ·subst c3
  have H1 : (if a0_0.size + a0_1.size ≤ 9223372036854775807 then (some (a0_0 ++ a0_1, (⟨#[]⟩ : ByteArray), a0_2, true)) else (none)) = some (r1, r2, r3, r4) := by rw [if_pos rfl] at H; exact H
  clear H
  have H := H1
  clear H1
  by_cases c4 : a0_0.size + a0_1.size ≤ 9223372036854775807
  ·rw [if_pos c4] at H
   have c4b0 := eq_true c4
   have c4b1 : decide (a0_0.size + a0_1.size ≤ 9223372036854775807) = true := decide_eq_true c4
   try have c4b2 : (9223372036854775807 < a0_0.size + a0_1.size) = False := eq_false (Nat.not_lt.2 c4)
   simp only [Option.some.injEq, Prod.mk.injEq] at H
   obtain ⟨rfl, rfl, rfl, rfl⟩ := H
   go_enter Tryd.func37, Tryd.ntmps37
   go_wp2_with (first | ((with_reducible refine gate_dst (N := 1) rfl ?_); refine box_event ?hg (N := 1) ?hd (cs := #[.string a0_0, .string a0_1, .int .i64 a0_2]) (t := 42) ?hr ?_; (case hd => rfl); (case hg => rfl); (case hr => first | (go_simp; done) | (go_simp; rfl)); intro gb271 hg w5 hbox hb; have n0_ := am (below_step zq0 hb); have n1_ := am (hbox); have n2_ := am ((zq8 : w.heap.size ≤ gb271)); have n3_ := am ((zq8 : w.heap.size ≤ gb271)); clear HB; have HB := n0_; have BK271 := n1_; have GW271 := n2_; have GE271 := n3_; clear n0_ n1_ n2_ n3_; clear hb hbox hg) | ((with_reducible refine gate_dst (N := 2) rfl ?_); refine box_event ?hg (N := 2) ?hd (cs := #[.string ⟨#[]⟩, .string ⟨#[]⟩, .int .i64 0]) (t := 42) ?hr ?_; (case hd => rfl); (case hg => rfl); (case hr => first | (go_simp; done) | (go_simp; rfl)); intro gb272 hg w6 hbox hb; have n0_ := am (blk_below (g := gb271) (o := .cells #[.string a0_0, .string a0_1, .int .i64 a0_2] 42 (0, 0)) zq47 hb); have n1_ := am (below_step zq45 hb); have n2_ := am (hbox); have n3_ := am ((by rw [hg]; exact (below_size zq45) : w.heap.size ≤ gb272)); have n4_ := am ((by rw [hg]; exact (below_size zq45) : w.heap.size ≤ gb272)); have n5_ := am ((zq195 : gb271 ≠ gb272)); have n6_ := am ((zq196 : gb272 ≠ gb271)); clear BK271; clear HB; have BK271 := n0_; have HB := n1_; have BK272 := n2_; have GW272 := n3_; have GE272 := n4_; have NB271_272 := n5_; have NB272_271 := n6_; clear n0_ n1_ n2_ n3_ n4_ n5_ n6_; clear hb hbox hg; have hnb7 := NB271_272.out; have hnc7 := NB272_271.out; have hcz8_0 : w6.cell? ⟨gb271, 0, none⟩ = some (.string a0_0) := (blk_cell BK271.out 0).trans rfl; have hcz8_1 : w6.cell? ⟨gb271, 1, none⟩ = some (.string a0_1) := (blk_cell BK271.out 1).trans rfl; have hcz8_2 : w6.cell? ⟨gb271, 2, none⟩ = some (.int .i64 a0_2) := (blk_cell BK271.out 2).trans rfl; have hfz8_0 := blk_frozen BK271.out 0; have hfz8_1 := blk_frozen BK271.out 1; have hfz8_2 := blk_frozen BK271.out 2) | ((with_reducible refine gate_callee (f := 33) rfl ?_); refine goesL_ (some 5) rfl rfl Tryd.func33 zq21 rfl #[.agg #[.string a0_0, .string a0_1, .int .i64 a0_2]] rfl zq5 ?_; (with_reducible refine (impl_IsValidLog.calls k a0_0 a0_1 a0_2 true _ ?side1 A2.out).mono ?_); (case side1 => exact Glob.below HGL.out zq43); rintro e w9 ⟨rfl, hb⟩; refine ⟨_, rfl, ?_⟩; have n0_ := am (blk_below (g := gb271) (o := .cells #[.string a0_0, .string a0_1, .int .i64 a0_2] 42 (0, 0)) zq47 hb); have n1_ := am (blk_below (g := gb272) (o := .cells #[.string ⟨#[]⟩, .string ⟨#[]⟩, .int .i64 0] 42 (0, 0)) zq205 hb); have n2_ := am (below_step zq43 hb); clear BK271; clear BK272; clear HB; have BK271 := n0_; have BK272 := n1_; have HB := n2_; clear n0_ n1_ n2_; (try clear hb); (try clear hb2); (try clear hk); (try clear hi); have hcz10_0 : w9.cell? ⟨gb271, 0, none⟩ = some (.string a0_0) := (blk_cell BK271.out 0).trans rfl; have hcz10_1 : w9.cell? ⟨gb271, 1, none⟩ = some (.string a0_1) := (blk_cell BK271.out 1).trans rfl; have hcz10_2 : w9.cell? ⟨gb271, 2, none⟩ = some (.int .i64 a0_2) := (blk_cell BK271.out 2).trans rfl; have hfz10_0 := blk_frozen BK271.out 0; have hfz10_1 := blk_frozen BK271.out 1; have hfz10_2 := blk_frozen BK271.out 2; have hcz11_0 : w9.cell? ⟨gb272, 0, none⟩ = some (.string ⟨#[]⟩) := (blk_cell BK272.out 0).trans rfl; have hcz11_1 : w9.cell? ⟨gb272, 1, none⟩ = some (.string ⟨#[]⟩) := (blk_cell BK272.out 1).trans rfl; have hcz11_2 : w9.cell? ⟨gb272, 2, none⟩ = some (.int .i64 0) := (blk_cell BK272.out 2).trans rfl; have hfz11_0 := blk_frozen BK272.out 0; have hfz11_1 := blk_frozen BK272.out 1; have hfz11_2 := blk_frozen BK272.out 2))
   refine bodyPost_ret (results_ct rfl _ _ gb272 42 #[.string (a0_0 ++ a0_1), .string ⟨#[]⟩, .int .i64 a0_2] (0, 0) _ rfl (by (with_reducible repeat (first | refine blk_drewN ?_ _ | refine blk_drew ?_ | refine blk_alloc ?_ _)); refine blk_put (cs := #[.string (a0_0 ++ a0_1), .string ⟨#[]⟩, .int .i64 0]) ?_ 2 _ rfl; (with_reducible repeat (first | refine blk_drewN ?_ _ | refine blk_drew ?_ | refine blk_alloc ?_ _)); refine blk_put (cs := #[.string (a0_0 ++ a0_1), .string ⟨#[]⟩, .int .i64 0]) ?_ 1 _ rfl; (with_reducible repeat (first | refine blk_drewN ?_ _ | refine blk_drew ?_ | refine blk_alloc ?_ _)); refine blk_put (cs := #[.string ⟨#[]⟩, .string ⟨#[]⟩, .int .i64 0]) ?_ 0 _ rfl; (with_reducible repeat (first | refine blk_drewN ?_ _ | refine blk_drew ?_ | refine blk_alloc ?_ _)); exact BK272.out) Tryd.underlying42 rfl zq21) rfl ?_
   exact ⟨zq7, zq43⟩
  ·rw [if_neg c4] at H
   exact absurd H zq176
 ·replace c3 := Bool.eq_false_iff.mpr c3
  subst c3
  have H1 : (some ((⟨#[]⟩ : ByteArray), (⟨#[]⟩ : ByteArray), 0, false)) = some (r1, r2, r3, r4) := by rw [if_neg (show ¬ (false = true) by decide)] at H; exact H
  clear H
  have H := H1
  clear H1
  simp only [Option.some.injEq, Prod.mk.injEq] at H
  obtain ⟨rfl, rfl, rfl, rfl⟩ := H
  go_enter Tryd.func37, Tryd.ntmps37
  go_wp2_with (first | ((with_reducible refine gate_dst (N := 1) rfl ?_); refine box_event ?hg (N := 1) ?hd (cs := #[.string a0_0, .string a0_1, .int .i64 a0_2]) (t := 42) ?hr ?_; (case hd => rfl); (case hg => rfl); (case hr => first | (go_simp; done) | (go_simp; rfl)); intro gb271 hg w12 hbox hb; have n0_ := am (below_step zq0 hb); have n1_ := am (hbox); have n2_ := am ((zq8 : w.heap.size ≤ gb271)); have n3_ := am ((zq8 : w.heap.size ≤ gb271)); clear HB; have HB := n0_; have BK271 := n1_; have GW271 := n2_; have GE271 := n3_; clear n0_ n1_ n2_ n3_; clear hb hbox hg) | ((with_reducible refine gate_dst (N := 2) rfl ?_); refine box_event ?hg (N := 2) ?hd (cs := #[.string ⟨#[]⟩, .string ⟨#[]⟩, .int .i64 0]) (t := 42) ?hr ?_; (case hd => rfl); (case hg => rfl); (case hr => first | (go_simp; done) | (go_simp; rfl)); intro gb272 hg w13 hbox hb; have n0_ := am (blk_below (g := gb271) (o := .cells #[.string a0_0, .string a0_1, .int .i64 a0_2] 42 (0, 0)) zq47 hb); have n1_ := am (below_step zq45 hb); have n2_ := am (hbox); have n3_ := am ((by rw [hg]; exact (below_size zq45) : w.heap.size ≤ gb272)); have n4_ := am ((by rw [hg]; exact (below_size zq45) : w.heap.size ≤ gb272)); have n5_ := am ((zq195 : gb271 ≠ gb272)); have n6_ := am ((zq196 : gb272 ≠ gb271)); clear BK271; clear HB; have BK271 := n0_; have HB := n1_; have BK272 := n2_; have GW272 := n3_; have GE272 := n4_; have NB271_272 := n5_; have NB272_271 := n6_; clear n0_ n1_ n2_ n3_ n4_ n5_ n6_; clear hb hbox hg; have hnb14 := NB271_272.out; have hnc14 := NB272_271.out; have hcz15_0 : w13.cell? ⟨gb271, 0, none⟩ = some (.string a0_0) := (blk_cell BK271.out 0).trans rfl; have hcz15_1 : w13.cell? ⟨gb271, 1, none⟩ = some (.string a0_1) := (blk_cell BK271.out 1).trans rfl; have hcz15_2 : w13.cell? ⟨gb271, 2, none⟩ = some (.int .i64 a0_2) := (blk_cell BK271.out 2).trans rfl; have hfz15_0 := blk_frozen BK271.out 0; have hfz15_1 := blk_frozen BK271.out 1; have hfz15_2 := blk_frozen BK271.out 2) | ((with_reducible refine gate_callee (f := 33) rfl ?_); refine goesL_ (some 5) rfl rfl Tryd.func33 zq21 rfl #[.agg #[.string a0_0, .string a0_1, .int .i64 a0_2]] rfl zq5 ?_; (with_reducible refine (impl_IsValidLog.calls k a0_0 a0_1 a0_2 false _ ?side1 A2.out).mono ?_); (case side1 => exact Glob.below HGL.out zq43); rintro e w16 ⟨rfl, hb⟩; refine ⟨_, rfl, ?_⟩; have n0_ := am (blk_below (g := gb271) (o := .cells #[.string a0_0, .string a0_1, .int .i64 a0_2] 42 (0, 0)) zq47 hb); have n1_ := am (blk_below (g := gb272) (o := .cells #[.string ⟨#[]⟩, .string ⟨#[]⟩, .int .i64 0] 42 (0, 0)) zq205 hb); have n2_ := am (below_step zq43 hb); clear BK271; clear BK272; clear HB; have BK271 := n0_; have BK272 := n1_; have HB := n2_; clear n0_ n1_ n2_; (try clear hb); (try clear hb2); (try clear hk); (try clear hi); have hcz17_0 : w16.cell? ⟨gb272, 0, none⟩ = some (.string ⟨#[]⟩) := (blk_cell BK272.out 0).trans rfl; have hcz17_1 : w16.cell? ⟨gb272, 1, none⟩ = some (.string ⟨#[]⟩) := (blk_cell BK272.out 1).trans rfl; have hcz17_2 : w16.cell? ⟨gb272, 2, none⟩ = some (.int .i64 0) := (blk_cell BK272.out 2).trans rfl; have hfz17_0 := blk_frozen BK272.out 0; have hfz17_1 := blk_frozen BK272.out 1; have hfz17_2 := blk_frozen BK272.out 2))
  refine bodyPost_ret (results_ct rfl _ _ gb272 42 #[.string ⟨#[]⟩, .string ⟨#[]⟩, .int .i64 0] (0, 0) _ rfl (by (with_reducible repeat (first | refine blk_drewN ?_ _ | refine blk_drew ?_ | refine blk_alloc ?_ _)); refine blk_put (cs := #[.string ⟨#[]⟩, .string ⟨#[]⟩, .int .i64 0]) ?_ 2 _ rfl; (with_reducible repeat (first | refine blk_drewN ?_ _ | refine blk_drew ?_ | refine blk_alloc ?_ _)); refine blk_put (cs := #[.string ⟨#[]⟩, .string ⟨#[]⟩, .int .i64 0]) ?_ 1 _ rfl; (with_reducible repeat (first | refine blk_drewN ?_ _ | refine blk_drew ?_ | refine blk_alloc ?_ _)); refine blk_put (cs := #[.string ⟨#[]⟩, .string ⟨#[]⟩, .int .i64 0]) ?_ 0 _ rfl; (with_reducible repeat (first | refine blk_drewN ?_ _ | refine blk_drew ?_ | refine blk_alloc ?_ _)); exact BK272.out) Tryd.underlying42 rfl zq21) rfl ?_
  exact ⟨zq7, zq43⟩
theorem eqA42 (d : Nat) (w : World) (x0 y0 : ByteArray) (x1 y1 : ByteArray) (x2 y2 : Int) :
  (Op.equalIn (d + 2) 42 (.agg #[.string x0, .string x1, .int .i64 x2]) (.agg #[.string y0, .string y1, .int .i64 y2])).run Tryd.prog w = .ok (x0.toList == y0.toList && (x1.toList == y1.toList && (x2 == y2))) w := by
 refine eqA_of Tryd.underlying42 zq21 ?_
 refine eqf_cons (by rfl) (by go_simp; rfl) (by go_simp; rfl) (by go_simp) ?_
 refine eqf_cons (by rfl) (by go_simp; rfl) (by go_simp; rfl) (by go_simp) ?_
 exact eqf_last (by rfl) (by go_simp; rfl) (by go_simp; rfl) (by go_simp)
def spec_AppendRecord.j0 : Nat → Bool → ByteArray → ByteArray → Int → ByteArray → ByteArray → Option (ByteArray × ByteArray × Int × Int)
 | 0, _, _, _, _, _, _ => none
 | k + 1, x13, x294000, x294001, x294002, x295000, x295001 => if x13 = true then (some (x294000, x294001, x294002, 1)) else (if x294002 = 60 then (some (x294000, x294001, x294002, 2)) else ((spec_l12Line.f k x294002 x295000 x295001).bind fun t298 => (if x294001.size + t298.size ≤ 9223372036854775807 then (some (x294000, x294001 ++ t298, wrap64 (x294002 + 1), 0)) else (none))))
def spec_AppendRecord.f (k : Nat) (a0_0 : ByteArray) (a0_1 : ByteArray) (a0_2 : Int) (a1_0 : ByteArray) (a1_1 : ByteArray) : Option (ByteArray × ByteArray × Int × Int) := (spec_l12Valid.f k a0_0 a0_1 a0_2).bind fun t296 => (if t296 = true then ((spec_l12Record.f k a1_0 a1_1).bind fun t297 => (spec_AppendRecord.j0 k (!t297) a0_0 a0_1 a0_2 a1_0 a1_1)) else (spec_AppendRecord.j0 k true a0_0 a0_1 a0_2 a1_0 a1_1))
def spec_AppendRecord.T5 : Bool × List (List Nat × List Nat) := (true, [([], []), ([0], [0]), ([], []), ([2], [2]), ([], []), ([3, 4], [3, 4]), ([1, 5], [1, 5]), ([0, 1, 2, 3, 4, 5, 6], []), ([7, 6, 5, 0, 1, 2, 3, 4, 5, 6], [6, 7])])
def spec_AppendRecord.B5 : List Nat := [0, 1, 0, 4, 0, 28, 63, 127, 255]
theorem spec_AppendRecord.tab5 : rtab .any (opsOf Tryd.f38 5) = spec_AppendRecord.T5 := by kernel_rfl
theorem spec_AppendRecord.bits5 : waitsOk spec_AppendRecord.T5.2 spec_AppendRecord.B5 = true := by kernel_rfl
set_option maxHeartbeats 8000000 in
set_option maxRecDepth 100000 in
theorem spec_AppendRecord.calls (k : Nat) (a0_0 : ByteArray) (a0_1 : ByteArray) (a0_2 : Int) (a1_0 : ByteArray) (a1_1 : ByteArray) (r1 : ByteArray) (r2 : ByteArray) (r3 : Int) (r4 : Int) (w : World) (h : spec_AppendRecord.f k a0_0 a0_1 a0_2 a1_0 a1_1 = some (r1, r2, r3, r4)) :
  Calls Tryd.prog 38 #[.agg #[.string a0_0, .string a0_1, .int .i64 a0_2], .agg #[.string a1_0, .string a1_1]] w fun e w' => e = .returned (.tuple #[.agg #[.string r1, .string r2, .int .i64 r3], .int .i64 r4]) ∧ Below w.heap.size w w' := by
 have hu42 := Tryd.underlying42
 have hu38 := Tryd.underlying38
 have HB := am (Below.refl w.heap.size w)
 have H : ((spec_l12Valid.f k a0_0 a0_1 a0_2).bind fun t296 => (if t296 = true then ((spec_l12Record.f k a1_0 a1_1).bind fun t297 => (spec_AppendRecord.j0 k (!t297) a0_0 a0_1 a0_2 a1_0 a1_1)) else (spec_AppendRecord.j0 k true a0_0 a0_1 a0_2 a1_0 a1_1))) = some (r1, r2, r3, r4) := h
 clear h
 have HC3 := am H
 clear H
 go_enter Tryd.func38, Tryd.ntmps38
 go_upto_region 1 with (first | ((with_reducible refine gate_dst (N := 2) rfl ?_); refine box_event ?hg (N := 2) ?hd (cs := #[.string a0_0, .string a0_1, .int .i64 a0_2]) (t := 42) ?hr ?_; (case hd => rfl); (case hg => rfl); (case hr => first | (go_simp; done) | (go_simp; rfl)); intro gb293 hg w4 hbox hb; have n0_ := am (below_step zq0 hb); have n1_ := am (hbox); have n2_ := am ((zq8 : w.heap.size ≤ gb293)); have n3_ := am ((zq8 : w.heap.size ≤ gb293)); clear HB; have HB := n0_; have BK293 := n1_; have GW293 := n2_; have GE293 := n3_; clear n0_ n1_ n2_ n3_; clear hb hbox hg) | ((with_reducible refine gate_dst (N := 3) rfl ?_); refine box_event ?hg (N := 3) ?hd (cs := #[.string a1_0, .string a1_1]) (t := 38) ?hr ?_; (case hd => rfl); (case hg => rfl); (case hr => first | (go_simp; done) | (go_simp; rfl)); intro gb294 hg w5 hbox hb; have n0_ := am (blk_below (g := gb293) (o := .cells #[.string a0_0, .string a0_1, .int .i64 a0_2] 42 (0, 0)) zq50 hb); have n1_ := am (below_step zq55 hb); have n2_ := am (hbox); have n3_ := am ((by rw [hg]; exact (below_size zq55) : w.heap.size ≤ gb294)); have n4_ := am ((by rw [hg]; exact (below_size zq55) : w.heap.size ≤ gb294)); have n5_ := am ((zq197 : gb293 ≠ gb294)); have n6_ := am ((zq198 : gb294 ≠ gb293)); clear BK293; clear HB; have BK293 := n0_; have HB := n1_; have BK294 := n2_; have GW294 := n3_; have GE294 := n4_; have NB293_294 := n5_; have NB294_293 := n6_; clear n0_ n1_ n2_ n3_ n4_ n5_ n6_; clear hb hbox hg) | ((with_reducible refine gate_dst (N := 4) rfl ?_); refine box_event ?hg (N := 4) ?hd (cs := #[.string ⟨#[]⟩, .string ⟨#[]⟩, .int .i64 0]) (t := 42) ?hr ?_; (case hd => rfl); (case hg => rfl); (case hr => first | (go_simp; done) | (go_simp; rfl)); intro gb295 hg w6 hbox hb; have n0_ := am (blk_below (g := gb293) (o := .cells #[.string a0_0, .string a0_1, .int .i64 a0_2] 42 (0, 0)) zq50 hb); have n1_ := am (blk_below (g := gb294) (o := .cells #[.string a1_0, .string a1_1] 38 (0, 0)) zq51 hb); have n2_ := am (below_step zq54 hb); have n3_ := am (hbox); have n4_ := am ((by rw [hg]; exact (below_size zq54) : w.heap.size ≤ gb295)); have n5_ := am ((by rw [hg]; exact (below_size zq54) : w.heap.size ≤ gb295)); have n6_ := am ((zq197 : gb293 ≠ gb295)); have n7_ := am ((zq198 : gb295 ≠ gb293)); have n8_ := am ((by rw [hg]; exact Nat.ne_of_lt (blk_lt (g := gb294) (o := .cells #[.string a1_0, .string a1_1] 38 (0, 0)) zq51) : gb294 ≠ gb295)); have n9_ := am ((by rw [hg]; exact Nat.ne_of_gt (blk_lt (g := gb294) (o := .cells #[.string a1_0, .string a1_1] 38 (0, 0)) zq51) : gb295 ≠ gb294)); clear BK293; clear BK294; clear HB; have BK293 := n0_; have BK294 := n1_; have HB := n2_; have BK295 := n3_; have GW295 := n4_; have GE295 := n5_; have NB293_295 := n6_; have NB295_293 := n7_; have NB294_295 := n8_; have NB295_294 := n9_; clear n0_ n1_ n2_ n3_ n4_ n5_ n6_ n7_ n8_ n9_; clear hb hbox hg))
 (try simp only [Act.put, List.setIfInBounds_toArray, List.set_cons_zero, List.set_cons_succ])
 go_cut [13] (fun v13 wc => ∃ (kq : Nat) (x13_2 : Bool), v13 = .bool x13_2 ∧ Aside0 (spec_AppendRecord.j0 kq x13_2 a0_0 a0_1 a0_2 a1_0 a1_1 = some (r1, r2, r3, r4)) ∧ Aside0 (kq ≤ k) ∧ Aside0 (wc.heap[gb293]? = some (.cells #[.string a0_0, .string a0_1, .int .i64 a0_2] 42 (0, 0))) ∧ Aside0 (wc.heap[gb294]? = some (.cells #[.string a1_0, .string a1_1] 38 (0, 0))) ∧ Aside0 (wc.heap[gb295]? = some (.cells #[.string ⟨#[]⟩, .string ⟨#[]⟩, .int .i64 0] 42 (0, 0))) ∧ Aside0 (Below w.heap.size w wc))
 case first =>
  have H := HC3.out
  clear HC3
  replace H := bem H
  obtain ⟨t296, A70, H⟩ := H
  replace H : (if t296 = true then ((spec_l12Record.f k a1_0 a1_1).bind fun t297 => (spec_AppendRecord.j0 k (!t297) a0_0 a0_1 a0_2 a1_0 a1_1)) else (spec_AppendRecord.j0 k true a0_0 a0_1 a0_2 a1_0 a1_1)) = some (r1, r2, r3, r4) := H
  have A7 := am A70
  clear A70
  by_cases c8 : t296 = true
  ·subst c8
   have H1 : ((spec_l12Record.f k a1_0 a1_1).bind fun t297 => (spec_AppendRecord.j0 k (!t297) a0_0 a0_1 a0_2 a1_0 a1_1)) = some (r1, r2, r3, r4) := by rw [if_pos rfl] at H; exact H
   clear H
   have H := H1
   clear H1
   replace H := bem H
   obtain ⟨t297, A90, H⟩ := H
   replace H : (spec_AppendRecord.j0 k (!t297) a0_0 a0_1 a0_2 a1_0 a1_1) = some (r1, r2, r3, r4) := H
   have A9 := am A90
   clear A90
   have H' := am H
   clear H
   have hnb10 := NB293_294.out
   have hnc10 := NB294_293.out
   have hnb11 := NB293_295.out
   have hnc11 := NB295_293.out
   have hcz12_0 : w6.cell? ⟨gb293, 0, none⟩ = some (.string a0_0) := (blk_cell BK293.out 0).trans rfl
   have hcz12_1 : w6.cell? ⟨gb293, 1, none⟩ = some (.string a0_1) := (blk_cell BK293.out 1).trans rfl
   have hcz12_2 : w6.cell? ⟨gb293, 2, none⟩ = some (.int .i64 a0_2) := (blk_cell BK293.out 2).trans rfl
   have hfz12_0 := blk_frozen BK293.out 0
   have hfz12_1 := blk_frozen BK293.out 1
   have hfz12_2 := blk_frozen BK293.out 2
   go_wp2_with (first | ((with_reducible refine gate_callee (f := 81) rfl ?_); refine goesL_ (some 7) rfl rfl Tryd.func81 zq21 rfl #[.agg #[.string a0_0, .string a0_1, .int .i64 a0_2]] rfl zq5 ?_; (with_reducible refine (spec_l12Valid.calls k a0_0 a0_1 a0_2 true _ A7.out).mono ?_); rintro e w13 ⟨rfl, hb⟩; refine ⟨_, rfl, ?_⟩; have n0_ := am (blk_below (g := gb293) (o := .cells #[.string a0_0, .string a0_1, .int .i64 a0_2] 42 (0, 0)) zq50 hb); have n1_ := am (blk_below (g := gb294) (o := .cells #[.string a1_0, .string a1_1] 38 (0, 0)) zq51 hb); have n2_ := am (blk_below (g := gb295) (o := .cells #[.string ⟨#[]⟩, .string ⟨#[]⟩, .int .i64 0] 42 (0, 0)) zq53 hb); have n3_ := am (below_step zq49 hb); clear BK293; clear BK294; clear BK295; clear HB; have BK293 := n0_; have BK294 := n1_; have BK295 := n2_; have HB := n3_; clear n0_ n1_ n2_ n3_; (try clear hb); (try clear hb2); (try clear hk); (try clear hi); have hnb14 := NB294_295.out; have hnc14 := NB295_294.out; have hcz15_0 : w13.cell? ⟨gb294, 0, none⟩ = some (.string a1_0) := (blk_cell BK294.out 0).trans rfl; have hcz15_1 : w13.cell? ⟨gb294, 1, none⟩ = some (.string a1_1) := (blk_cell BK294.out 1).trans rfl; have hfz15_0 := blk_frozen BK294.out 0; have hfz15_1 := blk_frozen BK294.out 1) | (go_at_call 75; (with_reducible refine (spec_l12Record.calls k a1_0 a1_1 t297 _ A9.out).mono ?_); rintro e w16 ⟨rfl, hb⟩; have n0_ := am (blk_below (g := gb293) (o := .cells #[.string a0_0, .string a0_1, .int .i64 a0_2] 42 (0, 0)) zq50 hb); have n1_ := am (blk_below (g := gb294) (o := .cells #[.string a1_0, .string a1_1] 38 (0, 0)) zq51 hb); have n2_ := am (blk_below (g := gb295) (o := .cells #[.string ⟨#[]⟩, .string ⟨#[]⟩, .int .i64 0] 42 (0, 0)) zq53 hb); have n3_ := am (below_step zq49 hb); clear BK293; clear BK294; clear BK295; clear HB; have BK293 := n0_; have BK294 := n1_; have BK295 := n2_; have HB := n3_; clear n0_ n1_ n2_ n3_; (try clear hb); (try clear hb2); (try clear hk); (try clear hi)))
   go_meet
   case rel => exact ⟨_, (!t297), zq1, H', ⟨zq172⟩, ⟨zq50⟩, ⟨zq51⟩, ⟨zq53⟩, ⟨zq49⟩⟩
  ·replace c8 := Bool.eq_false_iff.mpr c8
   subst c8
   have H1 : (spec_AppendRecord.j0 k true a0_0 a0_1 a0_2 a1_0 a1_1) = some (r1, r2, r3, r4) := by rw [if_neg (show ¬ (false = true) by decide)] at H; exact H
   clear H
   have H := H1
   clear H1
   have H' := am H
   clear H
   have hnb17 := NB293_294.out
   have hnc17 := NB294_293.out
   have hnb18 := NB293_295.out
   have hnc18 := NB295_293.out
   have hcz19_0 : w6.cell? ⟨gb293, 0, none⟩ = some (.string a0_0) := (blk_cell BK293.out 0).trans rfl
   have hcz19_1 : w6.cell? ⟨gb293, 1, none⟩ = some (.string a0_1) := (blk_cell BK293.out 1).trans rfl
   have hcz19_2 : w6.cell? ⟨gb293, 2, none⟩ = some (.int .i64 a0_2) := (blk_cell BK293.out 2).trans rfl
   have hfz19_0 := blk_frozen BK293.out 0
   have hfz19_1 := blk_frozen BK293.out 1
   have hfz19_2 := blk_frozen BK293.out 2
   go_wp2_with (first | ((with_reducible refine gate_callee (f := 81) rfl ?_); refine goesL_ (some 7) rfl rfl Tryd.func81 zq21 rfl #[.agg #[.string a0_0, .string a0_1, .int .i64 a0_2]] rfl zq5 ?_; (with_reducible refine (spec_l12Valid.calls k a0_0 a0_1 a0_2 false _ A7.out).mono ?_); rintro e w20 ⟨rfl, hb⟩; refine ⟨_, rfl, ?_⟩; have n0_ := am (blk_below (g := gb293) (o := .cells #[.string a0_0, .string a0_1, .int .i64 a0_2] 42 (0, 0)) zq50 hb); have n1_ := am (blk_below (g := gb294) (o := .cells #[.string a1_0, .string a1_1] 38 (0, 0)) zq51 hb); have n2_ := am (blk_below (g := gb295) (o := .cells #[.string ⟨#[]⟩, .string ⟨#[]⟩, .int .i64 0] 42 (0, 0)) zq53 hb); have n3_ := am (below_step zq49 hb); clear BK293; clear BK294; clear BK295; clear HB; have BK293 := n0_; have BK294 := n1_; have BK295 := n2_; have HB := n3_; clear n0_ n1_ n2_ n3_; (try clear hb); (try clear hb2); (try clear hk); (try clear hi)))
   go_meet
   case rel => exact ⟨_, (true), zq1, H', ⟨zq172⟩, ⟨zq50⟩, ⟨zq51⟩, ⟨zq53⟩, ⟨zq49⟩⟩
 case rest =>
  clear HC3
  try clear c1
  try clear p2
  try clear c3
  try clear c8
  try clear c10
  try clear c11
  try clear c14
  try clear c17
  try clear c18
  try clear hcz12_0
  try clear hcz12_1
  try clear hcz12_2
  try clear hcz15_0
  try clear hcz15_1
  try clear hcz19_0
  try clear hcz19_1
  try clear hcz19_2
  try clear hfz12_0
  try clear hfz12_1
  try clear hfz12_2
  try clear hfz15_0
  try clear hfz15_1
  try clear hfz19_0
  try clear hfz19_1
  try clear hfz19_2
  obtain ⟨kq, x13_2, rfl, HA, HJ2, BK293, BK294, BK295, HB⟩ := hcut
  cases kq with
  | zero => exact absurd HA.out (by simp [spec_AppendRecord.j0])
  | succ kj2 =>
   have H := HA.out
   clear HA
   simp only [spec_AppendRecord.j0] at H
   by_cases c21 : x13_2 = true
   ·subst c21
    have H1 : (some (a0_0, a0_1, a0_2, 1)) = some (r1, r2, r3, r4) := by rw [if_pos rfl] at H; exact H
    clear H
    have H := H1
    clear H1
    simp only [Option.some.injEq, Prod.mk.injEq] at H
    obtain ⟨rfl, rfl, rfl, rfl⟩ := H
    have hnb22 := NB293_294.out
    have hnc22 := NB294_293.out
    have hnb23 := NB293_295.out
    have hnc23 := NB295_293.out
    have hcz24_0 : wc.cell? ⟨gb293, 0, none⟩ = some (.string a0_0) := (blk_cell BK293.out 0).trans rfl
    have hcz24_1 : wc.cell? ⟨gb293, 1, none⟩ = some (.string a0_1) := (blk_cell BK293.out 1).trans rfl
    have hcz24_2 : wc.cell? ⟨gb293, 2, none⟩ = some (.int .i64 a0_2) := (blk_cell BK293.out 2).trans rfl
    have hfz24_0 := blk_frozen BK293.out 0
    have hfz24_1 := blk_frozen BK293.out 1
    have hfz24_2 := blk_frozen BK293.out 2
    have hnb25 := NB295_294.out
    have hnc25 := NB294_295.out
    have hcz26_0 : wc.cell? ⟨gb295, 0, none⟩ = some (.string ⟨#[]⟩) := (blk_cell BK295.out 0).trans rfl
    have hcz26_1 : wc.cell? ⟨gb295, 1, none⟩ = some (.string ⟨#[]⟩) := (blk_cell BK295.out 1).trans rfl
    have hcz26_2 : wc.cell? ⟨gb295, 2, none⟩ = some (.int .i64 0) := (blk_cell BK295.out 2).trans rfl
    have hfz26_0 := blk_frozen BK295.out 0
    have hfz26_1 := blk_frozen BK295.out 1
    have hfz26_2 := blk_frozen BK295.out 2
    go_wp2
    refine bodyPost_ret (results_ct rfl _ _ gb295 42 #[.string a0_0, .string a0_1, .int .i64 a0_2] (0, 0) _ rfl zq52 Tryd.underlying42 rfl zq21) rfl ?_
    exact ⟨zq7, zq49⟩
   ·replace c21 := Bool.eq_false_iff.mpr c21
    subst c21
    have H1 : (if a0_2 = 60 then (some (a0_0, a0_1, a0_2, 2)) else ((spec_l12Line.f kj2 a0_2 a1_0 a1_1).bind fun t298 => (if a0_1.size + t298.size ≤ 9223372036854775807 then (some (a0_0, a0_1 ++ t298, wrap64 (a0_2 + 1), 0)) else (none)))) = some (r1, r2, r3, r4) := by rw [if_neg (show ¬ (false = true) by decide)] at H; exact H
    clear H
    have H := H1
    clear H1
    by_cases c27 : a0_2 = 60
    ·rw [if_pos c27] at H
     have c27b0 : (a0_2 == 60) = true := beq_iff_eq.mpr c27
     have c27b1 : (a0_2 != 60) = false := bne_eq_false_iff_eq.mpr c27
     clear c27
     simp only [Option.some.injEq, Prod.mk.injEq] at H
     obtain ⟨rfl, rfl, rfl, rfl⟩ := H
     have hnb28 := NB293_294.out
     have hnc28 := NB294_293.out
     have hnb29 := NB293_295.out
     have hnc29 := NB295_293.out
     have hcz30_0 : wc.cell? ⟨gb293, 0, none⟩ = some (.string a0_0) := (blk_cell BK293.out 0).trans rfl
     have hcz30_1 : wc.cell? ⟨gb293, 1, none⟩ = some (.string a0_1) := (blk_cell BK293.out 1).trans rfl
     have hcz30_2 : wc.cell? ⟨gb293, 2, none⟩ = some (.int .i64 a0_2) := (blk_cell BK293.out 2).trans rfl
     have hfz30_0 := blk_frozen BK293.out 0
     have hfz30_1 := blk_frozen BK293.out 1
     have hfz30_2 := blk_frozen BK293.out 2
     have hnb31 := NB295_294.out
     have hnc31 := NB294_295.out
     have hcz32_0 : wc.cell? ⟨gb295, 0, none⟩ = some (.string ⟨#[]⟩) := (blk_cell BK295.out 0).trans rfl
     have hcz32_1 : wc.cell? ⟨gb295, 1, none⟩ = some (.string ⟨#[]⟩) := (blk_cell BK295.out 1).trans rfl
     have hcz32_2 : wc.cell? ⟨gb295, 2, none⟩ = some (.int .i64 0) := (blk_cell BK295.out 2).trans rfl
     have hfz32_0 := blk_frozen BK295.out 0
     have hfz32_1 := blk_frozen BK295.out 1
     have hfz32_2 := blk_frozen BK295.out 2
     go_wp2
     refine bodyPost_ret (results_ct rfl _ _ gb295 42 #[.string a0_0, .string a0_1, .int .i64 a0_2] (0, 0) _ rfl zq52 Tryd.underlying42 rfl zq21) rfl ?_
     exact ⟨zq7, zq49⟩
    ·rw [if_neg c27] at H
     have c27b0 : (a0_2 == 60) = false := beq_eq_false_iff_ne.mpr c27
     have c27b1 : (a0_2 != 60) = true := bne_iff_ne.mpr c27
     replace H := bem H
     obtain ⟨t298, A330, H⟩ := H
     replace H : (if a0_1.size + t298.size ≤ 9223372036854775807 then (some (a0_0, a0_1 ++ t298, wrap64 (a0_2 + 1), 0)) else (none)) = some (r1, r2, r3, r4) := H
     have A33 := am A330
     clear A330
     by_cases c34 : a0_1.size + t298.size ≤ 9223372036854775807
     ·rw [if_pos c34] at H
      have c34b0 := eq_true c34
      have c34b1 : decide (a0_1.size + t298.size ≤ 9223372036854775807) = true := decide_eq_true c34
      try have c34b2 : (9223372036854775807 < a0_1.size + t298.size) = False := eq_false (Nat.not_lt.2 c34)
      simp only [Option.some.injEq, Prod.mk.injEq] at H
      obtain ⟨rfl, rfl, rfl, rfl⟩ := H
      have hnb35 := NB293_294.out
      have hnc35 := NB294_293.out
      have hnb36 := NB293_295.out
      have hnc36 := NB295_293.out
      have hcz37_0 : wc.cell? ⟨gb293, 0, none⟩ = some (.string a0_0) := (blk_cell BK293.out 0).trans rfl
      have hcz37_1 : wc.cell? ⟨gb293, 1, none⟩ = some (.string a0_1) := (blk_cell BK293.out 1).trans rfl
      have hcz37_2 : wc.cell? ⟨gb293, 2, none⟩ = some (.int .i64 a0_2) := (blk_cell BK293.out 2).trans rfl
      have hfz37_0 := blk_frozen BK293.out 0
      have hfz37_1 := blk_frozen BK293.out 1
      have hfz37_2 := blk_frozen BK293.out 2
      try go_wp2
      have n0_ := am (blk_drew BK293.out)
      have n1_ := am (blk_drew BK294.out)
      have n2_ := am (blk_drew BK295.out)
      have n3_ := am (below_drew1 HB.out)
      clear BK293
      clear BK294
      clear BK295
      clear HB
      have BK293 := n0_
      have BK294 := n1_
      have BK295 := n2_
      have HB := n3_
      clear n0_ n1_ n2_ n3_
      refine start_ (n := 9) (S := fun w' => w'.cell? ⟨gb293, 0, none⟩ = some (.string a0_0) ∧ w'.cell? ⟨gb293, 1, none⟩ = some (.string a0_1) ∧ w'.cell? ⟨gb293, 2, none⟩ = some (.int .i64 a0_2) ∧ w'.cell? ⟨gb294, 0, none⟩ = some (.string a1_0) ∧ w'.cell? ⟨gb294, 1, none⟩ = some (.string a1_1)) (ds := [8]) #[false, false, false, false, false, false, false, false, false] zq21 rfl rfl ⟨(blk_cell BK293.out 0).trans rfl, (blk_cell BK293.out 1).trans rfl, (blk_cell BK293.out 2).trans rfl, (blk_cell BK294.out 0).trans rfl, (blk_cell BK294.out 1).trans rfl⟩ (fun hHeld => ?_); refine with_tabW spec_AppendRecord.tab5 spec_AppendRecord.bits5 (fun HT_ HW_ => ?_)
      generalize wc.drew = w38 at BK293 BK294 BK295 HB hHeld ⊢
      refine pure_ (i := 0) (N := some 19) (v := ?_) (a' := ?_) #[true, false, false, false, false, false, false, false, false] rfl rfl (any_of HT_.out zq21) (fun _ _ _ h => h) (Or.inl ⟨by rfl, ?_⟩) ?_ ?_
      rotate_left
      ·intro w'
       go_simp
       with_reducible rfl
      rotate_left
      ·simp only [Act.put, List.setIfInBounds_toArray, List.set_cons_zero, List.set_cons_succ, i64_w, i32_w]
       rfl
      refine pure_ (i := 2) (N := some 21) (v := ?_) (a' := ?_) #[true, false, true, false, false, false, false, false, false] rfl rfl (any_of HT_.out zq21) (fun _ _ _ h => h) (Or.inl ⟨by rfl, ?_⟩) ?_ ?_
      rotate_left
      ·intro w'
       go_simp
       with_reducible rfl
      rotate_left
      ·simp only [Act.put, List.setIfInBounds_toArray, List.set_cons_zero, List.set_cons_succ, i64_w, i32_w]
       rfl
      refine take_ (i := 1) (N := some 20) (v := ?_) (a' := ?_) #[true, true, true, false, false, false, false, false, false] rfl rfl (take_ofW HT_.out HW_.out zq21) (fun _ _ _ h => h) (Or.inl ⟨by rfl, ?_⟩) hHeld ?_ ?_
      rotate_left
      ·rintro w' ⟨s0, s1, s2, s3, s4⟩
       go_simp
       with_reducible rfl
      rotate_left
      ·simp only [Act.put, List.setIfInBounds_toArray, List.set_cons_zero, List.set_cons_succ, i64_w, i32_w]
       rfl
      refine take_ (i := 3) (N := some 22) (v := ?_) (a' := ?_) #[true, true, true, true, false, false, false, false, false] rfl rfl (take_ofW HT_.out HW_.out zq21) (fun _ _ _ h => h) (Or.inl ⟨by rfl, ?_⟩) hHeld ?_ ?_
      rotate_left
      ·rintro w' ⟨s0, s1, s2, s3, s4⟩
       go_simp
       with_reducible rfl
      rotate_left
      ·simp only [Act.put, List.setIfInBounds_toArray, List.set_cons_zero, List.set_cons_succ, i64_w, i32_w]
       rfl
      refine take_ (i := 4) (N := some 23) (v := ?_) (a' := ?_) #[true, true, true, true, true, false, false, false, false] rfl rfl (take_ofW HT_.out HW_.out zq21) (fun _ _ _ h => h) (Or.inl ⟨by rfl, ?_⟩) hHeld ?_ ?_
      rotate_left
      ·rintro w' ⟨s0, s1, s2, s3, s4⟩
       go_simp
       with_reducible rfl
      rotate_left
      ·simp only [Act.put, List.setIfInBounds_toArray, List.set_cons_zero, List.set_cons_succ, i64_w, i32_w]
       rfl
      refine one_ (i := 5) (N := some 24) #[true, true, true, true, true, true, false, false, false] rfl rfl (one_of HT_.out zq21) zq173 (fun K hK => ?_)
      refine goes_ Tryd.func76 zq21 rfl #[.int .i64 a0_2, .agg #[.string a1_0, .string a1_1]] (by rfl) rfl rfl zq5 ?_
      with_reducible refine (spec_l12Line.calls kj2 a0_2 a1_0 a1_1 t298 _ A33.out).mono ?_
      rintro e w39 ⟨rfl, hb⟩
      refine ⟨_, rfl, ?_⟩
      have n0_ := am (blk_below (g := gb293) (o := .cells #[.string a0_0, .string a0_1, .int .i64 a0_2] 42 (0, 0)) zq50 hb)
      have n1_ := am (blk_below (g := gb294) (o := .cells #[.string a1_0, .string a1_1] 38 (0, 0)) zq51 hb)
      have n2_ := am (blk_below (g := gb295) (o := .cells #[.string ⟨#[]⟩, .string ⟨#[]⟩, .int .i64 0] 42 (0, 0)) zq53 hb)
      have n3_ := am (below_step zq49 hb)
      clear BK293
      clear BK294
      clear BK295
      clear HB
      have BK293 := n0_
      have BK294 := n1_
      have BK295 := n2_
      have HB := n3_
      clear n0_ n1_ n2_ n3_
      (try clear hb)
      (try clear hb2)
      (try clear hk)
      (try clear hi)
      refine hK.out _ _ ⟨(blk_cell BK293.out 0).trans rfl, (blk_cell BK293.out 1).trans rfl, (blk_cell BK293.out 2).trans rfl, (blk_cell BK294.out 0).trans rfl, (blk_cell BK294.out 1).trans rfl⟩ (fun hHeld => ?_)
      clear hK K
      refine norm_ (a' := ?_) ?_ ?_
      rotate_left
      ·show Act.put _ (some 24) _ = _
       simp only [Act.put, List.setIfInBounds_toArray, List.set_cons_zero, List.set_cons_succ, i64_w, i32_w]
       rfl
      refine pure_ (i := 6) (N := some 25) (v := ?_) (a' := ?_) #[true, true, true, true, true, true, true, false, false] rfl rfl (any_of HT_.out zq21) (fun _ _ _ h => h) (Or.inl ⟨by rfl, ?_⟩) ?_ ?_
      rotate_left
      ·intro w'
       go_simp
       with_reducible rfl
      rotate_left
      ·simp only [Act.put, List.setIfInBounds_toArray, List.set_cons_zero, List.set_cons_succ, i64_w, i32_w]
       rfl
      refine pure_ (i := 7) (N := some 26) (v := ?_) (a' := ?_) #[true, true, true, true, true, true, true, true, false] rfl rfl (any_of HT_.out zq21) (fun _ _ _ h => h) (Or.inl ⟨by rfl, ?_⟩) ?_ ?_
      rotate_left
      ·intro w'
       go_simp
       with_reducible rfl
      rotate_left
      ·simp only [Act.put, List.setIfInBounds_toArray, List.set_cons_zero, List.set_cons_succ, i64_w, i32_w]
       rfl
      refine last_ (i := 8) (N := none) #[true, true, true, true, true, true, true, true, true] rfl rfl (one_of HT_.out zq21) zq173 (fun K hK => ?_)
      have hs40 : w39.cell? ⟨gb293, 1, none⟩ = some (.string a0_1) := (blk_cell BK293.out 1).trans rfl
      have hfs40 := blk_frozen BK293.out 1
      have hns40_1 := NB294_293.out
      have hns40_2 := NB295_293.out
      have hms40_1 := NB293_294.out
      have hms40_2 := NB293_295.out
      refine skip_ (w1 := ?_) (by rfl) rfl ?_ ?_
      rotate_left
      ·go_simp
       rfl
      refine hK.out _ _ ?_
      clear hK K
      refine done_ (done_of HT_.out zq21) ?_
      have hcz41_0 : w39.cell? ⟨gb293, 0, none⟩ = some (.string a0_0) := (blk_cell BK293.out 0).trans rfl
      have hcz41_1 : w39.cell? ⟨gb293, 1, none⟩ = some (.string a0_1) := (blk_cell BK293.out 1).trans rfl
      have hcz41_2 : w39.cell? ⟨gb293, 2, none⟩ = some (.int .i64 a0_2) := (blk_cell BK293.out 2).trans rfl
      have hfz41_0 := blk_frozen BK293.out 0
      have hfz41_1 := blk_frozen BK293.out 1
      have hfz41_2 := blk_frozen BK293.out 2
      have hnb42 := NB295_294.out
      have hnc42 := NB294_295.out
      have hcz43_0 : w39.cell? ⟨gb295, 0, none⟩ = some (.string ⟨#[]⟩) := (blk_cell BK295.out 0).trans rfl
      have hcz43_1 : w39.cell? ⟨gb295, 1, none⟩ = some (.string ⟨#[]⟩) := (blk_cell BK295.out 1).trans rfl
      have hcz43_2 : w39.cell? ⟨gb295, 2, none⟩ = some (.int .i64 0) := (blk_cell BK295.out 2).trans rfl
      have hfz43_0 := blk_frozen BK295.out 0
      have hfz43_1 := blk_frozen BK295.out 1
      have hfz43_2 := blk_frozen BK295.out 2
      try go_wp2
      refine bodyPost_ret (results_ct rfl _ _ gb295 42 #[.string a0_0, .string (a0_1 ++ t298), .int .i64 (wrap64 (a0_2 + 1))] (0, 0) _ rfl (by (with_reducible repeat (first | refine blk_drewN ?_ _ | refine blk_drew ?_ | refine blk_alloc ?_ _)); refine blk_put (cs := #[.string a0_0, .string (a0_1 ++ t298), .int .i64 0]) ?_ 2 _ rfl; (with_reducible repeat (first | refine blk_drewN ?_ _ | refine blk_drew ?_ | refine blk_alloc ?_ _)); refine blk_put (cs := #[.string a0_0, .string ⟨#[]⟩, .int .i64 0]) ?_ 1 _ rfl; (with_reducible repeat (first | refine blk_drewN ?_ _ | refine blk_drew ?_ | refine blk_alloc ?_ _)); refine blk_put (cs := #[.string ⟨#[]⟩, .string ⟨#[]⟩, .int .i64 0]) ?_ 0 _ rfl; (with_reducible repeat (first | refine blk_drewN ?_ _ | refine blk_drew ?_ | refine blk_alloc ?_ _)); refine blk_far ?_ NB295_293.out _; (with_reducible repeat (first | refine blk_drewN ?_ _ | refine blk_drew ?_ | refine blk_alloc ?_ _)); refine blk_far ?_ NB295_293.out _; (with_reducible repeat (first | refine blk_drewN ?_ _ | refine blk_drew ?_ | refine blk_alloc ?_ _)); exact BK295.out) Tryd.underlying42 rfl zq21) rfl ?_
      exact ⟨zq7, zq49⟩
     ·rw [if_neg c34] at H
      exact absurd H zq176
def impl_AppendRecord.j0 : Nat → Bool → ByteArray → ByteArray → Int → ByteArray → ByteArray → Option (ByteArray × ByteArray × Int × Int)
 | 0, _, _, _, _, _, _ => none
 | k + 1, x8, x300000, x300001, x300002, x301000, x301001 => if x8 = true then (some (x300000, x300001, x300002, 1)) else (if x300002 = 60 then (some (x300000, x300001, x300002, 2)) else ((impl_EncodeRecord.f k x300002 x301000 x301001).bind fun bt304 => (if x300001.size + bt304.1.size ≤ 9223372036854775807 then (some (x300000, x300001 ++ bt304.1, wrap64 (x300002 + 1), 0)) else (none))))
def impl_AppendRecord.f (k : Nat) (a0_0 : ByteArray) (a0_1 : ByteArray) (a0_2 : Int) (a1_0 : ByteArray) (a1_1 : ByteArray) : Option (ByteArray × ByteArray × Int × Int) := (impl_IsValidLog.f k a0_0 a0_1 a0_2).bind fun t302 => (if t302 = true then ((impl_IsValidRecord.f k a1_0 a1_1).bind fun t303 => (impl_AppendRecord.j0 k (!t303) a0_0 a0_1 a0_2 a1_0 a1_1)) else (impl_AppendRecord.j0 k true a0_0 a0_1 a0_2 a1_0 a1_1))
set_option maxHeartbeats 8000000 in
set_option maxRecDepth 100000 in
theorem impl_AppendRecord.calls (k : Nat) (a0_0 : ByteArray) (a0_1 : ByteArray) (a0_2 : Int) (a1_0 : ByteArray) (a1_1 : ByteArray) (r1 : ByteArray) (r2 : ByteArray) (r3 : Int) (r4 : Int) (w : World) (hgl : Glob w) (h : impl_AppendRecord.f k a0_0 a0_1 a0_2 a1_0 a1_1 = some (r1, r2, r3, r4)) :
  Calls Tryd.prog 39 #[.agg #[.string a0_0, .string a0_1, .int .i64 a0_2], .agg #[.string a1_0, .string a1_1]] w fun e w' => e = .returned (.tuple #[.agg #[.string r1, .string r2, .int .i64 r3], .int .i64 r4]) ∧ Below w.heap.size w w' := by
 have hu42 := Tryd.underlying42
 have hu38 := Tryd.underlying38
 have HB := am (Below.refl w.heap.size w)
 have HGL := am hgl
 clear hgl
 have H : ((impl_IsValidLog.f k a0_0 a0_1 a0_2).bind fun t302 => (if t302 = true then ((impl_IsValidRecord.f k a1_0 a1_1).bind fun t303 => (impl_AppendRecord.j0 k (!t303) a0_0 a0_1 a0_2 a1_0 a1_1)) else (impl_AppendRecord.j0 k true a0_0 a0_1 a0_2 a1_0 a1_1))) = some (r1, r2, r3, r4) := h
 clear h
 have HC3 := am H
 clear H
 go_enter Tryd.func39, Tryd.ntmps39
 go_upto_region 1 with (first | ((with_reducible refine gate_dst (N := 2) rfl ?_); refine box_event ?hg (N := 2) ?hd (cs := #[.string a0_0, .string a0_1, .int .i64 a0_2]) (t := 42) ?hr ?_; (case hd => rfl); (case hg => rfl); (case hr => first | (go_simp; done) | (go_simp; rfl)); intro gb299 hg w4 hbox hb; have n0_ := am (below_step zq0 hb); have n1_ := am (hbox); have n2_ := am ((zq8 : w.heap.size ≤ gb299)); have n3_ := am ((zq8 : w.heap.size ≤ gb299)); clear HB; have HB := n0_; have BK299 := n1_; have GW299 := n2_; have GE299 := n3_; clear n0_ n1_ n2_ n3_; clear hb hbox hg) | ((with_reducible refine gate_dst (N := 3) rfl ?_); refine box_event ?hg (N := 3) ?hd (cs := #[.string a1_0, .string a1_1]) (t := 38) ?hr ?_; (case hd => rfl); (case hg => rfl); (case hr => first | (go_simp; done) | (go_simp; rfl)); intro gb300 hg w5 hbox hb; have n0_ := am (blk_below (g := gb299) (o := .cells #[.string a0_0, .string a0_1, .int .i64 a0_2] 42 (0, 0)) zq57 hb); have n1_ := am (below_step zq64 hb); have n2_ := am (hbox); have n3_ := am ((by rw [hg]; exact (below_size zq64) : w.heap.size ≤ gb300)); have n4_ := am ((by rw [hg]; exact (below_size zq64) : w.heap.size ≤ gb300)); have n5_ := am ((zq199 : gb299 ≠ gb300)); have n6_ := am ((zq200 : gb300 ≠ gb299)); clear BK299; clear HB; have BK299 := n0_; have HB := n1_; have BK300 := n2_; have GW300 := n3_; have GE300 := n4_; have NB299_300 := n5_; have NB300_299 := n6_; clear n0_ n1_ n2_ n3_ n4_ n5_ n6_; clear hb hbox hg) | ((with_reducible refine gate_dst (N := 4) rfl ?_); refine box_event ?hg (N := 4) ?hd (cs := #[.string ⟨#[]⟩, .string ⟨#[]⟩, .int .i64 0]) (t := 42) ?hr ?_; (case hd => rfl); (case hg => rfl); (case hr => first | (go_simp; done) | (go_simp; rfl)); intro gb301 hg w6 hbox hb; have n0_ := am (blk_below (g := gb299) (o := .cells #[.string a0_0, .string a0_1, .int .i64 a0_2] 42 (0, 0)) zq57 hb); have n1_ := am (blk_below (g := gb300) (o := .cells #[.string a1_0, .string a1_1] 38 (0, 0)) zq59 hb); have n2_ := am (below_step zq62 hb); have n3_ := am (hbox); have n4_ := am ((by rw [hg]; exact (below_size zq62) : w.heap.size ≤ gb301)); have n5_ := am ((by rw [hg]; exact (below_size zq62) : w.heap.size ≤ gb301)); have n6_ := am ((zq199 : gb299 ≠ gb301)); have n7_ := am ((zq200 : gb301 ≠ gb299)); have n8_ := am ((by rw [hg]; exact Nat.ne_of_lt (blk_lt (g := gb300) (o := .cells #[.string a1_0, .string a1_1] 38 (0, 0)) zq59) : gb300 ≠ gb301)); have n9_ := am ((by rw [hg]; exact Nat.ne_of_gt (blk_lt (g := gb300) (o := .cells #[.string a1_0, .string a1_1] 38 (0, 0)) zq59) : gb301 ≠ gb300)); clear BK299; clear BK300; clear HB; have BK299 := n0_; have BK300 := n1_; have HB := n2_; have BK301 := n3_; have GW301 := n4_; have GE301 := n5_; have NB299_301 := n6_; have NB301_299 := n7_; have NB300_301 := n8_; have NB301_300 := n9_; clear n0_ n1_ n2_ n3_ n4_ n5_ n6_ n7_ n8_ n9_; clear hb hbox hg))
 (try simp only [Act.put, List.setIfInBounds_toArray, List.set_cons_zero, List.set_cons_succ])
 go_cut [8] (fun v8 wc => ∃ (kq : Nat) (x8_2 : Bool), v8 = .bool x8_2 ∧ Aside0 (impl_AppendRecord.j0 kq x8_2 a0_0 a0_1 a0_2 a1_0 a1_1 = some (r1, r2, r3, r4)) ∧ Aside0 (kq ≤ k) ∧ Aside0 (wc.heap[gb299]? = some (.cells #[.string a0_0, .string a0_1, .int .i64 a0_2] 42 (0, 0))) ∧ Aside0 (wc.heap[gb300]? = some (.cells #[.string a1_0, .string a1_1] 38 (0, 0))) ∧ Aside0 (wc.heap[gb301]? = some (.cells #[.string ⟨#[]⟩, .string ⟨#[]⟩, .int .i64 0] 42 (0, 0))) ∧ Aside0 (Below w.heap.size w wc))
 case first =>
  have H := HC3.out
  clear HC3
  replace H := bem H
  obtain ⟨t302, A70, H⟩ := H
  replace H : (if t302 = true then ((impl_IsValidRecord.f k a1_0 a1_1).bind fun t303 => (impl_AppendRecord.j0 k (!t303) a0_0 a0_1 a0_2 a1_0 a1_1)) else (impl_AppendRecord.j0 k true a0_0 a0_1 a0_2 a1_0 a1_1)) = some (r1, r2, r3, r4) := H
  have A7 := am A70
  clear A70
  by_cases c8 : t302 = true
  ·subst c8
   have H1 : ((impl_IsValidRecord.f k a1_0 a1_1).bind fun t303 => (impl_AppendRecord.j0 k (!t303) a0_0 a0_1 a0_2 a1_0 a1_1)) = some (r1, r2, r3, r4) := by rw [if_pos rfl] at H; exact H
   clear H
   have H := H1
   clear H1
   replace H := bem H
   obtain ⟨t303, A90, H⟩ := H
   replace H : (impl_AppendRecord.j0 k (!t303) a0_0 a0_1 a0_2 a1_0 a1_1) = some (r1, r2, r3, r4) := H
   have A9 := am A90
   clear A90
   have H' := am H
   clear H
   have hnb10 := NB299_300.out
   have hnc10 := NB300_299.out
   have hnb11 := NB299_301.out
   have hnc11 := NB301_299.out
   have hcz12_0 : w6.cell? ⟨gb299, 0, none⟩ = some (.string a0_0) := (blk_cell BK299.out 0).trans rfl
   have hcz12_1 : w6.cell? ⟨gb299, 1, none⟩ = some (.string a0_1) := (blk_cell BK299.out 1).trans rfl
   have hcz12_2 : w6.cell? ⟨gb299, 2, none⟩ = some (.int .i64 a0_2) := (blk_cell BK299.out 2).trans rfl
   have hfz12_0 := blk_frozen BK299.out 0
   have hfz12_1 := blk_frozen BK299.out 1
   have hfz12_2 := blk_frozen BK299.out 2
   go_wp2_with (first | ((with_reducible refine gate_callee (f := 33) rfl ?_); refine goesL_ (some 10) rfl rfl Tryd.func33 zq21 rfl #[.agg #[.string a0_0, .string a0_1, .int .i64 a0_2]] rfl zq5 ?_; (with_reducible refine (impl_IsValidLog.calls k a0_0 a0_1 a0_2 true _ ?side1 A7.out).mono ?_); (case side1 => exact Glob.below HGL.out zq56); rintro e w13 ⟨rfl, hb⟩; refine ⟨_, rfl, ?_⟩; have n0_ := am (blk_below (g := gb299) (o := .cells #[.string a0_0, .string a0_1, .int .i64 a0_2] 42 (0, 0)) zq57 hb); have n1_ := am (blk_below (g := gb300) (o := .cells #[.string a1_0, .string a1_1] 38 (0, 0)) zq59 hb); have n2_ := am (blk_below (g := gb301) (o := .cells #[.string ⟨#[]⟩, .string ⟨#[]⟩, .int .i64 0] 42 (0, 0)) zq61 hb); have n3_ := am (below_step zq56 hb); clear BK299; clear BK300; clear BK301; clear HB; have BK299 := n0_; have BK300 := n1_; have BK301 := n2_; have HB := n3_; clear n0_ n1_ n2_ n3_; (try clear hb); (try clear hb2); (try clear hk); (try clear hi); have hnb14 := NB300_301.out; have hnc14 := NB301_300.out; have hcz15_0 : w13.cell? ⟨gb300, 0, none⟩ = some (.string a1_0) := (blk_cell BK300.out 0).trans rfl; have hcz15_1 : w13.cell? ⟨gb300, 1, none⟩ = some (.string a1_1) := (blk_cell BK300.out 1).trans rfl; have hfz15_0 := blk_frozen BK300.out 0; have hfz15_1 := blk_frozen BK300.out 1) | (go_at_call 50; (with_reducible refine (impl_IsValidRecord.calls k a1_0 a1_1 t303 _ A9.out).mono ?_); rintro e w16 ⟨rfl, hb⟩; have n0_ := am (blk_below (g := gb299) (o := .cells #[.string a0_0, .string a0_1, .int .i64 a0_2] 42 (0, 0)) zq57 hb); have n1_ := am (blk_below (g := gb300) (o := .cells #[.string a1_0, .string a1_1] 38 (0, 0)) zq59 hb); have n2_ := am (blk_below (g := gb301) (o := .cells #[.string ⟨#[]⟩, .string ⟨#[]⟩, .int .i64 0] 42 (0, 0)) zq61 hb); have n3_ := am (below_step zq56 hb); clear BK299; clear BK300; clear BK301; clear HB; have BK299 := n0_; have BK300 := n1_; have BK301 := n2_; have HB := n3_; clear n0_ n1_ n2_ n3_; (try clear hb); (try clear hb2); (try clear hk); (try clear hi)))
   go_meet
   case rel => exact ⟨_, (!t303), zq1, H', ⟨zq172⟩, ⟨zq57⟩, ⟨zq59⟩, ⟨zq61⟩, ⟨zq56⟩⟩
  ·replace c8 := Bool.eq_false_iff.mpr c8
   subst c8
   have H1 : (impl_AppendRecord.j0 k true a0_0 a0_1 a0_2 a1_0 a1_1) = some (r1, r2, r3, r4) := by rw [if_neg (show ¬ (false = true) by decide)] at H; exact H
   clear H
   have H := H1
   clear H1
   have H' := am H
   clear H
   have hnb17 := NB299_300.out
   have hnc17 := NB300_299.out
   have hnb18 := NB299_301.out
   have hnc18 := NB301_299.out
   have hcz19_0 : w6.cell? ⟨gb299, 0, none⟩ = some (.string a0_0) := (blk_cell BK299.out 0).trans rfl
   have hcz19_1 : w6.cell? ⟨gb299, 1, none⟩ = some (.string a0_1) := (blk_cell BK299.out 1).trans rfl
   have hcz19_2 : w6.cell? ⟨gb299, 2, none⟩ = some (.int .i64 a0_2) := (blk_cell BK299.out 2).trans rfl
   have hfz19_0 := blk_frozen BK299.out 0
   have hfz19_1 := blk_frozen BK299.out 1
   have hfz19_2 := blk_frozen BK299.out 2
   go_wp2_with (first | ((with_reducible refine gate_callee (f := 33) rfl ?_); refine goesL_ (some 10) rfl rfl Tryd.func33 zq21 rfl #[.agg #[.string a0_0, .string a0_1, .int .i64 a0_2]] rfl zq5 ?_; (with_reducible refine (impl_IsValidLog.calls k a0_0 a0_1 a0_2 false _ ?side1 A7.out).mono ?_); (case side1 => exact Glob.below HGL.out zq56); rintro e w20 ⟨rfl, hb⟩; refine ⟨_, rfl, ?_⟩; have n0_ := am (blk_below (g := gb299) (o := .cells #[.string a0_0, .string a0_1, .int .i64 a0_2] 42 (0, 0)) zq57 hb); have n1_ := am (blk_below (g := gb300) (o := .cells #[.string a1_0, .string a1_1] 38 (0, 0)) zq59 hb); have n2_ := am (blk_below (g := gb301) (o := .cells #[.string ⟨#[]⟩, .string ⟨#[]⟩, .int .i64 0] 42 (0, 0)) zq61 hb); have n3_ := am (below_step zq56 hb); clear BK299; clear BK300; clear BK301; clear HB; have BK299 := n0_; have BK300 := n1_; have BK301 := n2_; have HB := n3_; clear n0_ n1_ n2_ n3_; (try clear hb); (try clear hb2); (try clear hk); (try clear hi)))
   go_meet
   case rel => exact ⟨_, (true), zq1, H', ⟨zq172⟩, ⟨zq57⟩, ⟨zq59⟩, ⟨zq61⟩, ⟨zq56⟩⟩
 case rest =>
  clear HC3
  try clear c1
  try clear p2
  try clear c3
  try clear c8
  try clear c10
  try clear c11
  try clear c14
  try clear c17
  try clear c18
  try clear hcz12_0
  try clear hcz12_1
  try clear hcz12_2
  try clear hcz15_0
  try clear hcz15_1
  try clear hcz19_0
  try clear hcz19_1
  try clear hcz19_2
  try clear hfz12_0
  try clear hfz12_1
  try clear hfz12_2
  try clear hfz15_0
  try clear hfz15_1
  try clear hfz19_0
  try clear hfz19_1
  try clear hfz19_2
  obtain ⟨kq, x8_2, rfl, HA, HJ2, BK299, BK300, BK301, HB⟩ := hcut
  cases kq with
  | zero => exact absurd HA.out (by simp [impl_AppendRecord.j0])
  | succ kj2 =>
   have H := HA.out
   clear HA
   simp only [impl_AppendRecord.j0] at H
   by_cases c21 : x8_2 = true
   ·subst c21
    have H1 : (some (a0_0, a0_1, a0_2, 1)) = some (r1, r2, r3, r4) := by rw [if_pos rfl] at H; exact H
    clear H
    have H := H1
    clear H1
    simp only [Option.some.injEq, Prod.mk.injEq] at H
    obtain ⟨rfl, rfl, rfl, rfl⟩ := H
    have hnb22 := NB299_300.out
    have hnc22 := NB300_299.out
    have hnb23 := NB299_301.out
    have hnc23 := NB301_299.out
    have hcz24_0 : wc.cell? ⟨gb299, 0, none⟩ = some (.string a0_0) := (blk_cell BK299.out 0).trans rfl
    have hcz24_1 : wc.cell? ⟨gb299, 1, none⟩ = some (.string a0_1) := (blk_cell BK299.out 1).trans rfl
    have hcz24_2 : wc.cell? ⟨gb299, 2, none⟩ = some (.int .i64 a0_2) := (blk_cell BK299.out 2).trans rfl
    have hfz24_0 := blk_frozen BK299.out 0
    have hfz24_1 := blk_frozen BK299.out 1
    have hfz24_2 := blk_frozen BK299.out 2
    have hnb25 := NB301_300.out
    have hnc25 := NB300_301.out
    have hcz26_0 : wc.cell? ⟨gb301, 0, none⟩ = some (.string ⟨#[]⟩) := (blk_cell BK301.out 0).trans rfl
    have hcz26_1 : wc.cell? ⟨gb301, 1, none⟩ = some (.string ⟨#[]⟩) := (blk_cell BK301.out 1).trans rfl
    have hcz26_2 : wc.cell? ⟨gb301, 2, none⟩ = some (.int .i64 0) := (blk_cell BK301.out 2).trans rfl
    have hfz26_0 := blk_frozen BK301.out 0
    have hfz26_1 := blk_frozen BK301.out 1
    have hfz26_2 := blk_frozen BK301.out 2
    go_wp2
    refine bodyPost_ret (results_ct rfl _ _ gb301 42 #[.string a0_0, .string a0_1, .int .i64 a0_2] (0, 0) _ rfl zq60 Tryd.underlying42 rfl zq21) rfl ?_
    exact ⟨zq7, zq56⟩
   ·replace c21 := Bool.eq_false_iff.mpr c21
    subst c21
    have H1 : (if a0_2 = 60 then (some (a0_0, a0_1, a0_2, 2)) else ((impl_EncodeRecord.f kj2 a0_2 a1_0 a1_1).bind fun bt304 => (if a0_1.size + bt304.1.size ≤ 9223372036854775807 then (some (a0_0, a0_1 ++ bt304.1, wrap64 (a0_2 + 1), 0)) else (none)))) = some (r1, r2, r3, r4) := by rw [if_neg (show ¬ (false = true) by decide)] at H; exact H
    clear H
    have H := H1
    clear H1
    by_cases c27 : a0_2 = 60
    ·rw [if_pos c27] at H
     have c27b0 : (a0_2 == 60) = true := beq_iff_eq.mpr c27
     have c27b1 : (a0_2 != 60) = false := bne_eq_false_iff_eq.mpr c27
     clear c27
     simp only [Option.some.injEq, Prod.mk.injEq] at H
     obtain ⟨rfl, rfl, rfl, rfl⟩ := H
     have hnb28 := NB299_300.out
     have hnc28 := NB300_299.out
     have hnb29 := NB299_301.out
     have hnc29 := NB301_299.out
     have hcz30_0 : wc.cell? ⟨gb299, 0, none⟩ = some (.string a0_0) := (blk_cell BK299.out 0).trans rfl
     have hcz30_1 : wc.cell? ⟨gb299, 1, none⟩ = some (.string a0_1) := (blk_cell BK299.out 1).trans rfl
     have hcz30_2 : wc.cell? ⟨gb299, 2, none⟩ = some (.int .i64 a0_2) := (blk_cell BK299.out 2).trans rfl
     have hfz30_0 := blk_frozen BK299.out 0
     have hfz30_1 := blk_frozen BK299.out 1
     have hfz30_2 := blk_frozen BK299.out 2
     have hnb31 := NB301_300.out
     have hnc31 := NB300_301.out
     have hcz32_0 : wc.cell? ⟨gb301, 0, none⟩ = some (.string ⟨#[]⟩) := (blk_cell BK301.out 0).trans rfl
     have hcz32_1 : wc.cell? ⟨gb301, 1, none⟩ = some (.string ⟨#[]⟩) := (blk_cell BK301.out 1).trans rfl
     have hcz32_2 : wc.cell? ⟨gb301, 2, none⟩ = some (.int .i64 0) := (blk_cell BK301.out 2).trans rfl
     have hfz32_0 := blk_frozen BK301.out 0
     have hfz32_1 := blk_frozen BK301.out 1
     have hfz32_2 := blk_frozen BK301.out 2
     go_wp2
     refine bodyPost_ret (results_ct rfl _ _ gb301 42 #[.string a0_0, .string a0_1, .int .i64 a0_2] (0, 0) _ rfl zq60 Tryd.underlying42 rfl zq21) rfl ?_
     exact ⟨zq7, zq56⟩
    ·rw [if_neg c27] at H
     have c27b0 : (a0_2 == 60) = false := beq_eq_false_iff_ne.mpr c27
     have c27b1 : (a0_2 != 60) = true := bne_iff_ne.mpr c27
     replace H := bem H
     obtain ⟨⟨t304, t305⟩, A330, H⟩ := H
     replace H : (if a0_1.size + t304.size ≤ 9223372036854775807 then (some (a0_0, a0_1 ++ t304, wrap64 (a0_2 + 1), 0)) else (none)) = some (r1, r2, r3, r4) := H
     have A33 := am A330
     clear A330
     by_cases c34 : a0_1.size + t304.size ≤ 9223372036854775807
     ·rw [if_pos c34] at H
      have c34b0 := eq_true c34
      have c34b1 : decide (a0_1.size + t304.size ≤ 9223372036854775807) = true := decide_eq_true c34
      try have c34b2 : (9223372036854775807 < a0_1.size + t304.size) = False := eq_false (Nat.not_lt.2 c34)
      simp only [Option.some.injEq, Prod.mk.injEq] at H
      obtain ⟨rfl, rfl, rfl, rfl⟩ := H
      have hnb35 := NB299_300.out
      have hnc35 := NB300_299.out
      have hnb36 := NB299_301.out
      have hnc36 := NB301_299.out
      have hcz37_0 : wc.cell? ⟨gb299, 0, none⟩ = some (.string a0_0) := (blk_cell BK299.out 0).trans rfl
      have hcz37_1 : wc.cell? ⟨gb299, 1, none⟩ = some (.string a0_1) := (blk_cell BK299.out 1).trans rfl
      have hcz37_2 : wc.cell? ⟨gb299, 2, none⟩ = some (.int .i64 a0_2) := (blk_cell BK299.out 2).trans rfl
      have hfz37_0 := blk_frozen BK299.out 0
      have hfz37_1 := blk_frozen BK299.out 1
      have hfz37_2 := blk_frozen BK299.out 2
      have hnb38 := NB300_301.out
      have hnc38 := NB301_300.out
      have hcz39_0 : wc.cell? ⟨gb300, 0, none⟩ = some (.string a1_0) := (blk_cell BK300.out 0).trans rfl
      have hcz39_1 : wc.cell? ⟨gb300, 1, none⟩ = some (.string a1_1) := (blk_cell BK300.out 1).trans rfl
      have hfz39_0 := blk_frozen BK300.out 0
      have hfz39_1 := blk_frozen BK300.out 1
      go_wp2_with (first | ((with_reducible refine gate_callee (f := 26) rfl ?_); refine goesL_ (some 27) rfl rfl Tryd.func26 zq21 rfl #[.int .i64 a0_2, .agg #[.string a1_0, .string a1_1]] rfl zq5 ?_; (with_reducible refine (impl_EncodeRecord.calls kj2 a0_2 a1_0 a1_1 t304 t305 _ ?side1 A33.out).mono ?_); (case side1 => exact Glob.below HGL.out zq56); rintro e w40 ⟨rfl, hb⟩; refine ⟨_, rfl, ?_⟩; have n0_ := am (blk_below (g := gb299) (o := .cells #[.string a0_0, .string a0_1, .int .i64 a0_2] 42 (0, 0)) zq57 hb); have n1_ := am (blk_below (g := gb300) (o := .cells #[.string a1_0, .string a1_1] 38 (0, 0)) zq59 hb); have n2_ := am (blk_below (g := gb301) (o := .cells #[.string ⟨#[]⟩, .string ⟨#[]⟩, .int .i64 0] 42 (0, 0)) zq61 hb); have n3_ := am (below_step zq56 hb); clear BK299; clear BK300; clear BK301; clear HB; have BK299 := n0_; have BK300 := n1_; have BK301 := n2_; have HB := n3_; clear n0_ n1_ n2_ n3_; (try clear hb); (try clear hb2); (try clear hk); (try clear hi); have hcz41_0 : w40.cell? ⟨gb299, 0, none⟩ = some (.string a0_0) := (blk_cell BK299.out 0).trans rfl; have hcz41_1 : w40.cell? ⟨gb299, 1, none⟩ = some (.string a0_1) := (blk_cell BK299.out 1).trans rfl; have hcz41_2 : w40.cell? ⟨gb299, 2, none⟩ = some (.int .i64 a0_2) := (blk_cell BK299.out 2).trans rfl; have hfz41_0 := blk_frozen BK299.out 0; have hfz41_1 := blk_frozen BK299.out 1; have hfz41_2 := blk_frozen BK299.out 2; have hcz42_0 : w40.cell? ⟨gb301, 0, none⟩ = some (.string ⟨#[]⟩) := (blk_cell BK301.out 0).trans rfl; have hcz42_1 : w40.cell? ⟨gb301, 1, none⟩ = some (.string ⟨#[]⟩) := (blk_cell BK301.out 1).trans rfl; have hcz42_2 : w40.cell? ⟨gb301, 2, none⟩ = some (.int .i64 0) := (blk_cell BK301.out 2).trans rfl; have hfz42_0 := blk_frozen BK301.out 0; have hfz42_1 := blk_frozen BK301.out 1; have hfz42_2 := blk_frozen BK301.out 2))
      refine bodyPost_ret (results_ct rfl _ _ gb301 42 #[.string a0_0, .string (a0_1 ++ t304), .int .i64 (wrap64 (a0_2 + 1))] (0, 0) _ rfl (by (with_reducible repeat (first | refine blk_drewN ?_ _ | refine blk_drew ?_ | refine blk_alloc ?_ _)); refine blk_put (cs := #[.string a0_0, .string (a0_1 ++ t304), .int .i64 0]) ?_ 2 _ rfl; (with_reducible repeat (first | refine blk_drewN ?_ _ | refine blk_drew ?_ | refine blk_alloc ?_ _)); refine blk_put (cs := #[.string a0_0, .string ⟨#[]⟩, .int .i64 0]) ?_ 1 _ rfl; (with_reducible repeat (first | refine blk_drewN ?_ _ | refine blk_drew ?_ | refine blk_alloc ?_ _)); refine blk_put (cs := #[.string ⟨#[]⟩, .string ⟨#[]⟩, .int .i64 0]) ?_ 0 _ rfl; (with_reducible repeat (first | refine blk_drewN ?_ _ | refine blk_drew ?_ | refine blk_alloc ?_ _)); exact BK301.out) Tryd.underlying42 rfl zq21) rfl ?_
      exact ⟨zq7, zq56⟩
     ·rw [if_neg c34] at H
      exact absurd H zq176
def spec_LogRecords.f (k : Nat) (a0_0 : ByteArray) (a0_1 : ByteArray) (a0_2 : Int) : Option ((List (S38)) × Bool) := (spec_l12Valid.f k a0_0 a0_1 a0_2).bind fun t332 => (if t332 = true then (if a0_0.size + a0_1.size ≤ 9223372036854775807 then ((spec_l12Open.f k (a0_0 ++ a0_1)).bind fun bt333 => (some (bt333.1, true))) else (none)) else (some ((([] : List (S38))), false)))
set_option maxHeartbeats 8000000 in
set_option maxRecDepth 100000 in
theorem spec_LogRecords.calls (k : Nat) (a0_0 : ByteArray) (a0_1 : ByteArray) (a0_2 : Int) (r1 : List (S38)) (r2 : Bool) (w : World) (h : spec_LogRecords.f k a0_0 a0_1 a0_2 = some (r1, r2)) :
  Calls Tryd.prog 40 #[.agg #[.string a0_0, .string a0_1, .int .i64 a0_2]] w fun e w' => ∃ v0_ : Value, e = .returned (.tuple #[v0_, .bool r2]) ∧ Kd.R k38 38 w' w.heap.size (fun _ => True) v0_ r1 ∧ Below w.heap.size w w' := by
 have hu42 := Tryd.underlying42
 have HB := am (Below.refl w.heap.size w)
 have H : ((spec_l12Valid.f k a0_0 a0_1 a0_2).bind fun t332 => (if t332 = true then (if a0_0.size + a0_1.size ≤ 9223372036854775807 then ((spec_l12Open.f k (a0_0 ++ a0_1)).bind fun bt333 => (some (bt333.1, true))) else (none)) else (some ((([] : List (S38))), false)))) = some (r1, r2) := h
 clear h
 replace H := bem H
 obtain ⟨t332, A20, H⟩ := H
 replace H : (if t332 = true then (if a0_0.size + a0_1.size ≤ 9223372036854775807 then ((spec_l12Open.f k (a0_0 ++ a0_1)).bind fun bt333 => (some (bt333.1, true))) else (none)) else (some ((([] : List (S38))), false))) = some (r1, r2) := H
 have A2 := am A20
 clear A20
 by_cases c3 : t332 = true
 ·subst c3
  have H1 : (if a0_0.size + a0_1.size ≤ 9223372036854775807 then ((spec_l12Open.f k (a0_0 ++ a0_1)).bind fun bt333 => (some (bt333.1, true))) else (none)) = some (r1, r2) := by rw [if_pos rfl] at H; exact H
  clear H
  have H := H1
  clear H1
  by_cases c4 : a0_0.size + a0_1.size ≤ 9223372036854775807
  ·rw [if_pos c4] at H
   have c4b0 := eq_true c4
   have c4b1 : decide (a0_0.size + a0_1.size ≤ 9223372036854775807) = true := decide_eq_true c4
   try have c4b2 : (9223372036854775807 < a0_0.size + a0_1.size) = False := eq_false (Nat.not_lt.2 c4)
   replace H := bem H
   obtain ⟨⟨t333, t334⟩, A50, H⟩ := H
   replace H : (some (t333, true)) = some (r1, r2) := H
   have A5 := am A50
   clear A50
   simp only [Option.some.injEq, Prod.mk.injEq] at H
   obtain ⟨rfl, rfl⟩ := H
   go_enter Tryd.func40, Tryd.ntmps40
   go_wp2_with (first | ((with_reducible refine gate_dst (N := 1) rfl ?_); refine box_event ?hg (N := 1) ?hd (cs := #[.string a0_0, .string a0_1, .int .i64 a0_2]) (t := 42) ?hr ?_; (case hd => rfl); (case hg => rfl); (case hr => first | (go_simp; done) | (go_simp; rfl)); intro gb331 hg w6 hbox hb; have n0_ := am (below_step zq0 hb); have n1_ := am (hbox); have n2_ := am ((zq8 : w.heap.size ≤ gb331)); have n3_ := am ((zq8 : w.heap.size ≤ gb331)); clear HB; have HB := n0_; have BK331 := n1_; have GW331 := n2_; have GE331 := n3_; clear n0_ n1_ n2_ n3_; clear hb hbox hg; have hcz7_0 : w6.cell? ⟨gb331, 0, none⟩ = some (.string a0_0) := (blk_cell BK331.out 0).trans rfl; have hcz7_1 : w6.cell? ⟨gb331, 1, none⟩ = some (.string a0_1) := (blk_cell BK331.out 1).trans rfl; have hcz7_2 : w6.cell? ⟨gb331, 2, none⟩ = some (.int .i64 a0_2) := (blk_cell BK331.out 2).trans rfl; have hfz7_0 := blk_frozen BK331.out 0; have hfz7_1 := blk_frozen BK331.out 1; have hfz7_2 := blk_frozen BK331.out 2) | ((with_reducible refine gate_callee (f := 81) rfl ?_); refine goesL_ (some 7) rfl rfl Tryd.func81 zq21 rfl #[.agg #[.string a0_0, .string a0_1, .int .i64 a0_2]] rfl zq5 ?_; (with_reducible refine (spec_l12Valid.calls k a0_0 a0_1 a0_2 true _ A2.out).mono ?_); rintro e w8 ⟨rfl, hb⟩; refine ⟨_, rfl, ?_⟩; have n0_ := am (blk_below (g := gb331) (o := .cells #[.string a0_0, .string a0_1, .int .i64 a0_2] 42 (0, 0)) zq63 hb); have n1_ := am (below_step zq58 hb); clear BK331; clear HB; have BK331 := n0_; have HB := n1_; clear n0_ n1_; (try clear hb); (try clear hb2); (try clear hk); (try clear hi); have hcz9_0 : w8.cell? ⟨gb331, 0, none⟩ = some (.string a0_0) := (blk_cell BK331.out 0).trans rfl; have hcz9_1 : w8.cell? ⟨gb331, 1, none⟩ = some (.string a0_1) := (blk_cell BK331.out 1).trans rfl; have hcz9_2 : w8.cell? ⟨gb331, 2, none⟩ = some (.int .i64 a0_2) := (blk_cell BK331.out 2).trans rfl; have hfz9_0 := blk_frozen BK331.out 0; have hfz9_1 := blk_frozen BK331.out 1; have hfz9_2 := blk_frozen BK331.out 2) | ((with_reducible refine gate_callee (f := 79) rfl ?_); refine goesL_ (some 16) rfl rfl Tryd.func79 zq21 rfl #[.string (a0_0 ++ a0_1)] rfl zq5 ?_; (with_reducible refine (spec_l12Open.calls k (a0_0 ++ a0_1) t333 t334 _ A5.out).mono ?_); rintro e w10 ⟨v335, rfl, ho0, hb⟩; refine ⟨_, rfl, ?_⟩; have n0_ := am (Kd.R_lower ho0 (below_size zq58)); have n1_ := am (blk_below (g := gb331) (o := .cells #[.string a0_0, .string a0_1, .int .i64 a0_2] 42 (0, 0)) zq63 hb); have n2_ := am (below_step zq58 hb); clear BK331; clear HB; have HO336 := n0_; have BK331 := n1_; have HB := n2_; clear n0_ n1_ n2_; (try clear hb); (try clear hb2); (try clear hk); (try clear hi); (try clear ho0)))
   go_ret2
   exact ⟨_, zq7, by (with_reducible repeat (first | apply Kd.R_alloc | apply Kd.R_drewN | apply Kd.R_drew)); exact HO336.out, zq58⟩
  ·rw [if_neg c4] at H
   exact absurd H zq176
 ·replace c3 := Bool.eq_false_iff.mpr c3
  subst c3
  have H1 : (some ((([] : List (S38))), false)) = some (r1, r2) := by rw [if_neg (show ¬ (false = true) by decide)] at H; exact H
  clear H
  have H := H1
  clear H1
  obtain ⟨y337, hy337⟩ : ∃ y_ : List (S38), y_ = (([] : List (S38))) := ⟨_, rfl⟩
  replace H : (some (y337, false)) = some (r1, r2) := by first | (rw [hy337]; with_reducible exact H) | (have H2_ := (Option.bind_some _ _).symm.trans H; rw [hy337]; with_reducible exact H2_) | (have H2_ := (Option.bind_some _ _).symm.trans H; with_reducible exact H2_) | with_reducible exact H | (rw [hy337]; exact H) | exact H
  have Ny337 := am hy337
  clear hy337
  simp only [Option.some.injEq, Prod.mk.injEq] at H
  obtain ⟨rfl, rfl⟩ := H
  go_enter Tryd.func40, Tryd.ntmps40
  go_wp2_with (first | ((with_reducible refine gate_dst (N := 1) rfl ?_); refine box_event ?hg (N := 1) ?hd (cs := #[.string a0_0, .string a0_1, .int .i64 a0_2]) (t := 42) ?hr ?_; (case hd => rfl); (case hg => rfl); (case hr => first | (go_simp; done) | (go_simp; rfl)); intro gb331 hg w11 hbox hb; have n0_ := am (below_step zq0 hb); have n1_ := am (hbox); have n2_ := am ((zq8 : w.heap.size ≤ gb331)); have n3_ := am ((zq8 : w.heap.size ≤ gb331)); clear HB; have HB := n0_; have BK331 := n1_; have GW331 := n2_; have GE331 := n3_; clear n0_ n1_ n2_ n3_; clear hb hbox hg; have hcz12_0 : w11.cell? ⟨gb331, 0, none⟩ = some (.string a0_0) := (blk_cell BK331.out 0).trans rfl; have hcz12_1 : w11.cell? ⟨gb331, 1, none⟩ = some (.string a0_1) := (blk_cell BK331.out 1).trans rfl; have hcz12_2 : w11.cell? ⟨gb331, 2, none⟩ = some (.int .i64 a0_2) := (blk_cell BK331.out 2).trans rfl; have hfz12_0 := blk_frozen BK331.out 0; have hfz12_1 := blk_frozen BK331.out 1; have hfz12_2 := blk_frozen BK331.out 2) | ((with_reducible refine gate_callee (f := 81) rfl ?_); refine goesL_ (some 7) rfl rfl Tryd.func81 zq21 rfl #[.agg #[.string a0_0, .string a0_1, .int .i64 a0_2]] rfl zq5 ?_; (with_reducible refine (spec_l12Valid.calls k a0_0 a0_1 a0_2 false _ A2.out).mono ?_); rintro e w13 ⟨rfl, hb⟩; refine ⟨_, rfl, ?_⟩; have n0_ := am (blk_below (g := gb331) (o := .cells #[.string a0_0, .string a0_1, .int .i64 a0_2] 42 (0, 0)) zq63 hb); have n1_ := am (below_step zq58 hb); clear BK331; clear HB; have BK331 := n0_; have HB := n1_; clear n0_ n1_; (try clear hb); (try clear hb2); (try clear hk); (try clear hi)) | ((with_reducible refine gate_dst (N := 9) rfl ?_); refine Kd.R_lit k38 _ 38 ?hg (N := 9) ?hd (xs := ([] : List (S38))) (inner := []) (ok := fun _ => True) (okp := fun _ => True) ?hr ?hp (fun _ hk => hk) trivial (Below.refl _ _) (Nat.le_refl _) zq176 ?_; (case hd => rfl); (case hg => rfl); (case hr => first | (go_simp; done) | (go_simp; rfl)); (case hp => exact (Reps.none _ _)); intro v338 w14 ho15 hb hg_ hnew_; clear hg_ hnew_; (first | rw [← Ny337.out] at ho15 | (simp only [Int.reduceToNat] at ho15; rw [← Ny337.out] at ho15)); have n0_ := am (Kd.R_lower ho15 (below_size zq58)); have n1_ := am (blk_below (g := gb331) (o := .cells #[.string a0_0, .string a0_1, .int .i64 a0_2] 42 (0, 0)) zq63 hb); have n2_ := am (below_step zq58 hb); clear BK331; clear HB; have HO339 := n0_; have BK331 := n1_; have HB := n2_; clear n0_ n1_ n2_; clear hb ho15))
  go_ret2
  exact ⟨_, zq7, by (with_reducible repeat (first | apply Kd.R_alloc | apply Kd.R_drewN | apply Kd.R_drew)); exact HO339.out, zq58⟩
def impl_LogRecords.f (k : Nat) (a0_0 : ByteArray) (a0_1 : ByteArray) (a0_2 : Int) : Option ((List (S38)) × Bool) := (impl_Log_records.f k a0_0 a0_1 a0_2).bind fun bt341 => (if bt341.2 = true then (some (bt341.1, true)) else (some (([] : List (S38)), false)))
set_option maxHeartbeats 8000000 in
set_option maxRecDepth 100000 in
theorem impl_LogRecords.calls (k : Nat) (a0_0 : ByteArray) (a0_1 : ByteArray) (a0_2 : Int) (r1 : List (S38)) (r2 : Bool) (w : World) (hgl : Glob w) (h : impl_LogRecords.f k a0_0 a0_1 a0_2 = some (r1, r2)) :
  Calls Tryd.prog 41 #[.agg #[.string a0_0, .string a0_1, .int .i64 a0_2]] w fun e w' => ∃ v0_ : Value, e = .returned (.tuple #[v0_, .bool r2]) ∧ Kd.R k38 38 w' w.heap.size (fun _ => True) v0_ r1 ∧ Below w.heap.size w w' := by
 have hu42 := Tryd.underlying42
 have HB := am (Below.refl w.heap.size w)
 have HGL := am hgl
 clear hgl
 have H : ((impl_Log_records.f k a0_0 a0_1 a0_2).bind fun bt341 => (if bt341.2 = true then (some (bt341.1, true)) else (some (([] : List (S38)), false)))) = some (r1, r2) := h
 clear h
 replace H := bem H
 obtain ⟨⟨t341, t344⟩, A20, H⟩ := H
 replace H : (if t344 = true then (some (t341, true)) else (some (([] : List (S38)), false))) = some (r1, r2) := H
 have A2 := am A20
 clear A20
 by_cases c3 : t344 = true
 ·subst c3
  have H1 : (some (t341, true)) = some (r1, r2) := by rw [if_pos rfl] at H; exact H
  clear H
  have H := H1
  clear H1
  simp only [Option.some.injEq, Prod.mk.injEq] at H
  obtain ⟨rfl, rfl⟩ := H
  go_enter Tryd.func41, Tryd.ntmps41
  go_wp2_with (first | ((with_reducible refine gate_dst (N := 1) rfl ?_); refine box_event ?hg (N := 1) ?hd (cs := #[.string a0_0, .string a0_1, .int .i64 a0_2]) (t := 42) ?hr ?_; (case hd => rfl); (case hg => rfl); (case hr => first | (go_simp; done) | (go_simp; rfl)); intro gb340 hg w4 hbox hb; have n0_ := am (below_step zq0 hb); have n1_ := am (hbox); have n2_ := am ((zq8 : w.heap.size ≤ gb340)); have n3_ := am ((zq8 : w.heap.size ≤ gb340)); clear HB; have HB := n0_; have BK340 := n1_; have GW340 := n2_; have GE340 := n3_; clear n0_ n1_ n2_ n3_; clear hb hbox hg; have hcz5_0 : w4.cell? ⟨gb340, 0, none⟩ = some (.string a0_0) := (blk_cell BK340.out 0).trans rfl; have hcz5_1 : w4.cell? ⟨gb340, 1, none⟩ = some (.string a0_1) := (blk_cell BK340.out 1).trans rfl; have hcz5_2 : w4.cell? ⟨gb340, 2, none⟩ = some (.int .i64 a0_2) := (blk_cell BK340.out 2).trans rfl; have hfz5_0 := blk_frozen BK340.out 0; have hfz5_1 := blk_frozen BK340.out 1; have hfz5_2 := blk_frozen BK340.out 2) | ((with_reducible refine gate_callee (f := 82) rfl ?_); refine goesL_ (some 8) rfl rfl Tryd.func82 zq21 rfl #[.agg #[.string a0_0, .string a0_1, .int .i64 a0_2]] rfl zq5 ?_; (with_reducible refine (impl_Log_records.calls k a0_0 a0_1 a0_2 t341 true _ ?side1 A2.out).mono ?_); (case side1 => exact Glob.below HGL.out zq65); rintro e w6 ⟨v342, rfl, ho0, hb⟩; refine ⟨_, rfl, ?_⟩; have n0_ := am (Kd.R_lower ho0 (below_size zq65)); have n1_ := am (blk_below (g := gb340) (o := .cells #[.string a0_0, .string a0_1, .int .i64 a0_2] 42 (0, 0)) zq206 hb); have n2_ := am (below_step zq65 hb); clear BK340; clear HB; have HO343 := n0_; have BK340 := n1_; have HB := n2_; clear n0_ n1_ n2_; (try clear hb); (try clear hb2); (try clear hk); (try clear hi); (try clear ho0)))
  go_ret2
  exact ⟨_, zq7, by (with_reducible repeat (first | apply Kd.R_alloc | apply Kd.R_drewN | apply Kd.R_drew)); exact HO343.out, zq65⟩
 ·replace c3 := Bool.eq_false_iff.mpr c3
  subst c3
  have H1 : (some (([] : List (S38)), false)) = some (r1, r2) := by rw [if_neg (show ¬ (false = true) by decide)] at H; exact H
  clear H
  have H := H1
  clear H1
  simp only [Option.some.injEq, Prod.mk.injEq] at H
  obtain ⟨rfl, rfl⟩ := H
  go_enter Tryd.func41, Tryd.ntmps41
  go_wp2_with (first | ((with_reducible refine gate_dst (N := 1) rfl ?_); refine box_event ?hg (N := 1) ?hd (cs := #[.string a0_0, .string a0_1, .int .i64 a0_2]) (t := 42) ?hr ?_; (case hd => rfl); (case hg => rfl); (case hr => first | (go_simp; done) | (go_simp; rfl)); intro gb340 hg w7 hbox hb; have n0_ := am (below_step zq0 hb); have n1_ := am (hbox); have n2_ := am ((zq8 : w.heap.size ≤ gb340)); have n3_ := am ((zq8 : w.heap.size ≤ gb340)); clear HB; have HB := n0_; have BK340 := n1_; have GW340 := n2_; have GE340 := n3_; clear n0_ n1_ n2_ n3_; clear hb hbox hg; have hcz8_0 : w7.cell? ⟨gb340, 0, none⟩ = some (.string a0_0) := (blk_cell BK340.out 0).trans rfl; have hcz8_1 : w7.cell? ⟨gb340, 1, none⟩ = some (.string a0_1) := (blk_cell BK340.out 1).trans rfl; have hcz8_2 : w7.cell? ⟨gb340, 2, none⟩ = some (.int .i64 a0_2) := (blk_cell BK340.out 2).trans rfl; have hfz8_0 := blk_frozen BK340.out 0; have hfz8_1 := blk_frozen BK340.out 1; have hfz8_2 := blk_frozen BK340.out 2) | ((with_reducible refine gate_callee (f := 82) rfl ?_); refine goesL_ (some 8) rfl rfl Tryd.func82 zq21 rfl #[.agg #[.string a0_0, .string a0_1, .int .i64 a0_2]] rfl zq5 ?_; (with_reducible refine (impl_Log_records.calls k a0_0 a0_1 a0_2 t341 false _ ?side1 A2.out).mono ?_); (case side1 => exact Glob.below HGL.out zq65); rintro e w9 ⟨v342, rfl, ho0, hb⟩; refine ⟨_, rfl, ?_⟩; have n0_ := am (Kd.R_lower ho0 (below_size zq65)); have n1_ := am (blk_below (g := gb340) (o := .cells #[.string a0_0, .string a0_1, .int .i64 a0_2] 42 (0, 0)) zq206 hb); have n2_ := am (below_step zq65 hb); clear BK340; clear HB; have HO343 := n0_; have BK340 := n1_; have HB := n2_; clear n0_ n1_ n2_; (try clear hb); (try clear hb2); (try clear hk); (try clear hi); (try clear ho0)))
  go_ret2
  exact ⟨_, zq7, zq190, zq65⟩
def laws_vBig.f (l0 : List Int) : Option (Bool) := some (decide ((l0.length : Int) > 65536))
set_option maxHeartbeats 8000000 in
set_option maxRecDepth 100000 in
theorem laws_vBig.calls (A0 : Option Addr) (c0 : Nat) (l0 : List Int) (r : Bool) (w : World) (hr0 : Kd.C (Kd.int .u8) w A0 l0.length l0) (hc0 : l0.length ≤ c0) (h : laws_vBig.f l0 = some r) :
  Calls Tryd.prog 14 #[.slice A0 l0.length c0] w fun e w' => e = .returned (.bool r) ∧ Drawn0 w w' := by
 have HR0 := am hr0
 have HC0 := am hc0
 clear hr0 hc0
 have H : (some (decide ((l0.length : Int) > 65536))) = some r := h
 clear h
 obtain rfl := Option.some.inj H
 go_enter Tryd.func14, Tryd.ntmps14
 go_wp2
 go_ret
 exact ⟨zq1, zq4⟩
def IsS83 (w0 W : World) (g : Nat) (f0 : List Int) (f1 : Int) (f2 : Int) : Prop := ∃ A0 c0, W.heap[g]? = some (.cells #[.slice A0 f0.length c0, .int .i64 f1, .int .u64 f2] 83 (0, 0)) ∧ w0.heap.size ≤ g ∧ Kd.C (Kd.int .u8) w0 A0 f0.length f0
theorem IsS83.grown {w0 W : World} {g : Nat} {f0 : List Int} {f1 : Int} {f2 : Int} {W1 : World} {row : Option Nat} (h : IsS83 w0 W g f0 f1 f2) (hw : W.grownBy W1 row) (hne : some g ≠ row) : IsS83 w0 W1 g f0 f1 f2 := by
 obtain ⟨A0, c0, hb, hg, hr0⟩ := h
 exact ⟨A0, c0, blk_grown hb hw hne, hg, hr0⟩
theorem IsS83.fresh {w0 W : World} {g : Nat} {f0 : List Int} {f1 : Int} {f2 : Int} (h : IsS83 w0 W g f0 f1 f2) : ∀ k, W.heap.size ≤ k → k ≠ g := by
 obtain ⟨A0, c0, hb, hg, hr0⟩ := h
 exact Kd.freshB hb
theorem IsS83.kept {w0 W : World} {g : Nat} {f0 : List Int} {f1 : Int} {f2 : Int} {W1 : World} {S : Nat → Prop} (h : IsS83 w0 W g f0 f1 f2) (hk : Kept W W1 S) (hne : ¬ S g) : IsS83 w0 W1 g f0 f1 f2 := by
 obtain ⟨A0, c0, hb, hg, hr0⟩ := h
 exact ⟨A0, c0, blk_kept hb hk hne, hg, hr0⟩
theorem IsS83.below {w0 W : World} {g : Nat} {f0 : List Int} {f1 : Int} {f2 : Int} {W1 : World} (h : IsS83 w0 W g f0 f1 f2) (hw : Below W.heap.size W W1) : IsS83 w0 W1 g f0 f1 f2 := h.grown (grown_of_below hw none) zq176
theorem IsS83.alloc {w0 W : World} {g : Nat} {f0 : List Int} {f1 : Int} {f2 : Int} (h : IsS83 w0 W g f0 f1 f2) (o : Obj) : IsS83 w0 (W.alloc o) g f0 f1 f2 := h.below (below_alloc (Below.refl _ _) o)
theorem IsS83.drewN {w0 W : World} {g : Nat} {f0 : List Int} {f1 : Int} {f2 : Int} (h : IsS83 w0 W g f0 f1 f2) (m : Nat) : IsS83 w0 (W.drewN m) g f0 f1 f2 := h
theorem IsS83.drew {w0 W : World} {g : Nat} {f0 : List Int} {f1 : Int} {f2 : Int} (h : IsS83 w0 W g f0 f1 f2) : IsS83 w0 W.drew g f0 f1 f2 := h
theorem IsS83.apart {w0 W : World} {g : Nat} {f0 : List Int} {f1 : Int} {f2 : Int} {α : Type} {d : Kd α} {e : Nat} {base : Nat} {ok : Nat → Prop} {v : Value} {xs : List α} (h : IsS83 w0 W g f0 f1 f2) (ho : d.R e W base ok v xs) (ht : ∀ q, q ∈ e :: d.E → q ≠ 83) : d.R e W base (fun k => ok k ∧ k ≠ g) v xs := by
 obtain ⟨A0, c0, hb, hg, hr0⟩ := h
 exact Kd.R_types ho hb ht
theorem IsS83.own_ne {w0 W : World} {g : Nat} {f0 : List Int} {f1 : Int} {f2 : Int} {α : Type} {d : Kd α} {e : Nat} {base : Nat} {ok : Nat → Prop} {v : Value} {xs : List α} (h : IsS83 w0 W g f0 f1 f2) (ho : d.R e W base ok v xs) (ht : e ≠ 83) : some g ≠ v.ownBlock := by
 obtain ⟨A0, c0, hb, hg, hr0⟩ := h
 exact Kd.R_ne ho hb ht
theorem IsS83.lt {w0 W : World} {g : Nat} {f0 : List Int} {f1 : Int} {f2 : Int} (h : IsS83 w0 W g f0 f1 f2) : g < W.heap.size := by
 obtain ⟨A0, c0, hb, hg, hr0⟩ := h
 exact blk_lt hb
theorem IsS83.ge {w0 W : World} {g : Nat} {f0 : List Int} {f1 : Int} {f2 : Int} (h : IsS83 w0 W g f0 f1 f2) : w0.heap.size ≤ g := by
 obtain ⟨A0, c0, hb, hg, hr0⟩ := h
 exact hg
theorem IsS83.far {w0 W : World} {g : Nat} {f0 : List Int} {f1 : Int} {f2 : Int} {p : Addr} (h : IsS83 w0 W g f0 f1 f2) (hne : g ≠ p.block) (u : Value) : IsS83 w0 (W.setCell p u) g f0 f1 f2 := by
 obtain ⟨A0, c0, hb, hg, hr0⟩ := h
 exact ⟨A0, c0, blk_far hb hne u, hg, hr0⟩
theorem cellS83_0 {W : World} {g : Nat} {A0 : Option Addr} {c0 : Nat} {f0 : List Int} {f1 : Int} {f2 : Int} (h : W.heap[g]? = some (.cells #[.slice A0 f0.length c0, .int .i64 f1, .int .u64 f2] 83 (0, 0))) : W.cell? ⟨g, 0, none⟩ = some (.slice A0 f0.length c0) := (blk_cell h 0).trans rfl
theorem cellS83_1 {W : World} {g : Nat} {A0 : Option Addr} {c0 : Nat} {f0 : List Int} {f1 : Int} {f2 : Int} (h : W.heap[g]? = some (.cells #[.slice A0 f0.length c0, .int .i64 f1, .int .u64 f2] 83 (0, 0))) : W.cell? ⟨g, 1, none⟩ = some (.int .i64 f1) := (blk_cell h 1).trans rfl
theorem IsS83.set_1 {w0 W : World} {g : Nat} {f0 : List Int} {f1 : Int} {f2 : Int} (h : IsS83 w0 W g f0 f1 f2) (x : Int) : IsS83 w0 (W.setCell ⟨g, 1, none⟩ (.int .i64 x)) g f0 x f2 := by
 obtain ⟨A0, c0, hb, hg, hr0⟩ := h
 exact ⟨A0, c0, by simpa using blk_set hb 1 (.int .i64 x), hg, hr0⟩
theorem cellS83_2 {W : World} {g : Nat} {A0 : Option Addr} {c0 : Nat} {f0 : List Int} {f1 : Int} {f2 : Int} (h : W.heap[g]? = some (.cells #[.slice A0 f0.length c0, .int .i64 f1, .int .u64 f2] 83 (0, 0))) : W.cell? ⟨g, 2, none⟩ = some (.int .u64 f2) := (blk_cell h 2).trans rfl
theorem IsS83.set_2 {w0 W : World} {g : Nat} {f0 : List Int} {f1 : Int} {f2 : Int} (h : IsS83 w0 W g f0 f1 f2) (x : Int) : IsS83 w0 (W.setCell ⟨g, 2, none⟩ (.int .u64 x)) g f0 f1 x := by
 obtain ⟨A0, c0, hb, hg, hr0⟩ := h
 exact ⟨A0, c0, by simpa using blk_set hb 2 (.int .u64 x), hg, hr0⟩
def spec_l1Cur_next.f (s0_0 : List Int) (s0_1 : Int) (s0_2 : Int) : Option (Int × Int × Int) := if s0_1 < (s0_0.length : Int) then (if 0 ≤ s0_1 then (if (wrap64 (s0_1 + 1)) ≤ (s0_0.length : Int) then (some (wrap64 (rd s0_0 s0_1), wrap64 (s0_1 + 1), IntKind.u64.wrap ((IntKind.u64.wrap ((IntKind.u64.wrap (s0_2 * 6364136223846793005)) + (IntKind.u64.wrap (wrap64 (rd s0_0 s0_1))))) + 462197))) else (some (wrap64 (Go.bits .and .u64 ((IntKind.u64.wrap ((IntKind.u64.wrap ((IntKind.u64.wrap (s0_2 * 6364136223846793005)) + (IntKind.u64.wrap (wrap64 (rd s0_0 s0_1))))) + 462197)) / 1099511627776) 255), wrap64 (s0_1 + 1), IntKind.u64.wrap ((IntKind.u64.wrap ((IntKind.u64.wrap (s0_2 * 6364136223846793005)) + (IntKind.u64.wrap (wrap64 (rd s0_0 s0_1))))) + 462197)))) else (none)) else (if (wrap64 (s0_1 + 1)) ≤ (s0_0.length : Int) then (some (0, wrap64 (s0_1 + 1), IntKind.u64.wrap ((IntKind.u64.wrap ((IntKind.u64.wrap (s0_2 * 6364136223846793005)))) + 462197))) else (some (wrap64 (Go.bits .and .u64 ((IntKind.u64.wrap ((IntKind.u64.wrap ((IntKind.u64.wrap (s0_2 * 6364136223846793005)))) + 462197)) / 1099511627776) 255), wrap64 (s0_1 + 1), IntKind.u64.wrap ((IntKind.u64.wrap ((IntKind.u64.wrap (s0_2 * 6364136223846793005)))) + 462197))))
set_option maxHeartbeats 8000000 in
set_option maxRecDepth 100000 in
theorem spec_l1Cur_next.calls (g : Nat) (s0_0 : List Int) (s0_1 : Int) (s0_2 : Int) (r1 : Int) (r2 : Int) (r3 : Int) (w0 w : World) (hI : IsS83 w0 w g s0_0 s0_1 s0_2) (hB : Below w0.heap.size w0 w) (h : spec_l1Cur_next.f s0_0 s0_1 s0_2 = some (r1, r2, r3)) :
  Calls Tryd.prog 99 #[.pointer (some ⟨g, 0, none⟩)] w fun e w' => e = .returned (.int .i64 r1) ∧ IsS83 w0 w' g s0_0 r2 r3 ∧ Below w0.heap.size w0 w' ∧ KeepBut w w' g none := by
 have HI0 := am hI
 have HK := am (KeepBut.refl w g none)
 have HL := am hB.size
 clear hI
 have HW0 := am hB.size
 have HB := am hB
 clear hB
 have H : (if s0_1 < (s0_0.length : Int) then (if 0 ≤ s0_1 then (if (wrap64 (s0_1 + 1)) ≤ (s0_0.length : Int) then (some (wrap64 (rd s0_0 s0_1), wrap64 (s0_1 + 1), IntKind.u64.wrap ((IntKind.u64.wrap ((IntKind.u64.wrap (s0_2 * 6364136223846793005)) + (IntKind.u64.wrap (wrap64 (rd s0_0 s0_1))))) + 462197))) else (some (wrap64 (Go.bits .and .u64 ((IntKind.u64.wrap ((IntKind.u64.wrap ((IntKind.u64.wrap (s0_2 * 6364136223846793005)) + (IntKind.u64.wrap (wrap64 (rd s0_0 s0_1))))) + 462197)) / 1099511627776) 255), wrap64 (s0_1 + 1), IntKind.u64.wrap ((IntKind.u64.wrap ((IntKind.u64.wrap (s0_2 * 6364136223846793005)) + (IntKind.u64.wrap (wrap64 (rd s0_0 s0_1))))) + 462197)))) else (none)) else (if (wrap64 (s0_1 + 1)) ≤ (s0_0.length : Int) then (some (0, wrap64 (s0_1 + 1), IntKind.u64.wrap ((IntKind.u64.wrap ((IntKind.u64.wrap (s0_2 * 6364136223846793005)))) + 462197))) else (some (wrap64 (Go.bits .and .u64 ((IntKind.u64.wrap ((IntKind.u64.wrap ((IntKind.u64.wrap (s0_2 * 6364136223846793005)))) + 462197)) / 1099511627776) 255), wrap64 (s0_1 + 1), IntKind.u64.wrap ((IntKind.u64.wrap ((IntKind.u64.wrap (s0_2 * 6364136223846793005)))) + 462197))))) = some (r1, r2, r3) := h
 clear h
 by_cases c2 : s0_1 < (s0_0.length : Int)
 ·rw [if_pos c2] at H
  have c2b0 : decide (s0_1 < (s0_0.length : Int)) = true := decide_eq_true c2
  clear c2
  by_cases c3 : 0 ≤ s0_1
  ·rw [if_pos c3] at H
   have c3b0 : decide (0 ≤ s0_1) = true := decide_eq_true c3
   clear c3
   by_cases c4 : (wrap64 (s0_1 + 1)) ≤ (s0_0.length : Int)
   ·rw [if_pos c4] at H
    have c4b0 : decide ((wrap64 (s0_1 + 1)) ≤ (s0_0.length : Int)) = true := decide_eq_true c4
    clear c4
    simp only [Option.some.injEq, Prod.mk.injEq] at H
    obtain ⟨rfl, rfl, rfl⟩ := H
    obtain ⟨ASz5_0, cSz5_0, HGz5, hgz5, HSz5_0⟩ := HI0.out
    have hcz5_0 := cellS83_0 HGz5
    have hcz5_1 := cellS83_1 HGz5
    have hcz5_2 := cellS83_2 HGz5
    have hfz5_1 := blk_frozen HGz5 1
    have hfz5_2 := blk_frozen HGz5 2
    clear HGz5 hgz5
    have p390 : 0 ≤ (s0_1 : Int) := of_decide_eq_true zq3
    have q390 : s0_1 < (s0_0.length : Int) := of_decide_eq_true zq3
    obtain ⟨ad390, e390, hx390_0⟩ := Kd.at_int HSz5_0 s0_1 p390 q390
    cases e390
    replace hx390_0 := pw_cell_below HB.out hx390_0
    replace p390 := eq_true p390
    replace q390 := eq_true q390
    go_enter Tryd.func99, Tryd.ntmps99
    go_wp2
    repeat (go_quiet (fail); try go_wp2)
    go_ret
    exact ⟨zq7, zq67, zq68, zq66⟩
   ·rw [if_neg c4] at H
    have c4b0 : decide ((wrap64 (s0_1 + 1)) ≤ (s0_0.length : Int)) = false := decide_eq_false c4
    clear c4
    simp only [Option.some.injEq, Prod.mk.injEq] at H
    obtain ⟨rfl, rfl, rfl⟩ := H
    obtain ⟨ASz6_0, cSz6_0, HGz6, hgz6, HSz6_0⟩ := HI0.out
    have hcz6_0 := cellS83_0 HGz6
    have hcz6_1 := cellS83_1 HGz6
    have hcz6_2 := cellS83_2 HGz6
    have hfz6_1 := blk_frozen HGz6 1
    have hfz6_2 := blk_frozen HGz6 2
    clear HGz6 hgz6
    have p390 : 0 ≤ (s0_1 : Int) := of_decide_eq_true zq3
    have q390 : s0_1 < (s0_0.length : Int) := of_decide_eq_true zq3
    obtain ⟨ad390, e390, hx390_0⟩ := Kd.at_int HSz6_0 s0_1 p390 q390
    cases e390
    replace hx390_0 := pw_cell_below HB.out hx390_0
    replace p390 := eq_true p390
    replace q390 := eq_true q390
    go_enter Tryd.func99, Tryd.ntmps99
    go_wp2
    repeat (go_quiet (fail); try go_wp2)
    go_ret
    exact ⟨zq7, zq67, zq68, zq66⟩
  ·rw [if_neg c3] at H
   exact absurd H zq176
 ·rw [if_neg c2] at H
  have c2b0 : decide (s0_1 < (s0_0.length : Int)) = false := decide_eq_false c2
  clear c2
  by_cases c7 : (wrap64 (s0_1 + 1)) ≤ (s0_0.length : Int)
  ·rw [if_pos c7] at H
   have c7b0 : decide ((wrap64 (s0_1 + 1)) ≤ (s0_0.length : Int)) = true := decide_eq_true c7
   clear c7
   simp only [Option.some.injEq, Prod.mk.injEq] at H
   obtain ⟨rfl, rfl, rfl⟩ := H
   obtain ⟨ASz8_0, cSz8_0, HGz8, hgz8, HSz8_0⟩ := HI0.out
   have hcz8_0 := cellS83_0 HGz8
   have hcz8_1 := cellS83_1 HGz8
   have hcz8_2 := cellS83_2 HGz8
   have hfz8_1 := blk_frozen HGz8 1
   have hfz8_2 := blk_frozen HGz8 2
   clear HGz8 hgz8
   go_enter Tryd.func99, Tryd.ntmps99
   go_wp2
   repeat (go_quiet (fail); try go_wp2)
   go_ret
   exact ⟨zq7, zq67, zq68, zq66⟩
  ·rw [if_neg c7] at H
   have c7b0 : decide ((wrap64 (s0_1 + 1)) ≤ (s0_0.length : Int)) = false := decide_eq_false c7
   clear c7
   simp only [Option.some.injEq, Prod.mk.injEq] at H
   obtain ⟨rfl, rfl, rfl⟩ := H
   obtain ⟨ASz9_0, cSz9_0, HGz9, hgz9, HSz9_0⟩ := HI0.out
   have hcz9_0 := cellS83_0 HGz9
   have hcz9_1 := cellS83_1 HGz9
   have hcz9_2 := cellS83_2 HGz9
   have hfz9_1 := blk_frozen HGz9 1
   have hfz9_2 := blk_frozen HGz9 2
   clear HGz9 hgz9
   go_enter Tryd.func99, Tryd.ntmps99
   go_wp2
   repeat (go_quiet (fail); try go_wp2)
   go_ret
   exact ⟨zq7, zq67, zq68, zq66⟩
def spec_l1Cur_pick.f (s0_0 : List Int) (s0_1 : Int) (s0_2 : Int) (a1 : Int) : Option (Int × Int × Int) := if a1 ≤ 1 then (some (0, s0_1, s0_2)) else ((spec_l1Cur_next.f s0_0 s0_1 s0_2).bind fun bt391 => (if a1 > 200 then ((spec_l1Cur_next.f s0_0 bt391.2.1 bt391.2.2).bind fun bt394 => (if a1 = 0 then (none) else (some (Int.tmod (wrap64 ((wrap64 (bt391.1 * 256)) + bt394.1)) a1, bt394.2.1, bt394.2.2)))) else (if a1 = 0 then (none) else (some (Int.tmod bt391.1 a1, bt391.2.1, bt391.2.2)))))
set_option maxHeartbeats 8000000 in
set_option maxRecDepth 100000 in
theorem spec_l1Cur_pick.calls (g : Nat) (s0_0 : List Int) (s0_1 : Int) (s0_2 : Int) (a1 : Int) (r1 : Int) (r2 : Int) (r3 : Int) (w0 w : World) (hI : IsS83 w0 w g s0_0 s0_1 s0_2) (hB : Below w0.heap.size w0 w) (h : spec_l1Cur_pick.f s0_0 s0_1 s0_2 a1 = some (r1, r2, r3)) :
  Calls Tryd.prog 69 #[.pointer (some ⟨g, 0, none⟩), .int .i64 a1] w fun e w' => e = .returned (.int .i64 r1) ∧ IsS83 w0 w' g s0_0 r2 r3 ∧ Below w0.heap.size w0 w' ∧ KeepBut w w' g none := by
 have HI0 := am hI
 have HK := am (KeepBut.refl w g none)
 have HL := am hB.size
 clear hI
 have HW0 := am hB.size
 have HB := am hB
 clear hB
 have H : (if a1 ≤ 1 then (some (0, s0_1, s0_2)) else ((spec_l1Cur_next.f s0_0 s0_1 s0_2).bind fun bt391 => (if a1 > 200 then ((spec_l1Cur_next.f s0_0 bt391.2.1 bt391.2.2).bind fun bt394 => (if a1 = 0 then (none) else (some (Int.tmod (wrap64 ((wrap64 (bt391.1 * 256)) + bt394.1)) a1, bt394.2.1, bt394.2.2)))) else (if a1 = 0 then (none) else (some (Int.tmod bt391.1 a1, bt391.2.1, bt391.2.2)))))) = some (r1, r2, r3) := h
 clear h
 by_cases c3 : a1 ≤ 1
 ·rw [if_pos c3] at H
  have c3b0 : decide (a1 ≤ 1) = true := decide_eq_true c3
  clear c3
  simp only [Option.some.injEq, Prod.mk.injEq] at H
  obtain ⟨rfl, rfl, rfl⟩ := H
  go_enter Tryd.func69, Tryd.ntmps69
  go_wp2
  go_ret
  exact ⟨zq7, zq67, zq68, zq66⟩
 ·rw [if_neg c3] at H
  have c3b0 : decide (a1 ≤ 1) = false := decide_eq_false c3
  clear c3
  replace H := bem H
  obtain ⟨⟨t391, t392, t393⟩, A40, H⟩ := H
  replace H : (if a1 > 200 then ((spec_l1Cur_next.f s0_0 t392 t393).bind fun bt394 => (if a1 = 0 then (none) else (some (Int.tmod (wrap64 ((wrap64 (t391 * 256)) + bt394.1)) a1, bt394.2.1, bt394.2.2)))) else (if a1 = 0 then (none) else (some (Int.tmod t391 a1, t392, t393)))) = some (r1, r2, r3) := H
  have A4 := am A40
  clear A40
  by_cases c5 : a1 > 200
  ·rw [if_pos c5] at H
   have c5b0 : decide (200 < a1) = true := decide_eq_true c5
   clear c5
   replace H := bem H
   obtain ⟨⟨t394, t395, t396⟩, A60, H⟩ := H
   replace H : (if a1 = 0 then (none) else (some (Int.tmod (wrap64 ((wrap64 (t391 * 256)) + t394)) a1, t395, t396))) = some (r1, r2, r3) := H
   have A6 := am A60
   clear A60
   by_cases c7 : a1 = 0
   ·rw [if_pos c7] at H
    exact absurd H zq176
   ·rw [if_neg c7] at H
    have c7b0 : (a1 == 0) = false := beq_eq_false_iff_ne.mpr c7
    have c7b1 : (a1 != 0) = true := bne_iff_ne.mpr c7
    simp only [Option.some.injEq, Prod.mk.injEq] at H
    obtain ⟨rfl, rfl, rfl⟩ := H
    go_enter Tryd.func69, Tryd.ntmps69
    go_wp2_with (first | ((with_reducible refine gate_callee (f := 99) rfl ?_); refine goesL_ (some 9) rfl rfl Tryd.func99 zq21 rfl #[.pointer (some ⟨g, 0, none⟩)] rfl zq5 ?_; (with_reducible refine (spec_l1Cur_next.calls g s0_0 s0_1 s0_2 t391 t392 t393 w0 _ ?side1 ?side2 A4.out).mono ?_); (case side1 => repeat (first | (with_reducible first | exact HI0.out | apply IsS83.alloc | apply IsS83.drewN | apply IsS83.drew | apply IsS83.set_1 | apply IsS83.set_2) | exact HI0.out)); (case side2 => repeat (first | (with_reducible first | exact HB.out | apply below_alloc | apply pw_below_drewN | apply below_drew1 | refine below_set ?_ (IsS83.ge HI0.out)) | exact HB.out)); rintro e w8 ⟨rfl, hi, hb, hk⟩; refine ⟨_, rfl, ?_⟩; have n0_ := am (KeepBut.trans zq66 hk (.inl rfl)); have n1_ := am (hb); have n2_ := am (hi); clear HK; clear HB; clear HI0; have HK := n0_; have HB := n1_; have HI0 := n2_; clear n0_ n1_ n2_; (try clear hb); (try clear hb2); (try clear hk); (try clear hi)) | ((with_reducible refine gate_callee (f := 99) rfl ?_); refine goesL_ (some 15) rfl rfl Tryd.func99 zq21 rfl #[.pointer (some ⟨g, 0, none⟩)] rfl zq5 ?_; (with_reducible refine (spec_l1Cur_next.calls g s0_0 t392 t393 t394 t395 t396 w0 _ ?side1 ?side2 A6.out).mono ?_); (case side1 => repeat (first | (with_reducible first | exact HI0.out | apply IsS83.alloc | apply IsS83.drewN | apply IsS83.drew | apply IsS83.set_1 | apply IsS83.set_2) | exact HI0.out)); (case side2 => repeat (first | (with_reducible first | exact HB.out | apply below_alloc | apply pw_below_drewN | apply below_drew1 | refine below_set ?_ (IsS83.ge HI0.out)) | exact HB.out)); rintro e w9 ⟨rfl, hi, hb, hk⟩; refine ⟨_, rfl, ?_⟩; have n0_ := am (KeepBut.trans zq66 hk (.inl rfl)); have n1_ := am (hb); have n2_ := am (hi); clear HK; clear HB; clear HI0; have HK := n0_; have HB := n1_; have HI0 := n2_; clear n0_ n1_ n2_; (try clear hb); (try clear hb2); (try clear hk); (try clear hi)))
    go_ret
    exact ⟨zq7, zq67, zq68, zq66⟩
  ·rw [if_neg c5] at H
   have c5b0 : decide (200 < a1) = false := decide_eq_false c5
   clear c5
   by_cases c10 : a1 = 0
   ·rw [if_pos c10] at H
    exact absurd H zq176
   ·rw [if_neg c10] at H
    have c10b0 : (a1 == 0) = false := beq_eq_false_iff_ne.mpr c10
    have c10b1 : (a1 != 0) = true := bne_iff_ne.mpr c10
    simp only [Option.some.injEq, Prod.mk.injEq] at H
    obtain ⟨rfl, rfl, rfl⟩ := H
    go_enter Tryd.func69, Tryd.ntmps69
    go_wp2_with (first | ((with_reducible refine gate_callee (f := 99) rfl ?_); refine goesL_ (some 9) rfl rfl Tryd.func99 zq21 rfl #[.pointer (some ⟨g, 0, none⟩)] rfl zq5 ?_; (with_reducible refine (spec_l1Cur_next.calls g s0_0 s0_1 s0_2 t391 t392 t393 w0 _ ?side1 ?side2 A4.out).mono ?_); (case side1 => repeat (first | (with_reducible first | exact HI0.out | apply IsS83.alloc | apply IsS83.drewN | apply IsS83.drew | apply IsS83.set_1 | apply IsS83.set_2) | exact HI0.out)); (case side2 => repeat (first | (with_reducible first | exact HB.out | apply below_alloc | apply pw_below_drewN | apply below_drew1 | refine below_set ?_ (IsS83.ge HI0.out)) | exact HB.out)); rintro e w11 ⟨rfl, hi, hb, hk⟩; refine ⟨_, rfl, ?_⟩; have n0_ := am (KeepBut.trans zq66 hk (.inl rfl)); have n1_ := am (hb); have n2_ := am (hi); clear HK; clear HB; clear HI0; have HK := n0_; have HB := n1_; have HI0 := n2_; clear n0_ n1_ n2_; (try clear hb); (try clear hb2); (try clear hk); (try clear hi)))
    go_ret
    exact ⟨zq7, zq67, zq68, zq66⟩
def spec_l1Cur_of.f (s0_0 : List Int) (s0_1 : Int) (s0_2 : Int) (l1 : List ByteArray) : Option (ByteArray × Int × Int) := (spec_l1Cur_pick.f s0_0 s0_1 s0_2 (l1.length : Int)).bind fun bt397 => (if 0 ≤ bt397.1 then (if bt397.1 < (l1.length : Int) then (some (rdOf ByteArray.empty l1 bt397.1, bt397.2.1, bt397.2.2)) else (none)) else (none))
set_option maxHeartbeats 8000000 in
set_option maxRecDepth 100000 in
theorem spec_l1Cur_of.calls (g : Nat) (s0_0 : List Int) (s0_1 : Int) (s0_2 : Int) (A1 : Option Addr) (c1 : Nat) (l1 : List ByteArray) (r1 : ByteArray) (r2 : Int) (r3 : Int) (w0 w : World) (hI : IsS83 w0 w g s0_0 s0_1 s0_2) (hB : Below w0.heap.size w0 w) (hr1 : Kd.C Kd.string w A1 l1.length l1) (hc1 : l1.length ≤ c1) (hf1 : ∀ ad, A1 = some ad → 0 < l1.length → ad.block ≠ g) (h : spec_l1Cur_of.f s0_0 s0_1 s0_2 l1 = some (r1, r2, r3)) :
  Calls Tryd.prog 67 #[.pointer (some ⟨g, 0, none⟩), .slice A1 l1.length c1] w fun e w' => e = .returned (.string r1) ∧ IsS83 w0 w' g s0_0 r2 r3 ∧ Below w0.heap.size w0 w' ∧ KeepBut w w' g none := by
 have HR1 := am hr1
 have HC1 := am hc1
 clear hr1 hc1
 have HI0 := am hI
 have HK := am (KeepBut.refl w g none)
 have HL := am hB.size
 clear hI
 have HW0 := am hB.size
 have HB := am hB
 clear hB
 have H : ((spec_l1Cur_pick.f s0_0 s0_1 s0_2 (l1.length : Int)).bind fun bt397 => (if 0 ≤ bt397.1 then (if bt397.1 < (l1.length : Int) then (some (rdOf ByteArray.empty l1 bt397.1, bt397.2.1, bt397.2.2)) else (none)) else (none))) = some (r1, r2, r3) := h
 clear h
 replace H := bem H
 obtain ⟨⟨t397, t398, t399⟩, A30, H⟩ := H
 replace H : (if 0 ≤ t397 then (if t397 < (l1.length : Int) then (some (rdOf ByteArray.empty l1 t397, t398, t399)) else (none)) else (none)) = some (r1, r2, r3) := H
 have A3 := am A30
 clear A30
 by_cases c4 : 0 ≤ t397
 ·rw [if_pos c4] at H
  have c4b0 : decide (0 ≤ t397) = true := decide_eq_true c4
  clear c4
  by_cases c5 : t397 < (l1.length : Int)
  ·rw [if_pos c5] at H
   have c5b0 : decide (t397 < (l1.length : Int)) = true := decide_eq_true c5
   clear c5
   simp only [Option.some.injEq, Prod.mk.injEq] at H
   obtain ⟨rfl, rfl, rfl⟩ := H
   go_enter Tryd.func67, Tryd.ntmps67
   go_wp2_with (first | ((with_reducible refine gate_callee (f := 69) rfl ?_); refine goesL_ (some 9) rfl rfl Tryd.func69 zq21 rfl #[.pointer (some ⟨g, 0, none⟩), .int .i64 (l1.length : Int)] rfl zq5 ?_; (with_reducible refine (spec_l1Cur_pick.calls g s0_0 s0_1 s0_2 (l1.length : Int) t397 t398 t399 w0 _ ?side1 ?side2 A3.out).mono ?_); (case side1 => repeat (first | (with_reducible first | exact HI0.out | apply IsS83.alloc | apply IsS83.drewN | apply IsS83.drew | apply IsS83.set_1 | apply IsS83.set_2) | exact HI0.out)); (case side2 => repeat (first | (with_reducible first | exact HB.out | apply below_alloc | apply pw_below_drewN | apply below_drew1 | refine below_set ?_ (IsS83.ge HI0.out)) | exact HB.out)); rintro e w6 ⟨rfl, hi, hb, hk⟩; refine ⟨_, rfl, ?_⟩; have n0_ := am (KeepBut.trans zq66 hk (.inl rfl)); have n1_ := am (hb); have n2_ := am (hi); clear HK; clear HB; clear HI0; have HK := n0_; have HB := n1_; have HI0 := n2_; clear n0_ n1_ n2_; (try clear hb); (try clear hb2); (try clear hk); (try clear hi); have p400 : 0 ≤ (t397 : Int) := of_decide_eq_true zq3; have q400 : t397 < (l1.length : Int) := of_decide_eq_true zq3; obtain ⟨ad400, e400, hx400_0⟩ := Kd.at_string HR1.out t397 p400 q400; cases e400; replace hx400_0 := keep_cell HK.out hx400_0 (by first | (rw [add_block]; exact hf1 _ rfl (by omega)) | exact hf1 _ rfl (by omega) | exact hf1 ad400 rfl (by omega)); replace p400 := eq_true p400; replace q400 := eq_true q400))
   go_ret
   exact ⟨zq7, zq67, zq68, zq66⟩
  ·rw [if_neg c5] at H
   exact absurd H zq176
 ·rw [if_neg c4] at H
  exact absurd H zq176
def spec_l1Cur_logRecord.f (s0_0 : List Int) (s0_1 : Int) (s0_2 : Int) : Option (ByteArray × ByteArray × Int × Int) := (spec_l1Cur_of.f s0_0 s0_1 s0_2 (([(⟨#[114, 117, 110, 32, 48, 32, 49]⟩ : ByteArray), (⟨#[100, 114, 111, 112, 32, 48, 32, 49]⟩ : ByteArray), (⟨#[120]⟩ : ByteArray), (⟨#[102, 117, 101, 108, 32, 57]⟩ : ByteArray), (⟨#[48, 32, 49]⟩ : ByteArray)] : List ByteArray))).bind fun bt513 => ((spec_l1Cur_of.f s0_0 bt513.2.1 bt513.2.2 (([(⟨#[]⟩ : ByteArray), (⟨#[51]⟩ : ByteArray), (⟨#[63]⟩ : ByteArray), (⟨#[97, 64, 98]⟩ : ByteArray), (⟨#[51, 32, 49, 32, 50]⟩ : ByteArray)] : List ByteArray))).bind fun bt519 => ((spec_l1Cur_pick.f s0_0 bt519.2.1 bt519.2.2 24).bind fun bt523 => (if bt523.1 = 0 then (if 3 ≤ 281474976710656 then ((spec_l1Cur_of.f s0_0 bt523.2.1 bt523.2.2 (([(⟨#[]⟩ : ByteArray), (⟨#[97, 64, 98]⟩ : ByteArray), (⟨#[97, 35]⟩ : ByteArray), (⟨#[10]⟩ : ByteArray), strOfNums (List.replicate 3 0)] : List ByteArray))).bind fun bt532 => (some (bt532.1, bt519.1, bt532.2.1, bt532.2.2))) else (none)) else (if bt523.1 = 1 then ((spec_l1Cur_of.f s0_0 bt523.2.1 bt523.2.2 (([(⟨#[35]⟩ : ByteArray), (⟨#[10]⟩ : ByteArray), (⟨#[127]⟩ : ByteArray)] : List ByteArray))).bind fun bt538 => (some (bt513.1, bt538.1, bt538.2.1, bt538.2.2))) else (some (bt513.1, bt519.1, bt523.2.1, bt523.2.2))))))
set_option maxHeartbeats 8000000 in
set_option maxRecDepth 100000 in
theorem spec_l1Cur_logRecord.calls (g : Nat) (s0_0 : List Int) (s0_1 : Int) (s0_2 : Int) (r1 : ByteArray) (r2 : ByteArray) (r3 : Int) (r4 : Int) (w0 w : World) (hI : IsS83 w0 w g s0_0 s0_1 s0_2) (hB : Below w0.heap.size w0 w) (h : spec_l1Cur_logRecord.f s0_0 s0_1 s0_2 = some (r1, r2, r3, r4)) :
  Calls Tryd.prog 85 #[.pointer (some ⟨g, 0, none⟩)] w fun e w' => e = .returned (.agg #[.string r1, .string r2]) ∧ IsS83 w0 w' g s0_0 r3 r4 ∧ Below w0.heap.size w0 w' ∧ KeepBut w w' g none := by
 have hu38 := Tryd.underlying38
 have HI0 := am hI
 have HK := am (KeepBut.refl w g none)
 have HL := am hB.size
 clear hI
 have HW0 := am hB.size
 have HB := am hB
 clear hB
 have H : ((spec_l1Cur_of.f s0_0 s0_1 s0_2 (([(⟨#[114, 117, 110, 32, 48, 32, 49]⟩ : ByteArray), (⟨#[100, 114, 111, 112, 32, 48, 32, 49]⟩ : ByteArray), (⟨#[120]⟩ : ByteArray), (⟨#[102, 117, 101, 108, 32, 57]⟩ : ByteArray), (⟨#[48, 32, 49]⟩ : ByteArray)] : List ByteArray))).bind fun bt513 => ((spec_l1Cur_of.f s0_0 bt513.2.1 bt513.2.2 (([(⟨#[]⟩ : ByteArray), (⟨#[51]⟩ : ByteArray), (⟨#[63]⟩ : ByteArray), (⟨#[97, 64, 98]⟩ : ByteArray), (⟨#[51, 32, 49, 32, 50]⟩ : ByteArray)] : List ByteArray))).bind fun bt519 => ((spec_l1Cur_pick.f s0_0 bt519.2.1 bt519.2.2 24).bind fun bt523 => (if bt523.1 = 0 then (if 3 ≤ 281474976710656 then ((spec_l1Cur_of.f s0_0 bt523.2.1 bt523.2.2 (([(⟨#[]⟩ : ByteArray), (⟨#[97, 64, 98]⟩ : ByteArray), (⟨#[97, 35]⟩ : ByteArray), (⟨#[10]⟩ : ByteArray), strOfNums (List.replicate 3 0)] : List ByteArray))).bind fun bt532 => (some (bt532.1, bt519.1, bt532.2.1, bt532.2.2))) else (none)) else (if bt523.1 = 1 then ((spec_l1Cur_of.f s0_0 bt523.2.1 bt523.2.2 (([(⟨#[35]⟩ : ByteArray), (⟨#[10]⟩ : ByteArray), (⟨#[127]⟩ : ByteArray)] : List ByteArray))).bind fun bt538 => (some (bt513.1, bt538.1, bt538.2.1, bt538.2.2))) else (some (bt513.1, bt519.1, bt523.2.1, bt523.2.2))))))) = some (r1, r2, r3, r4) := h
 clear h
 obtain ⟨y510, hy510⟩ : ∃ y_ : List ByteArray, y_ = (([(⟨#[114, 117, 110, 32, 48, 32, 49]⟩ : ByteArray), (⟨#[100, 114, 111, 112, 32, 48, 32, 49]⟩ : ByteArray), (⟨#[120]⟩ : ByteArray), (⟨#[102, 117, 101, 108, 32, 57]⟩ : ByteArray), (⟨#[48, 32, 49]⟩ : ByteArray)] : List ByteArray)) := ⟨_, rfl⟩
 replace H : ((spec_l1Cur_of.f s0_0 s0_1 s0_2 y510).bind fun bt513 => ((spec_l1Cur_of.f s0_0 bt513.2.1 bt513.2.2 (([(⟨#[]⟩ : ByteArray), (⟨#[51]⟩ : ByteArray), (⟨#[63]⟩ : ByteArray), (⟨#[97, 64, 98]⟩ : ByteArray), (⟨#[51, 32, 49, 32, 50]⟩ : ByteArray)] : List ByteArray))).bind fun bt519 => ((spec_l1Cur_pick.f s0_0 bt519.2.1 bt519.2.2 24).bind fun bt523 => (if bt523.1 = 0 then (if 3 ≤ 281474976710656 then ((spec_l1Cur_of.f s0_0 bt523.2.1 bt523.2.2 (([(⟨#[]⟩ : ByteArray), (⟨#[97, 64, 98]⟩ : ByteArray), (⟨#[97, 35]⟩ : ByteArray), (⟨#[10]⟩ : ByteArray), strOfNums (List.replicate 3 0)] : List ByteArray))).bind fun bt532 => (some (bt532.1, bt519.1, bt532.2.1, bt532.2.2))) else (none)) else (if bt523.1 = 1 then ((spec_l1Cur_of.f s0_0 bt523.2.1 bt523.2.2 (([(⟨#[35]⟩ : ByteArray), (⟨#[10]⟩ : ByteArray), (⟨#[127]⟩ : ByteArray)] : List ByteArray))).bind fun bt538 => (some (bt513.1, bt538.1, bt538.2.1, bt538.2.2))) else (some (bt513.1, bt519.1, bt523.2.1, bt523.2.2))))))) = some (r1, r2, r3, r4) := by first | (rw [hy510]; with_reducible exact H) | (have H2_ := (Option.bind_some _ _).symm.trans H; rw [hy510]; with_reducible exact H2_) | (have H2_ := (Option.bind_some _ _).symm.trans H; with_reducible exact H2_) | with_reducible exact H | (rw [hy510]; exact H) | exact H
 have Ny510 := am hy510
 clear hy510
 replace H := bem H
 obtain ⟨⟨t513, t514, t515⟩, A20, H⟩ := H
 replace H : ((spec_l1Cur_of.f s0_0 t514 t515 (([(⟨#[]⟩ : ByteArray), (⟨#[51]⟩ : ByteArray), (⟨#[63]⟩ : ByteArray), (⟨#[97, 64, 98]⟩ : ByteArray), (⟨#[51, 32, 49, 32, 50]⟩ : ByteArray)] : List ByteArray))).bind fun bt519 => ((spec_l1Cur_pick.f s0_0 bt519.2.1 bt519.2.2 24).bind fun bt523 => (if bt523.1 = 0 then (if 3 ≤ 281474976710656 then ((spec_l1Cur_of.f s0_0 bt523.2.1 bt523.2.2 (([(⟨#[]⟩ : ByteArray), (⟨#[97, 64, 98]⟩ : ByteArray), (⟨#[97, 35]⟩ : ByteArray), (⟨#[10]⟩ : ByteArray), strOfNums (List.replicate 3 0)] : List ByteArray))).bind fun bt532 => (some (bt532.1, bt519.1, bt532.2.1, bt532.2.2))) else (none)) else (if bt523.1 = 1 then ((spec_l1Cur_of.f s0_0 bt523.2.1 bt523.2.2 (([(⟨#[35]⟩ : ByteArray), (⟨#[10]⟩ : ByteArray), (⟨#[127]⟩ : ByteArray)] : List ByteArray))).bind fun bt538 => (some (t513, bt538.1, bt538.2.1, bt538.2.2))) else (some (t513, bt519.1, bt523.2.1, bt523.2.2)))))) = some (r1, r2, r3, r4) := H
 have A2 := am A20
 clear A20
 obtain ⟨y516, hy516⟩ : ∃ y_ : List ByteArray, y_ = (([(⟨#[]⟩ : ByteArray), (⟨#[51]⟩ : ByteArray), (⟨#[63]⟩ : ByteArray), (⟨#[97, 64, 98]⟩ : ByteArray), (⟨#[51, 32, 49, 32, 50]⟩ : ByteArray)] : List ByteArray)) := ⟨_, rfl⟩
 replace H : ((spec_l1Cur_of.f s0_0 t514 t515 y516).bind fun bt519 => ((spec_l1Cur_pick.f s0_0 bt519.2.1 bt519.2.2 24).bind fun bt523 => (if bt523.1 = 0 then (if 3 ≤ 281474976710656 then ((spec_l1Cur_of.f s0_0 bt523.2.1 bt523.2.2 (([(⟨#[]⟩ : ByteArray), (⟨#[97, 64, 98]⟩ : ByteArray), (⟨#[97, 35]⟩ : ByteArray), (⟨#[10]⟩ : ByteArray), strOfNums (List.replicate 3 0)] : List ByteArray))).bind fun bt532 => (some (bt532.1, bt519.1, bt532.2.1, bt532.2.2))) else (none)) else (if bt523.1 = 1 then ((spec_l1Cur_of.f s0_0 bt523.2.1 bt523.2.2 (([(⟨#[35]⟩ : ByteArray), (⟨#[10]⟩ : ByteArray), (⟨#[127]⟩ : ByteArray)] : List ByteArray))).bind fun bt538 => (some (t513, bt538.1, bt538.2.1, bt538.2.2))) else (some (t513, bt519.1, bt523.2.1, bt523.2.2)))))) = some (r1, r2, r3, r4) := by first | (rw [hy516]; with_reducible exact H) | (have H2_ := (Option.bind_some _ _).symm.trans H; rw [hy516]; with_reducible exact H2_) | (have H2_ := (Option.bind_some _ _).symm.trans H; with_reducible exact H2_) | with_reducible exact H | (rw [hy516]; exact H) | exact H
 have Ny516 := am hy516
 clear hy516
 replace H := bem H
 obtain ⟨⟨t519, t520, t521⟩, A30, H⟩ := H
 replace H : ((spec_l1Cur_pick.f s0_0 t520 t521 24).bind fun bt523 => (if bt523.1 = 0 then (if 3 ≤ 281474976710656 then ((spec_l1Cur_of.f s0_0 bt523.2.1 bt523.2.2 (([(⟨#[]⟩ : ByteArray), (⟨#[97, 64, 98]⟩ : ByteArray), (⟨#[97, 35]⟩ : ByteArray), (⟨#[10]⟩ : ByteArray), strOfNums (List.replicate 3 0)] : List ByteArray))).bind fun bt532 => (some (bt532.1, t519, bt532.2.1, bt532.2.2))) else (none)) else (if bt523.1 = 1 then ((spec_l1Cur_of.f s0_0 bt523.2.1 bt523.2.2 (([(⟨#[35]⟩ : ByteArray), (⟨#[10]⟩ : ByteArray), (⟨#[127]⟩ : ByteArray)] : List ByteArray))).bind fun bt538 => (some (t513, bt538.1, bt538.2.1, bt538.2.2))) else (some (t513, t519, bt523.2.1, bt523.2.2))))) = some (r1, r2, r3, r4) := H
 have A3 := am A30
 clear A30
 replace H := bem H
 obtain ⟨⟨t523, t524, t525⟩, A40, H⟩ := H
 replace H : (if t523 = 0 then (if 3 ≤ 281474976710656 then ((spec_l1Cur_of.f s0_0 t524 t525 (([(⟨#[]⟩ : ByteArray), (⟨#[97, 64, 98]⟩ : ByteArray), (⟨#[97, 35]⟩ : ByteArray), (⟨#[10]⟩ : ByteArray), strOfNums (List.replicate 3 0)] : List ByteArray))).bind fun bt532 => (some (bt532.1, t519, bt532.2.1, bt532.2.2))) else (none)) else (if t523 = 1 then ((spec_l1Cur_of.f s0_0 t524 t525 (([(⟨#[35]⟩ : ByteArray), (⟨#[10]⟩ : ByteArray), (⟨#[127]⟩ : ByteArray)] : List ByteArray))).bind fun bt538 => (some (t513, bt538.1, bt538.2.1, bt538.2.2))) else (some (t513, t519, t524, t525)))) = some (r1, r2, r3, r4) := H
 have A4 := am A40
 clear A40
 by_cases c5 : t523 = 0
 ·rw [if_pos c5] at H
  have c5b0 : (t523 == 0) = true := beq_iff_eq.mpr c5
  have c5b1 : (t523 != 0) = false := bne_eq_false_iff_eq.mpr c5
  clear c5
  by_cases c6 : 3 ≤ 281474976710656
  ·rw [if_pos c6] at H
   have c6b0 := eq_true c6
   have c6b1 : decide (3 ≤ 281474976710656) = true := decide_eq_true c6
   clear c6
   obtain ⟨y526, hy526⟩ : ∃ y_ : List Int, y_ = (List.replicate 3 0) := ⟨_, rfl⟩
   replace H : ((spec_l1Cur_of.f s0_0 t524 t525 (([(⟨#[]⟩ : ByteArray), (⟨#[97, 64, 98]⟩ : ByteArray), (⟨#[97, 35]⟩ : ByteArray), (⟨#[10]⟩ : ByteArray), strOfNums y526] : List ByteArray))).bind fun bt532 => (some (bt532.1, t519, bt532.2.1, bt532.2.2))) = some (r1, r2, r3, r4) := by first | (rw [hy526]; with_reducible exact H) | (have H2_ := (Option.bind_some _ _).symm.trans H; rw [hy526]; with_reducible exact H2_) | (have H2_ := (Option.bind_some _ _).symm.trans H; with_reducible exact H2_) | with_reducible exact H | (rw [hy526]; exact H) | exact H
   have Ny526 := am hy526
   clear hy526
   obtain ⟨y529, hy529⟩ : ∃ y_ : List ByteArray, y_ = (([(⟨#[]⟩ : ByteArray), (⟨#[97, 64, 98]⟩ : ByteArray), (⟨#[97, 35]⟩ : ByteArray), (⟨#[10]⟩ : ByteArray), strOfNums y526] : List ByteArray)) := ⟨_, rfl⟩
   replace H : ((spec_l1Cur_of.f s0_0 t524 t525 y529).bind fun bt532 => (some (bt532.1, t519, bt532.2.1, bt532.2.2))) = some (r1, r2, r3, r4) := by first | (rw [hy529]; with_reducible exact H) | (have H2_ := (Option.bind_some _ _).symm.trans H; rw [hy529]; with_reducible exact H2_) | (have H2_ := (Option.bind_some _ _).symm.trans H; with_reducible exact H2_) | with_reducible exact H | (rw [hy529]; exact H) | exact H
   have Ny529 := am hy529
   clear hy529
   replace H := bem H
   obtain ⟨⟨t532, t533, t534⟩, A70, H⟩ := H
   replace H : (some (t532, t519, t533, t534)) = some (r1, r2, r3, r4) := H
   have A7 := am A70
   clear A70
   simp only [Option.some.injEq, Prod.mk.injEq] at H
   obtain ⟨rfl, rfl, rfl, rfl⟩ := H
   go_enter Tryd.func85, Tryd.ntmps85
   go_wp2_with (first | ((with_reducible refine gate_dst (N := 2) rfl ?_); refine box_event ?hg (N := 2) ?hd (cs := #[.string ⟨#[]⟩, .string ⟨#[]⟩]) (t := 38) ?hr ?_; (case hd => rfl); (case hg => rfl); (case hr => first | (go_simp; done) | (go_simp; rfl)); intro gb509 hg w8 hbox hb; have n0_ := am (IsS83.below zq67 hb); have n1_ := am (KeepBut.trans zq66 (KeepBut.of_below hb g none) (.inl rfl)); have n2_ := am (below_step zq68 hb); have n3_ := am (hbox); have n4_ := am ((zq87 : w.heap.size ≤ gb509)); have n5_ := am ((Nat.le_trans HW0.out (zq87 : w.heap.size ≤ gb509) : w0.heap.size ≤ gb509)); have n6_ := am ((zq113 : g ≠ gb509)); have n7_ := am ((zq114 : gb509 ≠ g)); clear HI0; clear HK; clear HB; have HI0 := n0_; have HK := n1_; have HB := n2_; have BK509 := n3_; have GW509 := n4_; have GE509 := n5_; have NB0_509 := n6_; have NB509_0 := n7_; clear n0_ n1_ n2_ n3_ n4_ n5_ n6_ n7_; clear hb hbox hg) | ((with_reducible refine gate_dst (N := 5) rfl ?_); refine Kd.R_lit Kd.string _ 9 ?hg (N := 5) ?hd (xs := ([(⟨#[114, 117, 110, 32, 48, 32, 49]⟩ : ByteArray), (⟨#[100, 114, 111, 112, 32, 48, 32, 49]⟩ : ByteArray), (⟨#[120]⟩ : ByteArray), (⟨#[102, 117, 101, 108, 32, 57]⟩ : ByteArray), (⟨#[48, 32, 49]⟩ : ByteArray)] : List ByteArray)) (inner := [.string ⟨#[114, 117, 110, 32, 48, 32, 49]⟩, .string ⟨#[100, 114, 111, 112, 32, 48, 32, 49]⟩, .string ⟨#[120]⟩, .string ⟨#[102, 117, 101, 108, 32, 57]⟩, .string ⟨#[48, 32, 49]⟩]) (ok := fun _ => True) (okp := fun _ => True) ?hr ?hp (fun _ hk => hk) trivial (Below.refl _ _) (Nat.le_refl _) zq176 ?_; (case hd => rfl); (case hg => rfl); (case hr => first | (go_simp; done) | (go_simp; rfl)); (case hp => exact (Reps.one (show Kd.M Kd.string _ _ _ (⟨#[114, 117, 110, 32, 48, 32, 49]⟩ : ByteArray) [.string ⟨#[114, 117, 110, 32, 48, 32, 49]⟩] from rfl) (Reps.one (show Kd.M Kd.string _ _ _ (⟨#[100, 114, 111, 112, 32, 48, 32, 49]⟩ : ByteArray) [.string ⟨#[100, 114, 111, 112, 32, 48, 32, 49]⟩] from rfl) (Reps.one (show Kd.M Kd.string _ _ _ (⟨#[120]⟩ : ByteArray) [.string ⟨#[120]⟩] from rfl) (Reps.one (show Kd.M Kd.string _ _ _ (⟨#[102, 117, 101, 108, 32, 57]⟩ : ByteArray) [.string ⟨#[102, 117, 101, 108, 32, 57]⟩] from rfl) (Reps.one (show Kd.M Kd.string _ _ _ (⟨#[48, 32, 49]⟩ : ByteArray) [.string ⟨#[48, 32, 49]⟩] from rfl) (Reps.none _ _))))))); intro v511 w9 ho10 hb hg_ hnew_; clear hg_ hnew_; (first | rw [← Ny510.out] at ho10 | (simp only [Int.reduceToNat] at ho10; rw [← Ny510.out] at ho10)); have n0_ := am (Kd.R_lower ho10 (keep_size (w := w) (g := g) (row := none) zq70)); have n1_ := am (IsS83.below zq69 hb); have n2_ := am (blk_below (g := gb509) (o := .cells #[.string ⟨#[]⟩, .string ⟨#[]⟩] 38 (0, 0)) zq72 hb); have n3_ := am (KeepBut.trans zq70 (KeepBut.of_below hb g none) (.inl rfl)); have n4_ := am (below_step zq75 hb); clear HI0; clear BK509; clear HK; clear HB; have HO512 := n0_; have HI0 := n1_; have BK509 := n2_; have HK := n3_; have HB := n4_; clear n0_ n1_ n2_ n3_ n4_; clear hb ho10; obtain ⟨Ao11, co11, eo11⟩ := Kd.R_slice HO512.out; subst eo11) | ((with_reducible refine gate_callee (f := 67) rfl ?_); refine goesL_ (some 6) rfl rfl Tryd.func67 zq21 rfl #[.pointer (some ⟨g, 0, none⟩), .slice Ao11 y510.length co11] rfl zq5 ?_; (with_reducible refine (spec_l1Cur_of.calls g s0_0 s0_1 s0_2 _ _ y510 t513 t514 t515 w0 _ ?side1 ?side2 ?side3 ?side4 ?side5 A2.out).mono ?_); (case side1 => repeat (first | (with_reducible first | exact HI0.out | apply IsS83.alloc | apply IsS83.drewN | apply IsS83.drew | apply IsS83.set_1 | apply IsS83.set_2 | refine IsS83.far ?_ NB0_509.out _) | exact HI0.out)); (case side2 => repeat (first | (with_reducible first | exact HB.out | apply below_alloc | apply pw_below_drewN | apply below_drew1 | refine below_set ?_ (IsS83.ge HI0.out) | refine below_set ?_ GE509.out) | exact HB.out)); (case side3 => repeat (first | exact (Kd.R_reads' HO512.out).2.2 | (with_reducible refine Kd.C_alloc ?_ _) | (with_reducible refine Kd.C_drewN ?_ _) | (with_reducible refine Kd.C_drew ?_))); (case side4 => exact (Kd.R_reads' HO512.out).2.1); (case side5 => exact far_slice (IsS83.own_ne HI0.out HO512.out zq173)); rintro e w12 ⟨rfl, hi, hb, hk⟩; refine ⟨_, rfl, ?_⟩; have n0_ := am (KeepBut.blk hk (g' := gb509) (o := .cells #[.string ⟨#[]⟩, .string ⟨#[]⟩] 38 (0, 0)) zq72 NB509_0.out zq176); have n1_ := am (Kd.R_mono (Kd.R_keep (IsS83.apart (show IsS83 w0 _ g s0_0 s0_1 s0_2 from zq69) zq74 zq173) hk (fun _ h => h.2)) (fun _ h => h.1)); have n2_ := am (KeepBut.trans zq70 hk (.inl rfl)); have n3_ := am (hb); have n4_ := am (hi); clear BK509; clear HO512; clear HK; clear HB; clear HI0; have BK509 := n0_; have HO512 := n1_; have HK := n2_; have HB := n3_; have HI0 := n4_; clear n0_ n1_ n2_ n3_ n4_; (try clear hb); (try clear hb2); (try clear hk); (try clear hi)) | ((with_reducible refine gate_dst (N := 8) rfl ?_); refine Kd.R_lit Kd.string _ 9 ?hg (N := 8) ?hd (xs := ([(⟨#[]⟩ : ByteArray), (⟨#[51]⟩ : ByteArray), (⟨#[63]⟩ : ByteArray), (⟨#[97, 64, 98]⟩ : ByteArray), (⟨#[51, 32, 49, 32, 50]⟩ : ByteArray)] : List ByteArray)) (inner := [.string ⟨#[]⟩, .string ⟨#[51]⟩, .string ⟨#[63]⟩, .string ⟨#[97, 64, 98]⟩, .string ⟨#[51, 32, 49, 32, 50]⟩]) (ok := fun _ => True) (okp := fun _ => True) ?hr ?hp (fun _ hk => hk) trivial (Below.refl _ _) (Nat.le_refl _) zq176 ?_; (case hd => rfl); (case hg => rfl); (case hr => first | (go_simp; done) | (go_simp; rfl)); (case hp => exact (Reps.one (show Kd.M Kd.string _ _ _ (⟨#[]⟩ : ByteArray) [.string ⟨#[]⟩] from rfl) (Reps.one (show Kd.M Kd.string _ _ _ (⟨#[51]⟩ : ByteArray) [.string ⟨#[51]⟩] from rfl) (Reps.one (show Kd.M Kd.string _ _ _ (⟨#[63]⟩ : ByteArray) [.string ⟨#[63]⟩] from rfl) (Reps.one (show Kd.M Kd.string _ _ _ (⟨#[97, 64, 98]⟩ : ByteArray) [.string ⟨#[97, 64, 98]⟩] from rfl) (Reps.one (show Kd.M Kd.string _ _ _ (⟨#[51, 32, 49, 32, 50]⟩ : ByteArray) [.string ⟨#[51, 32, 49, 32, 50]⟩] from rfl) (Reps.none _ _))))))); intro v517 w13 ho14 hb hg_ hnew_; clear hg_ hnew_; (first | rw [← Ny516.out] at ho14 | (simp only [Int.reduceToNat] at ho14; rw [← Ny516.out] at ho14)); have n0_ := am (Kd.R_elder' zq74 (Kd.R_base ho14) hb); have n1_ := am (Kd.R_lower (Kd.R_new' ho14 (Kd.R_lt zq74)) (keep_size (w := w) (g := g) (row := none) zq70)); have n2_ := am (IsS83.below zq69 hb); have n3_ := am (blk_below (g := gb509) (o := .cells #[.string ⟨#[]⟩, .string ⟨#[]⟩] 38 (0, 0)) zq72 hb); have n4_ := am (KeepBut.trans zq70 (KeepBut.of_below hb g none) (.inl rfl)); have n5_ := am (below_step zq75 hb); clear HO512; clear HI0; clear BK509; clear HK; clear HB; have HO512 := n0_; have HO518 := n1_; have HI0 := n2_; have BK509 := n3_; have HK := n4_; have HB := n5_; clear n0_ n1_ n2_ n3_ n4_ n5_; clear hb ho14; obtain ⟨Ao15, co15, eo15⟩ := Kd.R_slice HO518.out; subst eo15) | ((with_reducible refine gate_callee (f := 67) rfl ?_); refine goesL_ (some 9) rfl rfl Tryd.func67 zq21 rfl #[.pointer (some ⟨g, 0, none⟩), .slice Ao15 y516.length co15] rfl zq5 ?_; (with_reducible refine (spec_l1Cur_of.calls g s0_0 t514 t515 _ _ y516 t519 t520 t521 w0 _ ?side1 ?side2 ?side3 ?side4 ?side5 A3.out).mono ?_); (case side1 => repeat (first | (with_reducible first | exact HI0.out | apply IsS83.alloc | apply IsS83.drewN | apply IsS83.drew | apply IsS83.set_1 | apply IsS83.set_2 | refine IsS83.far ?_ NB0_509.out _) | exact HI0.out)); (case side2 => repeat (first | (with_reducible first | exact HB.out | apply below_alloc | apply pw_below_drewN | apply below_drew1 | refine below_set ?_ (IsS83.ge HI0.out) | refine below_set ?_ GE509.out) | exact HB.out)); (case side3 => repeat (first | exact (Kd.R_reads' HO518.out).2.2 | (with_reducible refine Kd.C_alloc ?_ _) | (with_reducible refine Kd.C_drewN ?_ _) | (with_reducible refine Kd.C_drew ?_))); (case side4 => exact (Kd.R_reads' HO518.out).2.1); (case side5 => exact far_slice (IsS83.own_ne HI0.out HO518.out zq173)); rintro e w16 ⟨rfl, hi, hb, hk⟩; refine ⟨_, rfl, ?_⟩; have n0_ := am (KeepBut.blk hk (g' := gb509) (o := .cells #[.string ⟨#[]⟩, .string ⟨#[]⟩] 38 (0, 0)) zq72 NB509_0.out zq176); have n1_ := am (Kd.R_mono (Kd.R_keep (IsS83.apart (show IsS83 w0 _ g s0_0 t514 t515 from zq69) zq74 zq173) hk (fun _ h => h.2)) (fun _ h => h.1)); have n2_ := am (Kd.R_mono (Kd.R_keep (IsS83.apart (show IsS83 w0 _ g s0_0 t514 t515 from zq69) zq76 zq173) hk (fun _ h => h.2)) (fun _ h => h.1)); have n3_ := am (KeepBut.trans zq70 hk (.inl rfl)); have n4_ := am (hb); have n5_ := am (hi); clear BK509; clear HO512; clear HO518; clear HK; clear HB; clear HI0; have BK509 := n0_; have HO512 := n1_; have HO518 := n2_; have HK := n3_; have HB := n4_; have HI0 := n5_; clear n0_ n1_ n2_ n3_ n4_ n5_; (try clear hb); (try clear hb2); (try clear hk); (try clear hi)) | ((with_reducible refine gate_dst (N := 3) rfl ?_); refine box_event ?hg (N := 3) ?hd (cs := #[.string ⟨#[]⟩, .string ⟨#[]⟩]) (t := 38) ?hr ?_; (case hd => rfl); (case hg => rfl); (case hr => first | (go_simp; done) | (go_simp; rfl)); intro gb522 hg w17 hbox hb; have n0_ := am (Kd.R_below zq74 hb); have n1_ := am (Kd.R_below zq76 hb); have n2_ := am (IsS83.below zq69 hb); have n3_ := am (blk_below (g := gb509) (o := .cells #[.string ⟨#[]⟩, .string ⟨#[]⟩] 38 (0, 0)) zq72 hb); have n4_ := am (KeepBut.trans zq70 (KeepBut.of_below hb g none) (.inl rfl)); have n5_ := am (below_step zq75 hb); have n6_ := am (hbox); have n7_ := am ((zq88 : w.heap.size ≤ gb522)); have n8_ := am ((Nat.le_trans HW0.out (zq88 : w.heap.size ≤ gb522) : w0.heap.size ≤ gb522)); have n9_ := am ((zq89 : gb509 ≠ gb522)); have n10_ := am ((zq90 : gb522 ≠ gb509)); have n11_ := am ((zq185 : g ≠ gb522)); have n12_ := am ((zq186 : gb522 ≠ g)); clear HO512; clear HO518; clear HI0; clear BK509; clear HK; clear HB; have HO512 := n0_; have HO518 := n1_; have HI0 := n2_; have BK509 := n3_; have HK := n4_; have HB := n5_; have BK522 := n6_; have GW522 := n7_; have GE522 := n8_; have NB509_522 := n9_; have NB522_509 := n10_; have NB0_522 := n11_; have NB522_0 := n12_; clear n0_ n1_ n2_ n3_ n4_ n5_ n6_ n7_ n8_ n9_ n10_ n11_ n12_; clear hb hbox hg; have hnb18 := NB522_509.out; have hnc18 := NB509_522.out; have hnb19 := NB522_0.out; have hnc19 := NB0_522.out; have hcz20_0 : w17.cell? ⟨gb522, 0, none⟩ = some (.string ⟨#[]⟩) := (blk_cell BK522.out 0).trans rfl; have hcz20_1 : w17.cell? ⟨gb522, 1, none⟩ = some (.string ⟨#[]⟩) := (blk_cell BK522.out 1).trans rfl; have hfz20_0 := blk_frozen BK522.out 0; have hfz20_1 := blk_frozen BK522.out 1) | ((with_reducible refine gate_callee (f := 69) rfl ?_); refine goesL_ (some 12) rfl rfl Tryd.func69 zq21 rfl #[.pointer (some ⟨g, 0, none⟩), .int .i64 24] rfl zq5 ?_; (with_reducible refine (spec_l1Cur_pick.calls g s0_0 t520 t521 24 t523 t524 t525 w0 _ ?side1 ?side2 A4.out).mono ?_); (case side1 => repeat (first | (with_reducible first | exact HI0.out | apply IsS83.alloc | apply IsS83.drewN | apply IsS83.drew | apply IsS83.set_1 | apply IsS83.set_2 | refine IsS83.far ?_ NB0_509.out _ | refine IsS83.far ?_ NB0_522.out _) | exact HI0.out)); (case side2 => repeat (first | (with_reducible first | exact HB.out | apply below_alloc | apply pw_below_drewN | apply below_drew1 | refine below_set ?_ (IsS83.ge HI0.out) | refine below_set ?_ GE509.out | refine below_set ?_ GE522.out) | exact HB.out)); rintro e w21 ⟨rfl, hi, hb, hk⟩; refine ⟨_, rfl, ?_⟩; have n0_ := am (KeepBut.blk hk (g' := gb509) (o := .cells #[.string ⟨#[]⟩, .string ⟨#[]⟩] 38 (0, 0)) zq79 NB509_0.out zq176); have n1_ := am (Kd.R_mono (Kd.R_keep (IsS83.apart (show IsS83 w0 _ g s0_0 t520 t521 from zq71) zq80 zq173) hk (fun _ h => h.2)) (fun _ h => h.1)); have n2_ := am (Kd.R_mono (Kd.R_keep (IsS83.apart (show IsS83 w0 _ g s0_0 t520 t521 from zq71) zq81 zq173) hk (fun _ h => h.2)) (fun _ h => h.1)); have n3_ := am (KeepBut.blk hk (g' := gb522) (o := .cells #[.string t513, .string t519] 38 (0, 0)) zq78 NB522_0.out zq176); have n4_ := am (KeepBut.trans zq73 hk (.inl rfl)); have n5_ := am (hb); have n6_ := am (hi); clear BK509; clear HO512; clear HO518; clear BK522; clear HK; clear HB; clear HI0; have BK509 := n0_; have HO512 := n1_; have HO518 := n2_; have BK522 := n3_; have HK := n4_; have HB := n5_; have HI0 := n6_; clear n0_ n1_ n2_ n3_ n4_ n5_ n6_; (try clear hb); (try clear hb2); (try clear hk); (try clear hi)) | ((with_reducible refine gate_dst (N := 16) rfl ?_); refine Kd.R_make (Kd.int .u8) _ 5 rfl (N := 16) rfl 22 _ _ rfl 3 rfl rfl Tryd.underlying22 (.int .u8 0) 1 info5 rfl zq173 (by omega) 0 (ok := fun _ => True) (okp := fun _ => True) rfl (fun _ hk => hk) trivial (by omega) (by omega) (Below.refl _ _) (Nat.le_refl _) ?_; intro v527 w22 ho23 hb hg_ hnew_; clear hg_ hnew_; (first | rw [← Ny526.out] at ho23 | (simp only [Int.reduceToNat] at ho23; rw [← Ny526.out] at ho23)); have n0_ := am (Kd.R_below zq74 hb); have n1_ := am (Kd.R_below zq76 hb); have n2_ := am (Kd.R_lower ho23 (keep_size (w := w) (g := g) (row := none) zq73)); have n3_ := am (IsS83.below zq71 hb); have n4_ := am (blk_below (g := gb509) (o := .cells #[.string ⟨#[]⟩, .string ⟨#[]⟩] 38 (0, 0)) zq72 hb); have n5_ := am (blk_below (g := gb522) (o := .cells #[.string t513, .string t519] 38 (0, 0)) zq83 hb); have n6_ := am (KeepBut.trans zq73 (KeepBut.of_below hb g none) (.inl rfl)); have n7_ := am (below_step zq77 hb); clear HO512; clear HO518; clear HI0; clear BK509; clear BK522; clear HK; clear HB; have HO512 := n0_; have HO518 := n1_; have HO528 := n2_; have HI0 := n3_; have BK509 := n4_; have BK522 := n5_; have HK := n6_; have HB := n7_; clear n0_ n1_ n2_ n3_ n4_ n5_ n6_ n7_; clear hb ho23; have hcv24 := own_string (P := Tryd.prog) Tryd.underlying22 Tryd.underlying5 Tryd.underlying9 (Kd.own_of_R HO528.out)) | ((with_reducible refine gate_dst (N := 18) rfl ?_); refine Kd.R_lit Kd.string _ 9 ?hg (N := 18) ?hd (xs := ([(⟨#[]⟩ : ByteArray), (⟨#[97, 64, 98]⟩ : ByteArray), (⟨#[97, 35]⟩ : ByteArray), (⟨#[10]⟩ : ByteArray), strOfNums y526] : List ByteArray)) (inner := [.string ⟨#[]⟩, .string ⟨#[97, 64, 98]⟩, .string ⟨#[97, 35]⟩, .string ⟨#[10]⟩, .string (strOfNums y526)]) (ok := fun _ => True) (okp := fun _ => True) ?hr ?hp (fun _ hk => hk) trivial (Below.refl _ _) (Nat.le_refl _) zq176 ?_; (case hd => rfl); (case hg => rfl); (case hr => first | (go_simp; done) | (go_simp; rfl)); (case hp => exact (Reps.one (show Kd.M Kd.string _ _ _ (⟨#[]⟩ : ByteArray) [.string ⟨#[]⟩] from rfl) (Reps.one (show Kd.M Kd.string _ _ _ (⟨#[97, 64, 98]⟩ : ByteArray) [.string ⟨#[97, 64, 98]⟩] from rfl) (Reps.one (show Kd.M Kd.string _ _ _ (⟨#[97, 35]⟩ : ByteArray) [.string ⟨#[97, 35]⟩] from rfl) (Reps.one (show Kd.M Kd.string _ _ _ (⟨#[10]⟩ : ByteArray) [.string ⟨#[10]⟩] from rfl) (Reps.one (show Kd.M Kd.string _ _ _ (strOfNums y526) [.string (strOfNums y526)] from rfl) (Reps.none _ _))))))); intro v530 w25 ho26 hb hg_ hnew_; clear hg_ hnew_; (first | rw [← Ny529.out] at ho26 | (simp only [Int.reduceToNat] at ho26; rw [← Ny529.out] at ho26)); have n0_ := am (Kd.R_elder' zq74 (Kd.R_base ho26) hb); have n1_ := am (Kd.R_elder' zq76 (Kd.R_base ho26) hb); have n2_ := am (Kd.R_below zq207 hb); have n3_ := am (Kd.R_lower (Kd.R_new' (Kd.R_new' ho26 (Kd.R_lt zq74)) (Kd.R_lt zq76)) (keep_size (w := w) (g := g) (row := none) zq73)); have n4_ := am (IsS83.below zq71 hb); have n5_ := am (blk_below (g := gb509) (o := .cells #[.string ⟨#[]⟩, .string ⟨#[]⟩] 38 (0, 0)) zq72 hb); have n6_ := am (blk_below (g := gb522) (o := .cells #[.string t513, .string t519] 38 (0, 0)) zq83 hb); have n7_ := am (KeepBut.trans zq73 (KeepBut.of_below hb g none) (.inl rfl)); have n8_ := am (below_step zq77 hb); clear HO512; clear HO518; clear HO528; clear HI0; clear BK509; clear BK522; clear HK; clear HB; have HO512 := n0_; have HO518 := n1_; have HO528 := n2_; have HO531 := n3_; have HI0 := n4_; have BK509 := n5_; have BK522 := n6_; have HK := n7_; have HB := n8_; clear n0_ n1_ n2_ n3_ n4_ n5_ n6_ n7_ n8_; clear hb ho26; obtain ⟨Ao27, co27, eo27⟩ := Kd.R_slice HO531.out; subst eo27) | ((with_reducible refine gate_callee (f := 67) rfl ?_); refine goesL_ (some 19) rfl rfl Tryd.func67 zq21 rfl #[.pointer (some ⟨g, 0, none⟩), .slice Ao27 y529.length co27] rfl zq5 ?_; (with_reducible refine (spec_l1Cur_of.calls g s0_0 t524 t525 _ _ y529 t532 t533 t534 w0 _ ?side1 ?side2 ?side3 ?side4 ?side5 A7.out).mono ?_); (case side1 => repeat (first | (with_reducible first | exact HI0.out | apply IsS83.alloc | apply IsS83.drewN | apply IsS83.drew | apply IsS83.set_1 | apply IsS83.set_2 | refine IsS83.far ?_ NB0_509.out _ | refine IsS83.far ?_ NB0_522.out _) | exact HI0.out)); (case side2 => repeat (first | (with_reducible first | exact HB.out | apply below_alloc | apply pw_below_drewN | apply below_drew1 | refine below_set ?_ (IsS83.ge HI0.out) | refine below_set ?_ GE509.out | refine below_set ?_ GE522.out) | exact HB.out)); (case side3 => repeat (first | exact (Kd.R_reads' HO531.out).2.2 | (with_reducible refine Kd.C_alloc ?_ _) | (with_reducible refine Kd.C_drewN ?_ _) | (with_reducible refine Kd.C_drew ?_))); (case side4 => exact (Kd.R_reads' HO531.out).2.1); (case side5 => exact far_slice (IsS83.own_ne HI0.out HO531.out zq173)); rintro e w28 ⟨rfl, hi, hb, hk⟩; refine ⟨_, rfl, ?_⟩; have n0_ := am (KeepBut.blk hk (g' := gb509) (o := .cells #[.string ⟨#[]⟩, .string ⟨#[]⟩] 38 (0, 0)) zq72 NB509_0.out zq176); have n1_ := am (Kd.R_mono (Kd.R_keep (IsS83.apart (show IsS83 w0 _ g s0_0 t524 t525 from zq71) zq74 zq173) hk (fun _ h => h.2)) (fun _ h => h.1)); have n2_ := am (Kd.R_mono (Kd.R_keep (IsS83.apart (show IsS83 w0 _ g s0_0 t524 t525 from zq71) zq76 zq173) hk (fun _ h => h.2)) (fun _ h => h.1)); have n3_ := am (KeepBut.blk hk (g' := gb522) (o := .cells #[.string t513, .string t519] 38 (0, 0)) zq83 NB522_0.out zq176); have n4_ := am (Kd.R_mono (Kd.R_keep (IsS83.apart (show IsS83 w0 _ g s0_0 t524 t525 from zq71) zq207 zq173) hk (fun _ h => h.2)) (fun _ h => h.1)); have n5_ := am (Kd.R_mono (Kd.R_keep (IsS83.apart (show IsS83 w0 _ g s0_0 t524 t525 from zq71) (by (with_reducible repeat (first | apply Kd.R_alloc | apply Kd.R_drewN | apply Kd.R_drew)); exact HO531.out) zq173) hk (fun _ h => h.2)) (fun _ h => h.1)); have n6_ := am (KeepBut.trans zq73 hk (.inl rfl)); have n7_ := am (hb); have n8_ := am (hi); clear BK509; clear HO512; clear HO518; clear BK522; clear HO528; clear HO531; clear HK; clear HB; clear HI0; have BK509 := n0_; have HO512 := n1_; have HO518 := n2_; have BK522 := n3_; have HO528 := n4_; have HO531 := n5_; have HK := n6_; have HB := n7_; have HI0 := n8_; clear n0_ n1_ n2_ n3_ n4_ n5_ n6_ n7_ n8_; (try clear hb); (try clear hb2); (try clear hk); (try clear hi); have hcz29_0 : w28.cell? ⟨gb522, 0, none⟩ = some (.string t513) := (blk_cell BK522.out 0).trans rfl; have hcz29_1 : w28.cell? ⟨gb522, 1, none⟩ = some (.string t519) := (blk_cell BK522.out 1).trans rfl; have hfz29_0 := blk_frozen BK522.out 0; have hfz29_1 := blk_frozen BK522.out 1; have hnb30 := NB509_0.out; have hnc30 := NB0_509.out; have hcz31_0 : w28.cell? ⟨gb509, 0, none⟩ = some (.string ⟨#[]⟩) := (blk_cell BK509.out 0).trans rfl; have hcz31_1 : w28.cell? ⟨gb509, 1, none⟩ = some (.string ⟨#[]⟩) := (blk_cell BK509.out 1).trans rfl; have hfz31_0 := blk_frozen BK509.out 0; have hfz31_1 := blk_frozen BK509.out 1))
   refine bodyPost_ret (results_cell_row rfl _ _ gb509 38 #[.string t532, .string t519] (0, 0) _ rfl (by (with_reducible repeat (first | refine blk_drewN ?_ _ | refine blk_drew ?_ | refine blk_alloc ?_ _)); refine blk_put (cs := #[.string t532, .string ⟨#[]⟩]) ?_ 1 _ rfl; (with_reducible repeat (first | refine blk_drewN ?_ _ | refine blk_drew ?_ | refine blk_alloc ?_ _)); refine blk_put (cs := #[.string ⟨#[]⟩, .string ⟨#[]⟩]) ?_ 0 _ rfl; (with_reducible repeat (first | refine blk_drewN ?_ _ | refine blk_drew ?_ | refine blk_alloc ?_ _)); refine blk_far ?_ NB509_522.out _; (with_reducible repeat (first | refine blk_drewN ?_ _ | refine blk_drew ?_ | refine blk_alloc ?_ _)); exact BK509.out) Tryd.underlying38 rfl zq21) rfl ?_
   exact ⟨zq7, zq71, zq77, zq73⟩
  ·rw [if_neg c6] at H
   exact absurd H zq176
 ·rw [if_neg c5] at H
  have c5b0 : (t523 == 0) = false := beq_eq_false_iff_ne.mpr c5
  have c5b1 : (t523 != 0) = true := bne_iff_ne.mpr c5
  by_cases c32 : t523 = 1
  ·rw [if_pos c32] at H
   have c32b0 : (t523 == 1) = true := beq_iff_eq.mpr c32
   have c32b1 : (t523 != 1) = false := bne_eq_false_iff_eq.mpr c32
   clear c32
   obtain ⟨y535, hy535⟩ : ∃ y_ : List ByteArray, y_ = (([(⟨#[35]⟩ : ByteArray), (⟨#[10]⟩ : ByteArray), (⟨#[127]⟩ : ByteArray)] : List ByteArray)) := ⟨_, rfl⟩
   replace H : ((spec_l1Cur_of.f s0_0 t524 t525 y535).bind fun bt538 => (some (t513, bt538.1, bt538.2.1, bt538.2.2))) = some (r1, r2, r3, r4) := by first | (rw [hy535]; with_reducible exact H) | (have H2_ := (Option.bind_some _ _).symm.trans H; rw [hy535]; with_reducible exact H2_) | (have H2_ := (Option.bind_some _ _).symm.trans H; with_reducible exact H2_) | with_reducible exact H | (rw [hy535]; exact H) | exact H
   have Ny535 := am hy535
   clear hy535
   replace H := bem H
   obtain ⟨⟨t538, t539, t540⟩, A330, H⟩ := H
   replace H : (some (t513, t538, t539, t540)) = some (r1, r2, r3, r4) := H
   have A33 := am A330
   clear A330
   simp only [Option.some.injEq, Prod.mk.injEq] at H
   obtain ⟨rfl, rfl, rfl, rfl⟩ := H
   go_enter Tryd.func85, Tryd.ntmps85
   go_wp2_with (first | ((with_reducible refine gate_dst (N := 2) rfl ?_); refine box_event ?hg (N := 2) ?hd (cs := #[.string ⟨#[]⟩, .string ⟨#[]⟩]) (t := 38) ?hr ?_; (case hd => rfl); (case hg => rfl); (case hr => first | (go_simp; done) | (go_simp; rfl)); intro gb509 hg w34 hbox hb; have n0_ := am (IsS83.below zq67 hb); have n1_ := am (KeepBut.trans zq66 (KeepBut.of_below hb g none) (.inl rfl)); have n2_ := am (below_step zq68 hb); have n3_ := am (hbox); have n4_ := am ((zq87 : w.heap.size ≤ gb509)); have n5_ := am ((Nat.le_trans HW0.out (zq87 : w.heap.size ≤ gb509) : w0.heap.size ≤ gb509)); have n6_ := am ((zq113 : g ≠ gb509)); have n7_ := am ((zq114 : gb509 ≠ g)); clear HI0; clear HK; clear HB; have HI0 := n0_; have HK := n1_; have HB := n2_; have BK509 := n3_; have GW509 := n4_; have GE509 := n5_; have NB0_509 := n6_; have NB509_0 := n7_; clear n0_ n1_ n2_ n3_ n4_ n5_ n6_ n7_; clear hb hbox hg) | ((with_reducible refine gate_dst (N := 5) rfl ?_); refine Kd.R_lit Kd.string _ 9 ?hg (N := 5) ?hd (xs := ([(⟨#[114, 117, 110, 32, 48, 32, 49]⟩ : ByteArray), (⟨#[100, 114, 111, 112, 32, 48, 32, 49]⟩ : ByteArray), (⟨#[120]⟩ : ByteArray), (⟨#[102, 117, 101, 108, 32, 57]⟩ : ByteArray), (⟨#[48, 32, 49]⟩ : ByteArray)] : List ByteArray)) (inner := [.string ⟨#[114, 117, 110, 32, 48, 32, 49]⟩, .string ⟨#[100, 114, 111, 112, 32, 48, 32, 49]⟩, .string ⟨#[120]⟩, .string ⟨#[102, 117, 101, 108, 32, 57]⟩, .string ⟨#[48, 32, 49]⟩]) (ok := fun _ => True) (okp := fun _ => True) ?hr ?hp (fun _ hk => hk) trivial (Below.refl _ _) (Nat.le_refl _) zq176 ?_; (case hd => rfl); (case hg => rfl); (case hr => first | (go_simp; done) | (go_simp; rfl)); (case hp => exact (Reps.one (show Kd.M Kd.string _ _ _ (⟨#[114, 117, 110, 32, 48, 32, 49]⟩ : ByteArray) [.string ⟨#[114, 117, 110, 32, 48, 32, 49]⟩] from rfl) (Reps.one (show Kd.M Kd.string _ _ _ (⟨#[100, 114, 111, 112, 32, 48, 32, 49]⟩ : ByteArray) [.string ⟨#[100, 114, 111, 112, 32, 48, 32, 49]⟩] from rfl) (Reps.one (show Kd.M Kd.string _ _ _ (⟨#[120]⟩ : ByteArray) [.string ⟨#[120]⟩] from rfl) (Reps.one (show Kd.M Kd.string _ _ _ (⟨#[102, 117, 101, 108, 32, 57]⟩ : ByteArray) [.string ⟨#[102, 117, 101, 108, 32, 57]⟩] from rfl) (Reps.one (show Kd.M Kd.string _ _ _ (⟨#[48, 32, 49]⟩ : ByteArray) [.string ⟨#[48, 32, 49]⟩] from rfl) (Reps.none _ _))))))); intro v511 w35 ho36 hb hg_ hnew_; clear hg_ hnew_; (first | rw [← Ny510.out] at ho36 | (simp only [Int.reduceToNat] at ho36; rw [← Ny510.out] at ho36)); have n0_ := am (Kd.R_lower ho36 (keep_size (w := w) (g := g) (row := none) zq70)); have n1_ := am (IsS83.below zq69 hb); have n2_ := am (blk_below (g := gb509) (o := .cells #[.string ⟨#[]⟩, .string ⟨#[]⟩] 38 (0, 0)) zq72 hb); have n3_ := am (KeepBut.trans zq70 (KeepBut.of_below hb g none) (.inl rfl)); have n4_ := am (below_step zq75 hb); clear HI0; clear BK509; clear HK; clear HB; have HO512 := n0_; have HI0 := n1_; have BK509 := n2_; have HK := n3_; have HB := n4_; clear n0_ n1_ n2_ n3_ n4_; clear hb ho36; obtain ⟨Ao37, co37, eo37⟩ := Kd.R_slice HO512.out; subst eo37) | ((with_reducible refine gate_callee (f := 67) rfl ?_); refine goesL_ (some 6) rfl rfl Tryd.func67 zq21 rfl #[.pointer (some ⟨g, 0, none⟩), .slice Ao37 y510.length co37] rfl zq5 ?_; (with_reducible refine (spec_l1Cur_of.calls g s0_0 s0_1 s0_2 _ _ y510 t513 t514 t515 w0 _ ?side1 ?side2 ?side3 ?side4 ?side5 A2.out).mono ?_); (case side1 => repeat (first | (with_reducible first | exact HI0.out | apply IsS83.alloc | apply IsS83.drewN | apply IsS83.drew | apply IsS83.set_1 | apply IsS83.set_2 | refine IsS83.far ?_ NB0_509.out _) | exact HI0.out)); (case side2 => repeat (first | (with_reducible first | exact HB.out | apply below_alloc | apply pw_below_drewN | apply below_drew1 | refine below_set ?_ (IsS83.ge HI0.out) | refine below_set ?_ GE509.out) | exact HB.out)); (case side3 => repeat (first | exact (Kd.R_reads' HO512.out).2.2 | (with_reducible refine Kd.C_alloc ?_ _) | (with_reducible refine Kd.C_drewN ?_ _) | (with_reducible refine Kd.C_drew ?_))); (case side4 => exact (Kd.R_reads' HO512.out).2.1); (case side5 => exact far_slice (IsS83.own_ne HI0.out HO512.out zq173)); rintro e w38 ⟨rfl, hi, hb, hk⟩; refine ⟨_, rfl, ?_⟩; have n0_ := am (KeepBut.blk hk (g' := gb509) (o := .cells #[.string ⟨#[]⟩, .string ⟨#[]⟩] 38 (0, 0)) zq72 NB509_0.out zq176); have n1_ := am (Kd.R_mono (Kd.R_keep (IsS83.apart (show IsS83 w0 _ g s0_0 s0_1 s0_2 from zq69) zq74 zq173) hk (fun _ h => h.2)) (fun _ h => h.1)); have n2_ := am (KeepBut.trans zq70 hk (.inl rfl)); have n3_ := am (hb); have n4_ := am (hi); clear BK509; clear HO512; clear HK; clear HB; clear HI0; have BK509 := n0_; have HO512 := n1_; have HK := n2_; have HB := n3_; have HI0 := n4_; clear n0_ n1_ n2_ n3_ n4_; (try clear hb); (try clear hb2); (try clear hk); (try clear hi)) | ((with_reducible refine gate_dst (N := 8) rfl ?_); refine Kd.R_lit Kd.string _ 9 ?hg (N := 8) ?hd (xs := ([(⟨#[]⟩ : ByteArray), (⟨#[51]⟩ : ByteArray), (⟨#[63]⟩ : ByteArray), (⟨#[97, 64, 98]⟩ : ByteArray), (⟨#[51, 32, 49, 32, 50]⟩ : ByteArray)] : List ByteArray)) (inner := [.string ⟨#[]⟩, .string ⟨#[51]⟩, .string ⟨#[63]⟩, .string ⟨#[97, 64, 98]⟩, .string ⟨#[51, 32, 49, 32, 50]⟩]) (ok := fun _ => True) (okp := fun _ => True) ?hr ?hp (fun _ hk => hk) trivial (Below.refl _ _) (Nat.le_refl _) zq176 ?_; (case hd => rfl); (case hg => rfl); (case hr => first | (go_simp; done) | (go_simp; rfl)); (case hp => exact (Reps.one (show Kd.M Kd.string _ _ _ (⟨#[]⟩ : ByteArray) [.string ⟨#[]⟩] from rfl) (Reps.one (show Kd.M Kd.string _ _ _ (⟨#[51]⟩ : ByteArray) [.string ⟨#[51]⟩] from rfl) (Reps.one (show Kd.M Kd.string _ _ _ (⟨#[63]⟩ : ByteArray) [.string ⟨#[63]⟩] from rfl) (Reps.one (show Kd.M Kd.string _ _ _ (⟨#[97, 64, 98]⟩ : ByteArray) [.string ⟨#[97, 64, 98]⟩] from rfl) (Reps.one (show Kd.M Kd.string _ _ _ (⟨#[51, 32, 49, 32, 50]⟩ : ByteArray) [.string ⟨#[51, 32, 49, 32, 50]⟩] from rfl) (Reps.none _ _))))))); intro v517 w39 ho40 hb hg_ hnew_; clear hg_ hnew_; (first | rw [← Ny516.out] at ho40 | (simp only [Int.reduceToNat] at ho40; rw [← Ny516.out] at ho40)); have n0_ := am (Kd.R_elder' zq74 (Kd.R_base ho40) hb); have n1_ := am (Kd.R_lower (Kd.R_new' ho40 (Kd.R_lt zq74)) (keep_size (w := w) (g := g) (row := none) zq70)); have n2_ := am (IsS83.below zq69 hb); have n3_ := am (blk_below (g := gb509) (o := .cells #[.string ⟨#[]⟩, .string ⟨#[]⟩] 38 (0, 0)) zq72 hb); have n4_ := am (KeepBut.trans zq70 (KeepBut.of_below hb g none) (.inl rfl)); have n5_ := am (below_step zq75 hb); clear HO512; clear HI0; clear BK509; clear HK; clear HB; have HO512 := n0_; have HO518 := n1_; have HI0 := n2_; have BK509 := n3_; have HK := n4_; have HB := n5_; clear n0_ n1_ n2_ n3_ n4_ n5_; clear hb ho40; obtain ⟨Ao41, co41, eo41⟩ := Kd.R_slice HO518.out; subst eo41) | ((with_reducible refine gate_callee (f := 67) rfl ?_); refine goesL_ (some 9) rfl rfl Tryd.func67 zq21 rfl #[.pointer (some ⟨g, 0, none⟩), .slice Ao41 y516.length co41] rfl zq5 ?_; (with_reducible refine (spec_l1Cur_of.calls g s0_0 t514 t515 _ _ y516 t519 t520 t521 w0 _ ?side1 ?side2 ?side3 ?side4 ?side5 A3.out).mono ?_); (case side1 => repeat (first | (with_reducible first | exact HI0.out | apply IsS83.alloc | apply IsS83.drewN | apply IsS83.drew | apply IsS83.set_1 | apply IsS83.set_2 | refine IsS83.far ?_ NB0_509.out _) | exact HI0.out)); (case side2 => repeat (first | (with_reducible first | exact HB.out | apply below_alloc | apply pw_below_drewN | apply below_drew1 | refine below_set ?_ (IsS83.ge HI0.out) | refine below_set ?_ GE509.out) | exact HB.out)); (case side3 => repeat (first | exact (Kd.R_reads' HO518.out).2.2 | (with_reducible refine Kd.C_alloc ?_ _) | (with_reducible refine Kd.C_drewN ?_ _) | (with_reducible refine Kd.C_drew ?_))); (case side4 => exact (Kd.R_reads' HO518.out).2.1); (case side5 => exact far_slice (IsS83.own_ne HI0.out HO518.out zq173)); rintro e w42 ⟨rfl, hi, hb, hk⟩; refine ⟨_, rfl, ?_⟩; have n0_ := am (KeepBut.blk hk (g' := gb509) (o := .cells #[.string ⟨#[]⟩, .string ⟨#[]⟩] 38 (0, 0)) zq72 NB509_0.out zq176); have n1_ := am (Kd.R_mono (Kd.R_keep (IsS83.apart (show IsS83 w0 _ g s0_0 t514 t515 from zq69) zq74 zq173) hk (fun _ h => h.2)) (fun _ h => h.1)); have n2_ := am (Kd.R_mono (Kd.R_keep (IsS83.apart (show IsS83 w0 _ g s0_0 t514 t515 from zq69) zq76 zq173) hk (fun _ h => h.2)) (fun _ h => h.1)); have n3_ := am (KeepBut.trans zq70 hk (.inl rfl)); have n4_ := am (hb); have n5_ := am (hi); clear BK509; clear HO512; clear HO518; clear HK; clear HB; clear HI0; have BK509 := n0_; have HO512 := n1_; have HO518 := n2_; have HK := n3_; have HB := n4_; have HI0 := n5_; clear n0_ n1_ n2_ n3_ n4_ n5_; (try clear hb); (try clear hb2); (try clear hk); (try clear hi)) | ((with_reducible refine gate_dst (N := 3) rfl ?_); refine box_event ?hg (N := 3) ?hd (cs := #[.string ⟨#[]⟩, .string ⟨#[]⟩]) (t := 38) ?hr ?_; (case hd => rfl); (case hg => rfl); (case hr => first | (go_simp; done) | (go_simp; rfl)); intro gb522 hg w43 hbox hb; have n0_ := am (Kd.R_below zq74 hb); have n1_ := am (Kd.R_below zq76 hb); have n2_ := am (IsS83.below zq69 hb); have n3_ := am (blk_below (g := gb509) (o := .cells #[.string ⟨#[]⟩, .string ⟨#[]⟩] 38 (0, 0)) zq72 hb); have n4_ := am (KeepBut.trans zq70 (KeepBut.of_below hb g none) (.inl rfl)); have n5_ := am (below_step zq75 hb); have n6_ := am (hbox); have n7_ := am ((zq88 : w.heap.size ≤ gb522)); have n8_ := am ((Nat.le_trans HW0.out (zq88 : w.heap.size ≤ gb522) : w0.heap.size ≤ gb522)); have n9_ := am ((zq89 : gb509 ≠ gb522)); have n10_ := am ((zq90 : gb522 ≠ gb509)); have n11_ := am ((zq185 : g ≠ gb522)); have n12_ := am ((zq186 : gb522 ≠ g)); clear HO512; clear HO518; clear HI0; clear BK509; clear HK; clear HB; have HO512 := n0_; have HO518 := n1_; have HI0 := n2_; have BK509 := n3_; have HK := n4_; have HB := n5_; have BK522 := n6_; have GW522 := n7_; have GE522 := n8_; have NB509_522 := n9_; have NB522_509 := n10_; have NB0_522 := n11_; have NB522_0 := n12_; clear n0_ n1_ n2_ n3_ n4_ n5_ n6_ n7_ n8_ n9_ n10_ n11_ n12_; clear hb hbox hg; have hnb44 := NB522_509.out; have hnc44 := NB509_522.out; have hnb45 := NB522_0.out; have hnc45 := NB0_522.out; have hcz46_0 : w43.cell? ⟨gb522, 0, none⟩ = some (.string ⟨#[]⟩) := (blk_cell BK522.out 0).trans rfl; have hcz46_1 : w43.cell? ⟨gb522, 1, none⟩ = some (.string ⟨#[]⟩) := (blk_cell BK522.out 1).trans rfl; have hfz46_0 := blk_frozen BK522.out 0; have hfz46_1 := blk_frozen BK522.out 1) | ((with_reducible refine gate_callee (f := 69) rfl ?_); refine goesL_ (some 12) rfl rfl Tryd.func69 zq21 rfl #[.pointer (some ⟨g, 0, none⟩), .int .i64 24] rfl zq5 ?_; (with_reducible refine (spec_l1Cur_pick.calls g s0_0 t520 t521 24 t523 t524 t525 w0 _ ?side1 ?side2 A4.out).mono ?_); (case side1 => repeat (first | (with_reducible first | exact HI0.out | apply IsS83.alloc | apply IsS83.drewN | apply IsS83.drew | apply IsS83.set_1 | apply IsS83.set_2 | refine IsS83.far ?_ NB0_509.out _ | refine IsS83.far ?_ NB0_522.out _) | exact HI0.out)); (case side2 => repeat (first | (with_reducible first | exact HB.out | apply below_alloc | apply pw_below_drewN | apply below_drew1 | refine below_set ?_ (IsS83.ge HI0.out) | refine below_set ?_ GE509.out | refine below_set ?_ GE522.out) | exact HB.out)); rintro e w47 ⟨rfl, hi, hb, hk⟩; refine ⟨_, rfl, ?_⟩; have n0_ := am (KeepBut.blk hk (g' := gb509) (o := .cells #[.string ⟨#[]⟩, .string ⟨#[]⟩] 38 (0, 0)) zq79 NB509_0.out zq176); have n1_ := am (Kd.R_mono (Kd.R_keep (IsS83.apart (show IsS83 w0 _ g s0_0 t520 t521 from zq71) zq80 zq173) hk (fun _ h => h.2)) (fun _ h => h.1)); have n2_ := am (Kd.R_mono (Kd.R_keep (IsS83.apart (show IsS83 w0 _ g s0_0 t520 t521 from zq71) zq81 zq173) hk (fun _ h => h.2)) (fun _ h => h.1)); have n3_ := am (KeepBut.blk hk (g' := gb522) (o := .cells #[.string t513, .string t519] 38 (0, 0)) zq78 NB522_0.out zq176); have n4_ := am (KeepBut.trans zq73 hk (.inl rfl)); have n5_ := am (hb); have n6_ := am (hi); clear BK509; clear HO512; clear HO518; clear BK522; clear HK; clear HB; clear HI0; have BK509 := n0_; have HO512 := n1_; have HO518 := n2_; have BK522 := n3_; have HK := n4_; have HB := n5_; have HI0 := n6_; clear n0_ n1_ n2_ n3_ n4_ n5_ n6_; (try clear hb); (try clear hb2); (try clear hk); (try clear hi)) | ((with_reducible refine gate_dst (N := 24) rfl ?_); refine Kd.R_lit Kd.string _ 9 ?hg (N := 24) ?hd (xs := ([(⟨#[35]⟩ : ByteArray), (⟨#[10]⟩ : ByteArray), (⟨#[127]⟩ : ByteArray)] : List ByteArray)) (inner := [.string ⟨#[35]⟩, .string ⟨#[10]⟩, .string ⟨#[127]⟩]) (ok := fun _ => True) (okp := fun _ => True) ?hr ?hp (fun _ hk => hk) trivial (Below.refl _ _) (Nat.le_refl _) zq176 ?_; (case hd => rfl); (case hg => rfl); (case hr => first | (go_simp; done) | (go_simp; rfl)); (case hp => exact (Reps.one (show Kd.M Kd.string _ _ _ (⟨#[35]⟩ : ByteArray) [.string ⟨#[35]⟩] from rfl) (Reps.one (show Kd.M Kd.string _ _ _ (⟨#[10]⟩ : ByteArray) [.string ⟨#[10]⟩] from rfl) (Reps.one (show Kd.M Kd.string _ _ _ (⟨#[127]⟩ : ByteArray) [.string ⟨#[127]⟩] from rfl) (Reps.none _ _))))); intro v536 w48 ho49 hb hg_ hnew_; clear hg_ hnew_; (first | rw [← Ny535.out] at ho49 | (simp only [Int.reduceToNat] at ho49; rw [← Ny535.out] at ho49)); have n0_ := am (Kd.R_elder' zq74 (Kd.R_base ho49) hb); have n1_ := am (Kd.R_elder' zq76 (Kd.R_base ho49) hb); have n2_ := am (Kd.R_lower (Kd.R_new' (Kd.R_new' ho49 (Kd.R_lt zq74)) (Kd.R_lt zq76)) (keep_size (w := w) (g := g) (row := none) zq73)); have n3_ := am (IsS83.below zq71 hb); have n4_ := am (blk_below (g := gb509) (o := .cells #[.string ⟨#[]⟩, .string ⟨#[]⟩] 38 (0, 0)) zq72 hb); have n5_ := am (blk_below (g := gb522) (o := .cells #[.string t513, .string t519] 38 (0, 0)) zq83 hb); have n6_ := am (KeepBut.trans zq73 (KeepBut.of_below hb g none) (.inl rfl)); have n7_ := am (below_step zq77 hb); clear HO512; clear HO518; clear HI0; clear BK509; clear BK522; clear HK; clear HB; have HO512 := n0_; have HO518 := n1_; have HO537 := n2_; have HI0 := n3_; have BK509 := n4_; have BK522 := n5_; have HK := n6_; have HB := n7_; clear n0_ n1_ n2_ n3_ n4_ n5_ n6_ n7_; clear hb ho49; obtain ⟨Ao50, co50, eo50⟩ := Kd.R_slice HO537.out; subst eo50) | ((with_reducible refine gate_callee (f := 67) rfl ?_); refine goesL_ (some 25) rfl rfl Tryd.func67 zq21 rfl #[.pointer (some ⟨g, 0, none⟩), .slice Ao50 y535.length co50] rfl zq5 ?_; (with_reducible refine (spec_l1Cur_of.calls g s0_0 t524 t525 _ _ y535 t538 t539 t540 w0 _ ?side1 ?side2 ?side3 ?side4 ?side5 A33.out).mono ?_); (case side1 => repeat (first | (with_reducible first | exact HI0.out | apply IsS83.alloc | apply IsS83.drewN | apply IsS83.drew | apply IsS83.set_1 | apply IsS83.set_2 | refine IsS83.far ?_ NB0_509.out _ | refine IsS83.far ?_ NB0_522.out _) | exact HI0.out)); (case side2 => repeat (first | (with_reducible first | exact HB.out | apply below_alloc | apply pw_below_drewN | apply below_drew1 | refine below_set ?_ (IsS83.ge HI0.out) | refine below_set ?_ GE509.out | refine below_set ?_ GE522.out) | exact HB.out)); (case side3 => repeat (first | exact (Kd.R_reads' HO537.out).2.2 | (with_reducible refine Kd.C_alloc ?_ _) | (with_reducible refine Kd.C_drewN ?_ _) | (with_reducible refine Kd.C_drew ?_))); (case side4 => exact (Kd.R_reads' HO537.out).2.1); (case side5 => exact far_slice (IsS83.own_ne HI0.out HO537.out zq173)); rintro e w51 ⟨rfl, hi, hb, hk⟩; refine ⟨_, rfl, ?_⟩; have n0_ := am (KeepBut.blk hk (g' := gb509) (o := .cells #[.string ⟨#[]⟩, .string ⟨#[]⟩] 38 (0, 0)) zq72 NB509_0.out zq176); have n1_ := am (Kd.R_mono (Kd.R_keep (IsS83.apart (show IsS83 w0 _ g s0_0 t524 t525 from zq71) zq74 zq173) hk (fun _ h => h.2)) (fun _ h => h.1)); have n2_ := am (Kd.R_mono (Kd.R_keep (IsS83.apart (show IsS83 w0 _ g s0_0 t524 t525 from zq71) zq76 zq173) hk (fun _ h => h.2)) (fun _ h => h.1)); have n3_ := am (KeepBut.blk hk (g' := gb522) (o := .cells #[.string t513, .string t519] 38 (0, 0)) zq83 NB522_0.out zq176); have n4_ := am (Kd.R_mono (Kd.R_keep (IsS83.apart (show IsS83 w0 _ g s0_0 t524 t525 from zq71) (by (with_reducible repeat (first | apply Kd.R_alloc | apply Kd.R_drewN | apply Kd.R_drew)); exact HO537.out) zq173) hk (fun _ h => h.2)) (fun _ h => h.1)); have n5_ := am (KeepBut.trans zq73 hk (.inl rfl)); have n6_ := am (hb); have n7_ := am (hi); clear BK509; clear HO512; clear HO518; clear BK522; clear HO537; clear HK; clear HB; clear HI0; have BK509 := n0_; have HO512 := n1_; have HO518 := n2_; have BK522 := n3_; have HO537 := n4_; have HK := n5_; have HB := n6_; have HI0 := n7_; clear n0_ n1_ n2_ n3_ n4_ n5_ n6_ n7_; (try clear hb); (try clear hb2); (try clear hk); (try clear hi); have hcz52_0 : w51.cell? ⟨gb522, 0, none⟩ = some (.string t513) := (blk_cell BK522.out 0).trans rfl; have hcz52_1 : w51.cell? ⟨gb522, 1, none⟩ = some (.string t519) := (blk_cell BK522.out 1).trans rfl; have hfz52_0 := blk_frozen BK522.out 0; have hfz52_1 := blk_frozen BK522.out 1; have hnb53 := NB509_0.out; have hnc53 := NB0_509.out; have hcz54_0 : w51.cell? ⟨gb509, 0, none⟩ = some (.string ⟨#[]⟩) := (blk_cell BK509.out 0).trans rfl; have hcz54_1 : w51.cell? ⟨gb509, 1, none⟩ = some (.string ⟨#[]⟩) := (blk_cell BK509.out 1).trans rfl; have hfz54_0 := blk_frozen BK509.out 0; have hfz54_1 := blk_frozen BK509.out 1))
   refine bodyPost_ret (results_cell_row rfl _ _ gb509 38 #[.string t513, .string t538] (0, 0) _ rfl (by (with_reducible repeat (first | refine blk_drewN ?_ _ | refine blk_drew ?_ | refine blk_alloc ?_ _)); refine blk_put (cs := #[.string t513, .string ⟨#[]⟩]) ?_ 1 _ rfl; (with_reducible repeat (first | refine blk_drewN ?_ _ | refine blk_drew ?_ | refine blk_alloc ?_ _)); refine blk_put (cs := #[.string ⟨#[]⟩, .string ⟨#[]⟩]) ?_ 0 _ rfl; (with_reducible repeat (first | refine blk_drewN ?_ _ | refine blk_drew ?_ | refine blk_alloc ?_ _)); refine blk_far ?_ NB509_522.out _; (with_reducible repeat (first | refine blk_drewN ?_ _ | refine blk_drew ?_ | refine blk_alloc ?_ _)); exact BK509.out) Tryd.underlying38 rfl zq21) rfl ?_
   exact ⟨zq7, zq71, zq77, zq73⟩
  ·rw [if_neg c32] at H
   have c32b0 : (t523 == 1) = false := beq_eq_false_iff_ne.mpr c32
   have c32b1 : (t523 != 1) = true := bne_iff_ne.mpr c32
   simp only [Option.some.injEq, Prod.mk.injEq] at H
   obtain ⟨rfl, rfl, rfl, rfl⟩ := H
   go_enter Tryd.func85, Tryd.ntmps85
   go_wp2_with (first | ((with_reducible refine gate_dst (N := 2) rfl ?_); refine box_event ?hg (N := 2) ?hd (cs := #[.string ⟨#[]⟩, .string ⟨#[]⟩]) (t := 38) ?hr ?_; (case hd => rfl); (case hg => rfl); (case hr => first | (go_simp; done) | (go_simp; rfl)); intro gb509 hg w55 hbox hb; have n0_ := am (IsS83.below zq67 hb); have n1_ := am (KeepBut.trans zq66 (KeepBut.of_below hb g none) (.inl rfl)); have n2_ := am (below_step zq68 hb); have n3_ := am (hbox); have n4_ := am ((zq87 : w.heap.size ≤ gb509)); have n5_ := am ((Nat.le_trans HW0.out (zq87 : w.heap.size ≤ gb509) : w0.heap.size ≤ gb509)); have n6_ := am ((zq113 : g ≠ gb509)); have n7_ := am ((zq114 : gb509 ≠ g)); clear HI0; clear HK; clear HB; have HI0 := n0_; have HK := n1_; have HB := n2_; have BK509 := n3_; have GW509 := n4_; have GE509 := n5_; have NB0_509 := n6_; have NB509_0 := n7_; clear n0_ n1_ n2_ n3_ n4_ n5_ n6_ n7_; clear hb hbox hg) | ((with_reducible refine gate_dst (N := 5) rfl ?_); refine Kd.R_lit Kd.string _ 9 ?hg (N := 5) ?hd (xs := ([(⟨#[114, 117, 110, 32, 48, 32, 49]⟩ : ByteArray), (⟨#[100, 114, 111, 112, 32, 48, 32, 49]⟩ : ByteArray), (⟨#[120]⟩ : ByteArray), (⟨#[102, 117, 101, 108, 32, 57]⟩ : ByteArray), (⟨#[48, 32, 49]⟩ : ByteArray)] : List ByteArray)) (inner := [.string ⟨#[114, 117, 110, 32, 48, 32, 49]⟩, .string ⟨#[100, 114, 111, 112, 32, 48, 32, 49]⟩, .string ⟨#[120]⟩, .string ⟨#[102, 117, 101, 108, 32, 57]⟩, .string ⟨#[48, 32, 49]⟩]) (ok := fun _ => True) (okp := fun _ => True) ?hr ?hp (fun _ hk => hk) trivial (Below.refl _ _) (Nat.le_refl _) zq176 ?_; (case hd => rfl); (case hg => rfl); (case hr => first | (go_simp; done) | (go_simp; rfl)); (case hp => exact (Reps.one (show Kd.M Kd.string _ _ _ (⟨#[114, 117, 110, 32, 48, 32, 49]⟩ : ByteArray) [.string ⟨#[114, 117, 110, 32, 48, 32, 49]⟩] from rfl) (Reps.one (show Kd.M Kd.string _ _ _ (⟨#[100, 114, 111, 112, 32, 48, 32, 49]⟩ : ByteArray) [.string ⟨#[100, 114, 111, 112, 32, 48, 32, 49]⟩] from rfl) (Reps.one (show Kd.M Kd.string _ _ _ (⟨#[120]⟩ : ByteArray) [.string ⟨#[120]⟩] from rfl) (Reps.one (show Kd.M Kd.string _ _ _ (⟨#[102, 117, 101, 108, 32, 57]⟩ : ByteArray) [.string ⟨#[102, 117, 101, 108, 32, 57]⟩] from rfl) (Reps.one (show Kd.M Kd.string _ _ _ (⟨#[48, 32, 49]⟩ : ByteArray) [.string ⟨#[48, 32, 49]⟩] from rfl) (Reps.none _ _))))))); intro v511 w56 ho57 hb hg_ hnew_; clear hg_ hnew_; (first | rw [← Ny510.out] at ho57 | (simp only [Int.reduceToNat] at ho57; rw [← Ny510.out] at ho57)); have n0_ := am (Kd.R_lower ho57 (keep_size (w := w) (g := g) (row := none) zq70)); have n1_ := am (IsS83.below zq69 hb); have n2_ := am (blk_below (g := gb509) (o := .cells #[.string ⟨#[]⟩, .string ⟨#[]⟩] 38 (0, 0)) zq72 hb); have n3_ := am (KeepBut.trans zq70 (KeepBut.of_below hb g none) (.inl rfl)); have n4_ := am (below_step zq75 hb); clear HI0; clear BK509; clear HK; clear HB; have HO512 := n0_; have HI0 := n1_; have BK509 := n2_; have HK := n3_; have HB := n4_; clear n0_ n1_ n2_ n3_ n4_; clear hb ho57; obtain ⟨Ao58, co58, eo58⟩ := Kd.R_slice HO512.out; subst eo58) | ((with_reducible refine gate_callee (f := 67) rfl ?_); refine goesL_ (some 6) rfl rfl Tryd.func67 zq21 rfl #[.pointer (some ⟨g, 0, none⟩), .slice Ao58 y510.length co58] rfl zq5 ?_; (with_reducible refine (spec_l1Cur_of.calls g s0_0 s0_1 s0_2 _ _ y510 t513 t514 t515 w0 _ ?side1 ?side2 ?side3 ?side4 ?side5 A2.out).mono ?_); (case side1 => repeat (first | (with_reducible first | exact HI0.out | apply IsS83.alloc | apply IsS83.drewN | apply IsS83.drew | apply IsS83.set_1 | apply IsS83.set_2 | refine IsS83.far ?_ NB0_509.out _) | exact HI0.out)); (case side2 => repeat (first | (with_reducible first | exact HB.out | apply below_alloc | apply pw_below_drewN | apply below_drew1 | refine below_set ?_ (IsS83.ge HI0.out) | refine below_set ?_ GE509.out) | exact HB.out)); (case side3 => repeat (first | exact (Kd.R_reads' HO512.out).2.2 | (with_reducible refine Kd.C_alloc ?_ _) | (with_reducible refine Kd.C_drewN ?_ _) | (with_reducible refine Kd.C_drew ?_))); (case side4 => exact (Kd.R_reads' HO512.out).2.1); (case side5 => exact far_slice (IsS83.own_ne HI0.out HO512.out zq173)); rintro e w59 ⟨rfl, hi, hb, hk⟩; refine ⟨_, rfl, ?_⟩; have n0_ := am (KeepBut.blk hk (g' := gb509) (o := .cells #[.string ⟨#[]⟩, .string ⟨#[]⟩] 38 (0, 0)) zq72 NB509_0.out zq176); have n1_ := am (Kd.R_mono (Kd.R_keep (IsS83.apart (show IsS83 w0 _ g s0_0 s0_1 s0_2 from zq69) zq74 zq173) hk (fun _ h => h.2)) (fun _ h => h.1)); have n2_ := am (KeepBut.trans zq70 hk (.inl rfl)); have n3_ := am (hb); have n4_ := am (hi); clear BK509; clear HO512; clear HK; clear HB; clear HI0; have BK509 := n0_; have HO512 := n1_; have HK := n2_; have HB := n3_; have HI0 := n4_; clear n0_ n1_ n2_ n3_ n4_; (try clear hb); (try clear hb2); (try clear hk); (try clear hi)) | ((with_reducible refine gate_dst (N := 8) rfl ?_); refine Kd.R_lit Kd.string _ 9 ?hg (N := 8) ?hd (xs := ([(⟨#[]⟩ : ByteArray), (⟨#[51]⟩ : ByteArray), (⟨#[63]⟩ : ByteArray), (⟨#[97, 64, 98]⟩ : ByteArray), (⟨#[51, 32, 49, 32, 50]⟩ : ByteArray)] : List ByteArray)) (inner := [.string ⟨#[]⟩, .string ⟨#[51]⟩, .string ⟨#[63]⟩, .string ⟨#[97, 64, 98]⟩, .string ⟨#[51, 32, 49, 32, 50]⟩]) (ok := fun _ => True) (okp := fun _ => True) ?hr ?hp (fun _ hk => hk) trivial (Below.refl _ _) (Nat.le_refl _) zq176 ?_; (case hd => rfl); (case hg => rfl); (case hr => first | (go_simp; done) | (go_simp; rfl)); (case hp => exact (Reps.one (show Kd.M Kd.string _ _ _ (⟨#[]⟩ : ByteArray) [.string ⟨#[]⟩] from rfl) (Reps.one (show Kd.M Kd.string _ _ _ (⟨#[51]⟩ : ByteArray) [.string ⟨#[51]⟩] from rfl) (Reps.one (show Kd.M Kd.string _ _ _ (⟨#[63]⟩ : ByteArray) [.string ⟨#[63]⟩] from rfl) (Reps.one (show Kd.M Kd.string _ _ _ (⟨#[97, 64, 98]⟩ : ByteArray) [.string ⟨#[97, 64, 98]⟩] from rfl) (Reps.one (show Kd.M Kd.string _ _ _ (⟨#[51, 32, 49, 32, 50]⟩ : ByteArray) [.string ⟨#[51, 32, 49, 32, 50]⟩] from rfl) (Reps.none _ _))))))); intro v517 w60 ho61 hb hg_ hnew_; clear hg_ hnew_; (first | rw [← Ny516.out] at ho61 | (simp only [Int.reduceToNat] at ho61; rw [← Ny516.out] at ho61)); have n0_ := am (Kd.R_elder' zq74 (Kd.R_base ho61) hb); have n1_ := am (Kd.R_lower (Kd.R_new' ho61 (Kd.R_lt zq74)) (keep_size (w := w) (g := g) (row := none) zq70)); have n2_ := am (IsS83.below zq69 hb); have n3_ := am (blk_below (g := gb509) (o := .cells #[.string ⟨#[]⟩, .string ⟨#[]⟩] 38 (0, 0)) zq72 hb); have n4_ := am (KeepBut.trans zq70 (KeepBut.of_below hb g none) (.inl rfl)); have n5_ := am (below_step zq75 hb); clear HO512; clear HI0; clear BK509; clear HK; clear HB; have HO512 := n0_; have HO518 := n1_; have HI0 := n2_; have BK509 := n3_; have HK := n4_; have HB := n5_; clear n0_ n1_ n2_ n3_ n4_ n5_; clear hb ho61; obtain ⟨Ao62, co62, eo62⟩ := Kd.R_slice HO518.out; subst eo62) | ((with_reducible refine gate_callee (f := 67) rfl ?_); refine goesL_ (some 9) rfl rfl Tryd.func67 zq21 rfl #[.pointer (some ⟨g, 0, none⟩), .slice Ao62 y516.length co62] rfl zq5 ?_; (with_reducible refine (spec_l1Cur_of.calls g s0_0 t514 t515 _ _ y516 t519 t520 t521 w0 _ ?side1 ?side2 ?side3 ?side4 ?side5 A3.out).mono ?_); (case side1 => repeat (first | (with_reducible first | exact HI0.out | apply IsS83.alloc | apply IsS83.drewN | apply IsS83.drew | apply IsS83.set_1 | apply IsS83.set_2 | refine IsS83.far ?_ NB0_509.out _) | exact HI0.out)); (case side2 => repeat (first | (with_reducible first | exact HB.out | apply below_alloc | apply pw_below_drewN | apply below_drew1 | refine below_set ?_ (IsS83.ge HI0.out) | refine below_set ?_ GE509.out) | exact HB.out)); (case side3 => repeat (first | exact (Kd.R_reads' HO518.out).2.2 | (with_reducible refine Kd.C_alloc ?_ _) | (with_reducible refine Kd.C_drewN ?_ _) | (with_reducible refine Kd.C_drew ?_))); (case side4 => exact (Kd.R_reads' HO518.out).2.1); (case side5 => exact far_slice (IsS83.own_ne HI0.out HO518.out zq173)); rintro e w63 ⟨rfl, hi, hb, hk⟩; refine ⟨_, rfl, ?_⟩; have n0_ := am (KeepBut.blk hk (g' := gb509) (o := .cells #[.string ⟨#[]⟩, .string ⟨#[]⟩] 38 (0, 0)) zq72 NB509_0.out zq176); have n1_ := am (Kd.R_mono (Kd.R_keep (IsS83.apart (show IsS83 w0 _ g s0_0 t514 t515 from zq69) zq74 zq173) hk (fun _ h => h.2)) (fun _ h => h.1)); have n2_ := am (Kd.R_mono (Kd.R_keep (IsS83.apart (show IsS83 w0 _ g s0_0 t514 t515 from zq69) zq76 zq173) hk (fun _ h => h.2)) (fun _ h => h.1)); have n3_ := am (KeepBut.trans zq70 hk (.inl rfl)); have n4_ := am (hb); have n5_ := am (hi); clear BK509; clear HO512; clear HO518; clear HK; clear HB; clear HI0; have BK509 := n0_; have HO512 := n1_; have HO518 := n2_; have HK := n3_; have HB := n4_; have HI0 := n5_; clear n0_ n1_ n2_ n3_ n4_ n5_; (try clear hb); (try clear hb2); (try clear hk); (try clear hi)) | ((with_reducible refine gate_dst (N := 3) rfl ?_); refine box_event ?hg (N := 3) ?hd (cs := #[.string ⟨#[]⟩, .string ⟨#[]⟩]) (t := 38) ?hr ?_; (case hd => rfl); (case hg => rfl); (case hr => first | (go_simp; done) | (go_simp; rfl)); intro gb522 hg w64 hbox hb; have n0_ := am (Kd.R_below zq74 hb); have n1_ := am (Kd.R_below zq76 hb); have n2_ := am (IsS83.below zq69 hb); have n3_ := am (blk_below (g := gb509) (o := .cells #[.string ⟨#[]⟩, .string ⟨#[]⟩] 38 (0, 0)) zq72 hb); have n4_ := am (KeepBut.trans zq70 (KeepBut.of_below hb g none) (.inl rfl)); have n5_ := am (below_step zq75 hb); have n6_ := am (hbox); have n7_ := am ((zq88 : w.heap.size ≤ gb522)); have n8_ := am ((Nat.le_trans HW0.out (zq88 : w.heap.size ≤ gb522) : w0.heap.size ≤ gb522)); have n9_ := am ((zq89 : gb509 ≠ gb522)); have n10_ := am ((zq90 : gb522 ≠ gb509)); have n11_ := am ((zq185 : g ≠ gb522)); have n12_ := am ((zq186 : gb522 ≠ g)); clear HO512; clear HO518; clear HI0; clear BK509; clear HK; clear HB; have HO512 := n0_; have HO518 := n1_; have HI0 := n2_; have BK509 := n3_; have HK := n4_; have HB := n5_; have BK522 := n6_; have GW522 := n7_; have GE522 := n8_; have NB509_522 := n9_; have NB522_509 := n10_; have NB0_522 := n11_; have NB522_0 := n12_; clear n0_ n1_ n2_ n3_ n4_ n5_ n6_ n7_ n8_ n9_ n10_ n11_ n12_; clear hb hbox hg; have hnb65 := NB522_509.out; have hnc65 := NB509_522.out; have hnb66 := NB522_0.out; have hnc66 := NB0_522.out; have hcz67_0 : w64.cell? ⟨gb522, 0, none⟩ = some (.string ⟨#[]⟩) := (blk_cell BK522.out 0).trans rfl; have hcz67_1 : w64.cell? ⟨gb522, 1, none⟩ = some (.string ⟨#[]⟩) := (blk_cell BK522.out 1).trans rfl; have hfz67_0 := blk_frozen BK522.out 0; have hfz67_1 := blk_frozen BK522.out 1) | ((with_reducible refine gate_callee (f := 69) rfl ?_); refine goesL_ (some 12) rfl rfl Tryd.func69 zq21 rfl #[.pointer (some ⟨g, 0, none⟩), .int .i64 24] rfl zq5 ?_; (with_reducible refine (spec_l1Cur_pick.calls g s0_0 t520 t521 24 t523 t524 t525 w0 _ ?side1 ?side2 A4.out).mono ?_); (case side1 => repeat (first | (with_reducible first | exact HI0.out | apply IsS83.alloc | apply IsS83.drewN | apply IsS83.drew | apply IsS83.set_1 | apply IsS83.set_2 | refine IsS83.far ?_ NB0_509.out _ | refine IsS83.far ?_ NB0_522.out _) | exact HI0.out)); (case side2 => repeat (first | (with_reducible first | exact HB.out | apply below_alloc | apply pw_below_drewN | apply below_drew1 | refine below_set ?_ (IsS83.ge HI0.out) | refine below_set ?_ GE509.out | refine below_set ?_ GE522.out) | exact HB.out)); rintro e w68 ⟨rfl, hi, hb, hk⟩; refine ⟨_, rfl, ?_⟩; have n0_ := am (KeepBut.blk hk (g' := gb509) (o := .cells #[.string ⟨#[]⟩, .string ⟨#[]⟩] 38 (0, 0)) zq79 NB509_0.out zq176); have n1_ := am (Kd.R_mono (Kd.R_keep (IsS83.apart (show IsS83 w0 _ g s0_0 t520 t521 from zq71) zq80 zq173) hk (fun _ h => h.2)) (fun _ h => h.1)); have n2_ := am (Kd.R_mono (Kd.R_keep (IsS83.apart (show IsS83 w0 _ g s0_0 t520 t521 from zq71) zq81 zq173) hk (fun _ h => h.2)) (fun _ h => h.1)); have n3_ := am (KeepBut.blk hk (g' := gb522) (o := .cells #[.string t513, .string t519] 38 (0, 0)) zq78 NB522_0.out zq176); have n4_ := am (KeepBut.trans zq73 hk (.inl rfl)); have n5_ := am (hb); have n6_ := am (hi); clear BK509; clear HO512; clear HO518; clear BK522; clear HK; clear HB; clear HI0; have BK509 := n0_; have HO512 := n1_; have HO518 := n2_; have BK522 := n3_; have HK := n4_; have HB := n5_; have HI0 := n6_; clear n0_ n1_ n2_ n3_ n4_ n5_ n6_; (try clear hb); (try clear hb2); (try clear hk); (try clear hi); have hcz69_0 : w68.cell? ⟨gb522, 0, none⟩ = some (.string t513) := (blk_cell BK522.out 0).trans rfl; have hcz69_1 : w68.cell? ⟨gb522, 1, none⟩ = some (.string t519) := (blk_cell BK522.out 1).trans rfl; have hfz69_0 := blk_frozen BK522.out 0; have hfz69_1 := blk_frozen BK522.out 1; have hnb70 := NB509_0.out; have hnc70 := NB0_509.out; have hcz71_0 : w68.cell? ⟨gb509, 0, none⟩ = some (.string ⟨#[]⟩) := (blk_cell BK509.out 0).trans rfl; have hcz71_1 : w68.cell? ⟨gb509, 1, none⟩ = some (.string ⟨#[]⟩) := (blk_cell BK509.out 1).trans rfl; have hfz71_0 := blk_frozen BK509.out 0; have hfz71_1 := blk_frozen BK509.out 1))
   refine bodyPost_ret (results_cell_row rfl _ _ gb509 38 #[.string t513, .string t519] (0, 0) _ rfl (by (with_reducible repeat (first | refine blk_drewN ?_ _ | refine blk_drew ?_ | refine blk_alloc ?_ _)); refine blk_put (cs := #[.string t513, .string ⟨#[]⟩]) ?_ 1 _ rfl; (with_reducible repeat (first | refine blk_drewN ?_ _ | refine blk_drew ?_ | refine blk_alloc ?_ _)); refine blk_put (cs := #[.string ⟨#[]⟩, .string ⟨#[]⟩]) ?_ 0 _ rfl; (with_reducible repeat (first | refine blk_drewN ?_ _ | refine blk_drew ?_ | refine blk_alloc ?_ _)); exact BK509.out) Tryd.underlying38 rfl zq21) rfl ?_
   exact ⟨zq7, zq71, zq77, zq73⟩
def spec_DrawIsValidRecord.f (l0 : List Int) : Option (ByteArray × ByteArray) := (spec_l1Cur_logRecord.f l0 0 0).bind fun bt543 => (some (bt543.1, bt543.2.1))
set_option maxHeartbeats 8000000 in
set_option maxRecDepth 100000 in
theorem spec_DrawIsValidRecord.calls (A0 : Option Addr) (c0 : Nat) (l0 : List Int) (r1 : ByteArray) (r2 : ByteArray) (w : World) (hr0 : Kd.C (Kd.int .u8) w A0 l0.length l0) (hc0 : l0.length ≤ c0) (h : spec_DrawIsValidRecord.f l0 = some (r1, r2)) :
  Calls Tryd.prog 45 #[.slice A0 l0.length c0] w fun e w' => e = .returned (.agg #[.string r1, .string r2]) ∧ Below w.heap.size w w' := by
 have hu38 := Tryd.underlying38
 have hu83 := Tryd.underlying83
 have HR0 := am hr0
 have HC0 := am hc0
 clear hr0 hc0
 have HB := am (Below.refl w.heap.size w)
 have H : ((spec_l1Cur_logRecord.f l0 0 0).bind fun bt543 => (some (bt543.1, bt543.2.1))) = some (r1, r2) := h
 clear h
 replace H := bem H
 obtain ⟨⟨t543, t544, t545, t546⟩, A20, H⟩ := H
 replace H : (some (t543, t544)) = some (r1, r2) := H
 have A2 := am A20
 clear A20
 simp only [Option.some.injEq, Prod.mk.injEq] at H
 obtain ⟨rfl, rfl⟩ := H
 go_enter Tryd.func45, Tryd.ntmps45
 go_wp2_with (first | ((with_reducible refine gate_dst (N := 2) rfl ?_); refine box_event ?hg (N := 2) ?hd (cs := #[.string ⟨#[]⟩, .string ⟨#[]⟩]) (t := 38) ?hr ?_; (case hd => rfl); (case hg => rfl); (case hr => first | (go_simp; done) | (go_simp; rfl)); intro gb541 hg w3 hbox hb; have n0_ := am (below_step zq0 hb); have n1_ := am (hbox); have n2_ := am ((zq8 : w.heap.size ≤ gb541)); have n3_ := am ((zq8 : w.heap.size ≤ gb541)); clear HB; have HB := n0_; have BK541 := n1_; have GW541 := n2_; have GE541 := n3_; clear n0_ n1_ n2_ n3_; clear hb hbox hg) | ((with_reducible refine gate_dst (N := 6) rfl ?_); refine box_event ?hg (N := 6) ?hd (cs := #[.slice A0 l0.length c0, .int .i64 0, .int .u64 0]) (t := 83) ?hr ?_; (case hd => rfl); (case hg => rfl); (case hr => first | (go_simp; done) | (go_simp; rfl)); intro gb542 hg w4 hbox hb; have n0_ := am (blk_below (g := gb541) (o := .cells #[.string ⟨#[]⟩, .string ⟨#[]⟩] 38 (0, 0)) zq86 hb); have n1_ := am (below_step zq181 hb); have n2_ := am ((show IsS83 w w4 gb542 l0 0 0 from ⟨_, _, hbox, (by rw [hg]; exact (below_size zq181) : w.heap.size ≤ gb542), HR0.out⟩)); have n3_ := am ((by rw [hg]; exact Nat.ne_of_gt (blk_lt (g := gb541) (o := .cells #[.string ⟨#[]⟩, .string ⟨#[]⟩] 38 (0, 0)) zq86) : gb542 ≠ gb541)); have n4_ := am ((by rw [hg]; exact Nat.ne_of_lt (blk_lt (g := gb541) (o := .cells #[.string ⟨#[]⟩, .string ⟨#[]⟩] 38 (0, 0)) zq86) : gb541 ≠ gb542)); clear BK541; clear HB; have BK541 := n0_; have HB := n1_; have HI542 := n2_; have NB542_541 := n3_; have NB541_542 := n4_; clear n0_ n1_ n2_ n3_ n4_; clear hb hbox hg) | ((with_reducible refine gate_callee (f := 85) rfl ?_); refine goesL_ (some 8) rfl rfl Tryd.func85 zq21 rfl #[.pointer (some ⟨gb542, 0, none⟩)] rfl zq5 ?_; (with_reducible refine (spec_l1Cur_logRecord.calls gb542 l0 0 0 t543 t544 t545 t546 w _ ?side1 ?side2 A2.out).mono ?_); (case side1 => repeat (first | (with_reducible first | exact HI542.out | apply IsS83.alloc | apply IsS83.drewN | apply IsS83.drew | apply IsS83.set_1 | apply IsS83.set_2 | refine IsS83.far ?_ NB542_541.out _) | exact HI542.out)); (case side2 => repeat (first | (with_reducible first | exact HB.out | apply below_alloc | apply pw_below_drewN | apply below_drew1 | refine below_set ?_ (IsS83.ge HI542.out) | refine below_set ?_ GE541.out) | exact HB.out)); rintro e w5 ⟨rfl, hi, hb, hk⟩; refine ⟨_, rfl, ?_⟩; have n0_ := am (KeepBut.blk hk (g' := gb541) (o := .cells #[.string ⟨#[]⟩, .string ⟨#[]⟩] 38 (0, 0)) zq86 NB541_542.out zq176); have n1_ := am (hb); have n2_ := am (hi); clear BK541; clear HB; clear HI542; have BK541 := n0_; have HB := n1_; have HI542 := n2_; clear n0_ n1_ n2_; (try clear hb); (try clear hb2); (try clear hk); (try clear hi); have hnb6 := NB541_542.out; have hnc6 := NB542_541.out; have hcz7_0 : w5.cell? ⟨gb541, 0, none⟩ = some (.string ⟨#[]⟩) := (blk_cell BK541.out 0).trans rfl; have hcz7_1 : w5.cell? ⟨gb541, 1, none⟩ = some (.string ⟨#[]⟩) := (blk_cell BK541.out 1).trans rfl; have hfz7_0 := blk_frozen BK541.out 0; have hfz7_1 := blk_frozen BK541.out 1))
 refine bodyPost_ret (results_cell_row rfl _ _ gb541 38 #[.string t543, .string t544] (0, 0) _ rfl (by (with_reducible repeat (first | refine blk_drewN ?_ _ | refine blk_drew ?_ | refine blk_alloc ?_ _)); refine blk_put (cs := #[.string t543, .string ⟨#[]⟩]) ?_ 1 _ rfl; (with_reducible repeat (first | refine blk_drewN ?_ _ | refine blk_drew ?_ | refine blk_alloc ?_ _)); refine blk_put (cs := #[.string ⟨#[]⟩, .string ⟨#[]⟩]) ?_ 0 _ rfl; (with_reducible repeat (first | refine blk_drewN ?_ _ | refine blk_drew ?_ | refine blk_alloc ?_ _)); exact BK541.out) Tryd.underlying38 rfl zq21) rfl ?_
 exact ⟨zq7, by repeat (first | (with_reducible first | exact HB.out | apply below_alloc | apply pw_below_drewN | apply below_drew1 | refine below_set ?_ (IsS83.ge HI542.out) | refine below_set ?_ GE541.out) | exact HB.out)⟩
def spec_l1Cur_among.f (s0_0 : List Int) (s0_1 : Int) (s0_2 : Int) (l1 : List Int) : Option (Int × Int × Int) := (spec_l1Cur_pick.f s0_0 s0_1 s0_2 (l1.length : Int)).bind fun bt547 => (if 0 ≤ bt547.1 then (if bt547.1 < (l1.length : Int) then (some (rd l1 bt547.1, bt547.2.1, bt547.2.2)) else (none)) else (none))
set_option maxHeartbeats 8000000 in
set_option maxRecDepth 100000 in
theorem spec_l1Cur_among.calls (g : Nat) (s0_0 : List Int) (s0_1 : Int) (s0_2 : Int) (A1 : Option Addr) (c1 : Nat) (l1 : List Int) (r1 : Int) (r2 : Int) (r3 : Int) (w0 w : World) (hI : IsS83 w0 w g s0_0 s0_1 s0_2) (hB : Below w0.heap.size w0 w) (hr1 : Kd.C (Kd.int .i64) w A1 l1.length l1) (hc1 : l1.length ≤ c1) (hf1 : ∀ ad, A1 = some ad → 0 < l1.length → ad.block ≠ g) (h : spec_l1Cur_among.f s0_0 s0_1 s0_2 l1 = some (r1, r2, r3)) :
  Calls Tryd.prog 86 #[.pointer (some ⟨g, 0, none⟩), .slice A1 l1.length c1] w fun e w' => e = .returned (.int .i64 r1) ∧ IsS83 w0 w' g s0_0 r2 r3 ∧ Below w0.heap.size w0 w' ∧ KeepBut w w' g none := by
 have HR1 := am hr1
 have HC1 := am hc1
 clear hr1 hc1
 have HI0 := am hI
 have HK := am (KeepBut.refl w g none)
 have HL := am hB.size
 clear hI
 have HW0 := am hB.size
 have HB := am hB
 clear hB
 have H : ((spec_l1Cur_pick.f s0_0 s0_1 s0_2 (l1.length : Int)).bind fun bt547 => (if 0 ≤ bt547.1 then (if bt547.1 < (l1.length : Int) then (some (rd l1 bt547.1, bt547.2.1, bt547.2.2)) else (none)) else (none))) = some (r1, r2, r3) := h
 clear h
 replace H := bem H
 obtain ⟨⟨t547, t548, t549⟩, A30, H⟩ := H
 replace H : (if 0 ≤ t547 then (if t547 < (l1.length : Int) then (some (rd l1 t547, t548, t549)) else (none)) else (none)) = some (r1, r2, r3) := H
 have A3 := am A30
 clear A30
 by_cases c4 : 0 ≤ t547
 ·rw [if_pos c4] at H
  have c4b0 : decide (0 ≤ t547) = true := decide_eq_true c4
  clear c4
  by_cases c5 : t547 < (l1.length : Int)
  ·rw [if_pos c5] at H
   have c5b0 : decide (t547 < (l1.length : Int)) = true := decide_eq_true c5
   clear c5
   simp only [Option.some.injEq, Prod.mk.injEq] at H
   obtain ⟨rfl, rfl, rfl⟩ := H
   go_enter Tryd.func86, Tryd.ntmps86
   go_wp2_with (first | ((with_reducible refine gate_callee (f := 69) rfl ?_); refine goesL_ (some 9) rfl rfl Tryd.func69 zq21 rfl #[.pointer (some ⟨g, 0, none⟩), .int .i64 (l1.length : Int)] rfl zq5 ?_; (with_reducible refine (spec_l1Cur_pick.calls g s0_0 s0_1 s0_2 (l1.length : Int) t547 t548 t549 w0 _ ?side1 ?side2 A3.out).mono ?_); (case side1 => repeat (first | (with_reducible first | exact HI0.out | apply IsS83.alloc | apply IsS83.drewN | apply IsS83.drew | apply IsS83.set_1 | apply IsS83.set_2) | exact HI0.out)); (case side2 => repeat (first | (with_reducible first | exact HB.out | apply below_alloc | apply pw_below_drewN | apply below_drew1 | refine below_set ?_ (IsS83.ge HI0.out)) | exact HB.out)); rintro e w6 ⟨rfl, hi, hb, hk⟩; refine ⟨_, rfl, ?_⟩; have n0_ := am (KeepBut.trans zq66 hk (.inl rfl)); have n1_ := am (hb); have n2_ := am (hi); clear HK; clear HB; clear HI0; have HK := n0_; have HB := n1_; have HI0 := n2_; clear n0_ n1_ n2_; (try clear hb); (try clear hb2); (try clear hk); (try clear hi); have p550 : 0 ≤ (t547 : Int) := of_decide_eq_true zq3; have q550 : t547 < (l1.length : Int) := of_decide_eq_true zq3; obtain ⟨ad550, e550, hx550_0⟩ := Kd.at_int HR1.out t547 p550 q550; cases e550; replace hx550_0 := keep_cell HK.out hx550_0 (by first | (rw [add_block]; exact hf1 _ rfl (by omega)) | exact hf1 _ rfl (by omega) | exact hf1 ad550 rfl (by omega)); replace p550 := eq_true p550; replace q550 := eq_true q550))
   go_ret
   exact ⟨zq7, zq67, zq68, zq66⟩
  ·rw [if_neg c5] at H
   exact absurd H zq176
 ·rw [if_neg c4] at H
  exact absurd H zq176
def spec_DrawEncodeRecord.f (l0 : List Int) : Option (Int × ByteArray × ByteArray) := (spec_l1Cur_among.f l0 0 0 (([0, 1, 12, 59, 60, (-1)] : List Int))).bind fun bt556 => ((spec_l1Cur_logRecord.f l0 bt556.2.1 bt556.2.2).bind fun bt559 => (some (bt556.1, bt559.1, bt559.2.1)))
set_option maxHeartbeats 8000000 in
set_option maxRecDepth 100000 in
theorem spec_DrawEncodeRecord.calls (A0 : Option Addr) (c0 : Nat) (l0 : List Int) (r1 : Int) (r2 : ByteArray) (r3 : ByteArray) (w : World) (hr0 : Kd.C (Kd.int .u8) w A0 l0.length l0) (hc0 : l0.length ≤ c0) (h : spec_DrawEncodeRecord.f l0 = some (r1, r2, r3)) :
  Calls Tryd.prog 46 #[.slice A0 l0.length c0] w fun e w' => e = .returned (.tuple #[.int .i64 r1, .agg #[.string r2, .string r3]]) ∧ Below w.heap.size w w' := by
 have hu38 := Tryd.underlying38
 have hu83 := Tryd.underlying83
 have HR0 := am hr0
 have HC0 := am hc0
 clear hr0 hc0
 have HB := am (Below.refl w.heap.size w)
 have H : ((spec_l1Cur_among.f l0 0 0 (([0, 1, 12, 59, 60, (-1)] : List Int))).bind fun bt556 => ((spec_l1Cur_logRecord.f l0 bt556.2.1 bt556.2.2).bind fun bt559 => (some (bt556.1, bt559.1, bt559.2.1)))) = some (r1, r2, r3) := h
 clear h
 obtain ⟨y553, hy553⟩ : ∃ y_ : List Int, y_ = (([0, 1, 12, 59, 60, (-1)] : List Int)) := ⟨_, rfl⟩
 replace H : ((spec_l1Cur_among.f l0 0 0 y553).bind fun bt556 => ((spec_l1Cur_logRecord.f l0 bt556.2.1 bt556.2.2).bind fun bt559 => (some (bt556.1, bt559.1, bt559.2.1)))) = some (r1, r2, r3) := by first | (rw [hy553]; with_reducible exact H) | (have H2_ := (Option.bind_some _ _).symm.trans H; rw [hy553]; with_reducible exact H2_) | (have H2_ := (Option.bind_some _ _).symm.trans H; with_reducible exact H2_) | with_reducible exact H | (rw [hy553]; exact H) | exact H
 have Ny553 := am hy553
 clear hy553
 replace H := bem H
 obtain ⟨⟨t556, t557, t558⟩, A20, H⟩ := H
 replace H : ((spec_l1Cur_logRecord.f l0 t557 t558).bind fun bt559 => (some (t556, bt559.1, bt559.2.1))) = some (r1, r2, r3) := H
 have A2 := am A20
 clear A20
 replace H := bem H
 obtain ⟨⟨t559, t560, t561, t562⟩, A30, H⟩ := H
 replace H : (some (t556, t559, t560)) = some (r1, r2, r3) := H
 have A3 := am A30
 clear A30
 simp only [Option.some.injEq, Prod.mk.injEq] at H
 obtain ⟨rfl, rfl, rfl⟩ := H
 go_enter Tryd.func46, Tryd.ntmps46
 go_wp2_with (first | ((with_reducible refine gate_dst (N := 3) rfl ?_); refine box_event ?hg (N := 3) ?hd (cs := #[.string ⟨#[]⟩, .string ⟨#[]⟩]) (t := 38) ?hr ?_; (case hd => rfl); (case hg => rfl); (case hr => first | (go_simp; done) | (go_simp; rfl)); intro gb551 hg w4 hbox hb; have n0_ := am (below_step zq0 hb); have n1_ := am (hbox); have n2_ := am ((zq8 : w.heap.size ≤ gb551)); have n3_ := am ((zq8 : w.heap.size ≤ gb551)); clear HB; have HB := n0_; have BK551 := n1_; have GW551 := n2_; have GE551 := n3_; clear n0_ n1_ n2_ n3_; clear hb hbox hg) | ((with_reducible refine gate_dst (N := 8) rfl ?_); refine box_event ?hg (N := 8) ?hd (cs := #[.slice A0 l0.length c0, .int .i64 0, .int .u64 0]) (t := 83) ?hr ?_; (case hd => rfl); (case hg => rfl); (case hr => first | (go_simp; done) | (go_simp; rfl)); intro gb552 hg w5 hbox hb; have n0_ := am (blk_below (g := gb551) (o := .cells #[.string ⟨#[]⟩, .string ⟨#[]⟩] 38 (0, 0)) zq82 hb); have n1_ := am (below_step zq182 hb); have n2_ := am ((show IsS83 w w5 gb552 l0 0 0 from ⟨_, _, hbox, (by rw [hg]; exact (below_size zq182) : w.heap.size ≤ gb552), HR0.out⟩)); have n3_ := am ((by rw [hg]; exact Nat.ne_of_gt (blk_lt (g := gb551) (o := .cells #[.string ⟨#[]⟩, .string ⟨#[]⟩] 38 (0, 0)) zq82) : gb552 ≠ gb551)); have n4_ := am ((by rw [hg]; exact Nat.ne_of_lt (blk_lt (g := gb551) (o := .cells #[.string ⟨#[]⟩, .string ⟨#[]⟩] 38 (0, 0)) zq82) : gb551 ≠ gb552)); clear BK551; clear HB; have BK551 := n0_; have HB := n1_; have HI552 := n2_; have NB552_551 := n3_; have NB551_552 := n4_; clear n0_ n1_ n2_ n3_ n4_; clear hb hbox hg) | ((with_reducible refine gate_dst (N := 10) rfl ?_); refine Kd.R_lit (Kd.int .i64) _ 3 ?hg (N := 10) ?hd (xs := ([0, 1, 12, 59, 60, (-1)] : List Int)) (inner := [.int .i64 0, .int .i64 1, .int .i64 12, .int .i64 59, .int .i64 60, .int .i64 (-1)]) (ok := fun _ => True) (okp := fun _ => True) ?hr ?hp (fun _ hk => hk) trivial (Below.refl _ _) (Nat.le_refl _) zq176 ?_; (case hd => rfl); (case hg => rfl); (case hr => first | (go_simp; done) | (go_simp; rfl)); (case hp => exact (Reps.one (show Kd.M (Kd.int .i64) _ _ _ 0 [.int .i64 0] from rfl) (Reps.one (show Kd.M (Kd.int .i64) _ _ _ 1 [.int .i64 1] from rfl) (Reps.one (show Kd.M (Kd.int .i64) _ _ _ 12 [.int .i64 12] from rfl) (Reps.one (show Kd.M (Kd.int .i64) _ _ _ 59 [.int .i64 59] from rfl) (Reps.one (show Kd.M (Kd.int .i64) _ _ _ 60 [.int .i64 60] from rfl) (Reps.one (show Kd.M (Kd.int .i64) _ _ _ (-1) [.int .i64 (-1)] from rfl) (Reps.none _ _)))))))); intro v554 w6 ho7 hb hg_ hnew_; clear hg_ hnew_; (first | rw [← Ny553.out] at ho7 | (simp only [Int.reduceToNat] at ho7; rw [← Ny553.out] at ho7)); have n0_ := am (Kd.R_lower ho7 (below_size zq85)); have n1_ := am (blk_below (g := gb551) (o := .cells #[.string ⟨#[]⟩, .string ⟨#[]⟩] 38 (0, 0)) zq82 hb); have n2_ := am (IsS83.below zq84 hb); have n3_ := am (below_step zq85 hb); clear BK551; clear HI552; clear HB; have HO555 := n0_; have BK551 := n1_; have HI552 := n2_; have HB := n3_; clear n0_ n1_ n2_ n3_; clear hb ho7; obtain ⟨Ao8, co8, eo8⟩ := Kd.R_slice HO555.out; subst eo8) | ((with_reducible refine gate_callee (f := 86) rfl ?_); refine goesL_ (some 11) rfl rfl Tryd.func86 zq21 rfl #[.pointer (some ⟨gb552, 0, none⟩), .slice Ao8 y553.length co8] rfl zq5 ?_; (with_reducible refine (spec_l1Cur_among.calls gb552 l0 0 0 _ _ y553 t556 t557 t558 w _ ?side1 ?side2 ?side3 ?side4 ?side5 A2.out).mono ?_); (case side1 => repeat (first | (with_reducible first | exact HI552.out | apply IsS83.alloc | apply IsS83.drewN | apply IsS83.drew | apply IsS83.set_1 | apply IsS83.set_2 | refine IsS83.far ?_ NB552_551.out _) | exact HI552.out)); (case side2 => repeat (first | (with_reducible first | exact HB.out | apply below_alloc | apply pw_below_drewN | apply below_drew1 | refine below_set ?_ (IsS83.ge HI552.out) | refine below_set ?_ GE551.out) | exact HB.out)); (case side3 => repeat (first | exact (Kd.R_reads' HO555.out).2.2 | (with_reducible refine Kd.C_alloc ?_ _) | (with_reducible refine Kd.C_drewN ?_ _) | (with_reducible refine Kd.C_drew ?_))); (case side4 => exact (Kd.R_reads' HO555.out).2.1); (case side5 => exact far_slice (IsS83.own_ne HI552.out HO555.out zq173)); rintro e w9 ⟨rfl, hi, hb, hk⟩; refine ⟨_, rfl, ?_⟩; have n0_ := am (KeepBut.blk hk (g' := gb551) (o := .cells #[.string ⟨#[]⟩, .string ⟨#[]⟩] 38 (0, 0)) zq82 NB551_552.out zq176); have n1_ := am (Kd.R_mono (Kd.R_keep (IsS83.apart (show IsS83 w _ gb552 l0 0 0 from zq84) zq208 zq173) hk (fun _ h => h.2)) (fun _ h => h.1)); have n2_ := am (hb); have n3_ := am (hi); clear BK551; clear HO555; clear HB; clear HI552; have BK551 := n0_; have HO555 := n1_; have HB := n2_; have HI552 := n3_; clear n0_ n1_ n2_ n3_; (try clear hb); (try clear hb2); (try clear hk); (try clear hi)) | ((with_reducible refine gate_callee (f := 85) rfl ?_); refine goesL_ (some 14) rfl rfl Tryd.func85 zq21 rfl #[.pointer (some ⟨gb552, 0, none⟩)] rfl zq5 ?_; (with_reducible refine (spec_l1Cur_logRecord.calls gb552 l0 t557 t558 t559 t560 t561 t562 w _ ?side1 ?side2 A3.out).mono ?_); (case side1 => repeat (first | (with_reducible first | exact HI552.out | apply IsS83.alloc | apply IsS83.drewN | apply IsS83.drew | apply IsS83.set_1 | apply IsS83.set_2 | refine IsS83.far ?_ NB552_551.out _) | exact HI552.out)); (case side2 => repeat (first | (with_reducible first | exact HB.out | apply below_alloc | apply pw_below_drewN | apply below_drew1 | refine below_set ?_ (IsS83.ge HI552.out) | refine below_set ?_ GE551.out) | exact HB.out)); rintro e w10 ⟨rfl, hi, hb, hk⟩; refine ⟨_, rfl, ?_⟩; have n0_ := am (KeepBut.blk hk (g' := gb551) (o := .cells #[.string ⟨#[]⟩, .string ⟨#[]⟩] 38 (0, 0)) zq82 NB551_552.out zq176); have n1_ := am (Kd.R_mono (Kd.R_keep (IsS83.apart (show IsS83 w _ gb552 l0 t557 t558 from zq84) zq208 zq173) hk (fun _ h => h.2)) (fun _ h => h.1)); have n2_ := am (hb); have n3_ := am (hi); clear BK551; clear HO555; clear HB; clear HI552; have BK551 := n0_; have HO555 := n1_; have HB := n2_; have HI552 := n3_; clear n0_ n1_ n2_ n3_; (try clear hb); (try clear hb2); (try clear hk); (try clear hi); have hnb11 := NB551_552.out; have hnc11 := NB552_551.out; have hcz12_0 : w10.cell? ⟨gb551, 0, none⟩ = some (.string ⟨#[]⟩) := (blk_cell BK551.out 0).trans rfl; have hcz12_1 : w10.cell? ⟨gb551, 1, none⟩ = some (.string ⟨#[]⟩) := (blk_cell BK551.out 1).trans rfl; have hfz12_0 := blk_frozen BK551.out 0; have hfz12_1 := blk_frozen BK551.out 1))
 refine bodyPost_ret (results_tc rfl _ _ gb551 38 #[.string t559, .string t560] (0, 0) _ rfl (by (with_reducible repeat (first | refine blk_drewN ?_ _ | refine blk_drew ?_ | refine blk_alloc ?_ _)); refine blk_put (cs := #[.string t559, .string ⟨#[]⟩]) ?_ 1 _ rfl; (with_reducible repeat (first | refine blk_drewN ?_ _ | refine blk_drew ?_ | refine blk_alloc ?_ _)); refine blk_put (cs := #[.string ⟨#[]⟩, .string ⟨#[]⟩]) ?_ 0 _ rfl; (with_reducible repeat (first | refine blk_drewN ?_ _ | refine blk_drew ?_ | refine blk_alloc ?_ _)); exact BK551.out) Tryd.underlying38 rfl zq21) rfl ?_
 exact ⟨zq7, zq85⟩
def laws_vCut.j0 : Nat → List Int → Int → Option (List Int)
 | 0, _, _ => none
 | k + 1, x0, x1 => (some (([] : List Int) : List Int)).bind fun y563 => (if 0 ≤ x1 then (if x1 ≤ (x0.length : Int) then (if y563.length + (x0.drop (x1 : Int).toNat).length < 140737488355328 then ((some (y563 ++ (x0.drop (x1 : Int).toNat) : List Int)).bind fun y567 => (if y567.length < 140737488355328 then (some (y567 ++ [(x1) % 256])) else (none))) else (none)) else (none)) else (none))
def laws_vCut.f (k : Nat) (l0 : List Int) (a1 : Int) : Option (List Int) := if a1 > (l0.length : Int) then (laws_vCut.j0 k l0 (l0.length : Int)) else (laws_vCut.j0 k l0 a1)
set_option maxHeartbeats 8000000 in
set_option maxRecDepth 100000 in
theorem laws_vCut.calls (k : Nat) (A0 : Option Addr) (c0 : Nat) (l0 : List Int) (a1 : Int) (r : List Int) (w : World) (hr0 : Kd.C (Kd.int .u8) w A0 l0.length l0) (hc0 : l0.length ≤ c0) (h : laws_vCut.f k l0 a1 = some r) :
  Calls Tryd.prog 47 #[.slice A0 l0.length c0, .int .i64 a1] w fun e w' => ∃ v0_ : Value, e = .returned (v0_) ∧ Kd.R (Kd.int .u8) 5 w' w.heap.size (fun _ => True) v0_ r ∧ Below w.heap.size w w' := by
 have HR0 := am hr0
 have HC0 := am hc0
 clear hr0 hc0
 have HB := am (Below.refl w.heap.size w)
 have H : (if a1 > (l0.length : Int) then (laws_vCut.j0 k l0 (l0.length : Int)) else (laws_vCut.j0 k l0 a1)) = some r := h
 clear h
 have HC3 := am H
 clear H
 go_enter Tryd.func47, Tryd.ntmps47
 go_upto_if 8 with (fail)
 go_cut [1] (fun v1 wc => ∃ (kq : Nat) (x1_2 : Int), v1 = .int .i64 x1_2 ∧ Aside0 (laws_vCut.j0 kq l0 x1_2 = some r) ∧ Aside0 (kq ≤ k) ∧ Aside0 (Below w.heap.size w wc))
 case first =>
  have H := HC3.out
  clear HC3
  by_cases c4 : a1 > (l0.length : Int)
  ·rw [if_pos c4] at H
   have c4b0 : decide ((l0.length : Int) < a1) = true := decide_eq_true c4
   clear c4
   (first | rw [c4b0] | (simp only [i64_w, i32_w]; rw [c4b0]) | skip)
   have H' := am H
   clear H
   go_wp2
   go_meet
   case rel => exact ⟨_, ((l0.length : Int)), zq1, H', ⟨zq172⟩, ⟨zq0⟩⟩
  ·rw [if_neg c4] at H
   have c4b0 : decide ((l0.length : Int) < a1) = false := decide_eq_false c4
   clear c4
   (first | rw [c4b0] | (simp only [i64_w, i32_w]; rw [c4b0]) | skip)
   have H' := am H
   clear H
   go_wp2
   go_meet
   case rel => exact ⟨_, (a1), zq1, H', ⟨zq172⟩, ⟨zq0⟩⟩
 case rest =>
  clear HC3
  try clear p2
  try clear c4
  try clear c4b0
  obtain ⟨kq, x1_2, rfl, HA, HJ2, HB⟩ := hcut
  cases kq with
  | zero => exact absurd HA.out (by simp [laws_vCut.j0])
  | succ kj2 =>
   have H := HA.out
   clear HA
   simp only [laws_vCut.j0] at H
   obtain ⟨y563, hy563⟩ : ∃ y_ : List Int, y_ = (([] : List Int)) := ⟨_, rfl⟩
   replace H : (if 0 ≤ x1_2 then (if x1_2 ≤ (l0.length : Int) then (if y563.length + (l0.drop (x1_2 : Int).toNat).length < 140737488355328 then ((some (y563 ++ (l0.drop (x1_2 : Int).toNat) : List Int)).bind fun y567 => (if y567.length < 140737488355328 then (some (y567 ++ [(x1_2) % 256])) else (none))) else (none)) else (none)) else (none)) = some r := by first | (rw [hy563]; with_reducible exact H) | (have H2_ := (Option.bind_some _ _).symm.trans H; rw [hy563]; with_reducible exact H2_) | (have H2_ := (Option.bind_some _ _).symm.trans H; with_reducible exact H2_) | with_reducible exact H | (rw [hy563]; exact H) | exact H
   have Ny563 := am hy563
   clear hy563
   by_cases c5 : 0 ≤ x1_2
   ·rw [if_pos c5] at H
    have c5b0 := eq_true c5
    have c5b1 : decide (0 ≤ x1_2) = true := decide_eq_true c5
    clear c5
    by_cases c6 : x1_2 ≤ (l0.length : Int)
    ·rw [if_pos c6] at H
     have c6b0 := eq_true c6
     have c6b1 : decide (x1_2 ≤ (l0.length : Int)) = true := decide_eq_true c6
     clear c6
     by_cases c7 : y563.length + (l0.drop (x1_2 : Int).toNat).length < 140737488355328
     ·rw [if_pos c7] at H
      have LMc7 := am c7
      clear c7
      obtain ⟨y567, hy567⟩ : ∃ y_ : List Int, y_ = (y563 ++ (l0.drop (x1_2 : Int).toNat)) := ⟨_, rfl⟩
      replace H : (if y567.length < 140737488355328 then (some (y567 ++ [(x1_2) % 256])) else (none)) = some r := by first | (rw [hy567]; with_reducible exact H) | (have H2_ := (Option.bind_some _ _).symm.trans H; rw [hy567]; with_reducible exact H2_) | (have H2_ := (Option.bind_some _ _).symm.trans H; with_reducible exact H2_) | with_reducible exact H | (rw [hy567]; exact H) | exact H
      have Ny567 := am hy567
      clear hy567
      by_cases c8 : y567.length < 140737488355328
      ·rw [if_pos c8] at H
       have LMc8 := am c8
       clear c8
       obtain ⟨y570, hy570⟩ : ∃ y_ : List Int, y_ = (y567 ++ [(x1_2) % 256]) := ⟨_, rfl⟩
       replace H : (some y570) = some r := by first | (rw [hy570]; with_reducible exact H) | (have H2_ := (Option.bind_some _ _).symm.trans H; rw [hy570]; with_reducible exact H2_) | (have H2_ := (Option.bind_some _ _).symm.trans H; with_reducible exact H2_) | with_reducible exact H | (rw [hy570]; exact H) | exact H
       have Ny570 := am hy570
       clear hy570
       obtain rfl := Option.some.inj H
       go_wp2_with (first | ((with_reducible refine gate_dst (N := 11) rfl ?_); refine Kd.R_lit (Kd.int .u8) _ 5 ?hg (N := 11) ?hd (xs := ([] : List Int)) (inner := []) (ok := fun _ => True) (okp := fun _ => True) ?hr ?hp (fun _ hk => hk) trivial (Below.refl _ _) (Nat.le_refl _) zq176 ?_; (case hd => rfl); (case hg => rfl); (case hr => first | (go_simp; done) | (go_simp; rfl)); (case hp => exact (Reps.none _ _)); intro v564 w9 ho10 hb hg_ hnew_; clear hg_ hnew_; (first | rw [← Ny563.out] at ho10 | (simp only [Int.reduceToNat] at ho10; rw [← Ny563.out] at ho10)); have n0_ := am (Kd.R_lower ho10 (below_size zq0)); have n1_ := am (below_step zq0 hb); clear HB; have HO565 := n0_; have HB := n1_; clear n0_ n1_; clear hb ho10; obtain ⟨i011, hi011, _, hsz11, _⟩ := info_parts info5; obtain ⟨A11, hcut11, hA11, hC11⟩ := print_drop_of (P := Tryd.prog) (Value.int .u8) 0 22 5 .i64 Tryd.underlying22 hi011 hsz11 A0 c0 l0 x1_2 (of_decide_eq_true zq3) (of_decide_eq_true zq3) HC0.out; have HR566 := am (Kd.C_of_reads (h1 := fun _ => rfl) (hA11 _ (Kd.reads_of_C HR0.out))); have HC566 := am hC11; clear hA11 hC11 hi011 hsz11) | ((with_reducible refine gate_builtin (b := .append) (xs := #[.tmp 11, .tmp 14]) rfl ?_); at_builtin; refine Kd.R_append_rows (Kd.int .u8) (w0 := w) w.heap.size rfl (.tmp 11) (.tmp 14) 22 5 (.int .u8 0) 1 rfl Tryd.underlying22 info5 rfl zq173 (by omega) v564 y563 (l0.drop (x1_2 : Int).toNat) _ _ _ (fun _ => True) (fun _ => False) rfl rfl ?aO ?aR (fun _ _ h => h) (fun _ h => h.elim) ?aF ?aB ?aS ?aL ?_; (case aR => first | (rw [← show (l0.drop (x1_2 : Int).toNat).length = (l0.length - x1_2.toNat) from List.length_drop]; repeat (first | exact (Kd.C_below HR566.out HB.out) | (with_reducible refine Kd.C_alloc ?_ _) | (with_reducible refine Kd.C_drewN ?_ _) | (with_reducible refine Kd.C_drew ?_))) | (repeat (first | exact (Kd.C_below HR566.out HB.out) | (with_reducible refine Kd.C_alloc ?_ _) | (with_reducible refine Kd.C_drewN ?_ _) | (with_reducible refine Kd.C_drew ?_)))); (case aB => exact zq0); (case aF => exact (fun _ _ => trivial)); (case aO => exact (by (with_reducible repeat (first | apply Kd.R_alloc | apply Kd.R_drewN | apply Kd.R_drew)); exact HO565.out)); (case aS => exact (below_size zq0)); (case aL => have := LMc7.out; have hlx_ := (show (l0.drop (x1_2 : Int).toNat).length = (l0.length - x1_2.toNat) from List.length_drop); omega); intro v568 w12 ho hb hg hat; rw [← Ny567.out] at ho; have n0_ := am (hb); have n1_ := am (ho); clear HB; clear HO565; have HB := n0_; have HO569 := n1_; clear n0_ n1_; clear ho hb hg hat) | ((with_reducible refine gate_builtin (b := .append) (xs := #[.tmp 15, .tmp 18]) rfl ?_); at_builtin; refine Kd.R_append (Kd.int .u8) (w0 := w) w.heap.size rfl (.tmp 15) (.tmp 18) 22 5 (.int .u8 0) 1 rfl Tryd.underlying22 info5 rfl zq173 (by omega) v568 y567 ((x1_2) % 256) [.int .u8 ((x1_2) % 256)] (fun _ => True) (fun _ => False) rfl rfl ?aP (fun _ hk => hk.elim) ?aF ?aO ?aB ?aS ?aL ?_; (case aP => exact rfl); (case aB => exact zq0); (case aF => exact (fun _ _ => trivial)); (case aO => exact (by (with_reducible repeat (first | apply Kd.R_alloc | apply Kd.R_drewN | apply Kd.R_drew)); exact HO569.out)); (case aS => exact (below_size zq0)); (case aL => have := LMc8.out; omega); intro v571 w13 ho hb hg hat; rw [← Ny570.out] at ho; have n0_ := am (hb); have n1_ := am (ho); clear HB; clear HO569; have HB := n0_; have HO572 := n1_; clear n0_ n1_; clear ho hb hg hat))
       go_ret
       exact ⟨_, zq7, by (with_reducible repeat (first | apply Kd.R_alloc | apply Kd.R_drewN | apply Kd.R_drew)); exact HO572.out, zq0⟩
      ·rw [if_neg c8] at H
       exact absurd H zq176
     ·rw [if_neg c7] at H
      exact absurd H zq176
    ·rw [if_neg c6] at H
     exact absurd H zq176
   ·rw [if_neg c5] at H
    exact absurd H zq176
end Go.Proofs.YtgclcjohnnpejaaDoor.Pr
end

section

end

section

end

section
namespace Go.Proofs.YtgclcjohnnpejaaDoor.Pr
open Go.RowKit Go.Proofs.YtgclcjohnnpejaaDoorW.PrintWords Go.Proofs.YtgclcjohnnpejaaDoorW.PrintLast Go.Proofs.YtgclcjohnnpejaaDoorW.PrintMore
attribute [local go_sem] max2_int min2_int max_two min_two max_three min_three max_four min_four
set_option linter.unusedVariables false
set_option linter.unusedSimpArgs false
def spec_l1Cur_one.f (s0_0 : List Int) (s0_1 : Int) (s0_2 : Int) (a1 : Int) : Option (Bool × Int × Int) := (spec_l1Cur_pick.f s0_0 s0_1 s0_2 a1).bind fun bt420 => (some ((bt420.1 == 0), bt420.2.1, bt420.2.2))
set_option maxHeartbeats 8000000 in
set_option maxRecDepth 100000 in
theorem spec_l1Cur_one.calls (g : Nat) (s0_0 : List Int) (s0_1 : Int) (s0_2 : Int) (a1 : Int) (r1 : Bool) (r2 : Int) (r3 : Int) (w0 w : World) (hI : IsS83 w0 w g s0_0 s0_1 s0_2) (hB : Below w0.heap.size w0 w) (h : spec_l1Cur_one.f s0_0 s0_1 s0_2 a1 = some (r1, r2, r3)) :
  Calls Tryd.prog 70 #[.pointer (some ⟨g, 0, none⟩), .int .i64 a1] w fun e w' => e = .returned (.bool r1) ∧ IsS83 w0 w' g s0_0 r2 r3 ∧ Below w0.heap.size w0 w' ∧ KeepBut w w' g none := by
 have HI0 := am hI
 have HK := am (KeepBut.refl w g none)
 have HL := am hB.size
 clear hI
 have HW0 := am hB.size
 have HB := am hB
 clear hB
 have H : ((spec_l1Cur_pick.f s0_0 s0_1 s0_2 a1).bind fun bt420 => (some ((bt420.1 == 0), bt420.2.1, bt420.2.2))) = some (r1, r2, r3) := h
 clear h
 replace H := bem H
 obtain ⟨⟨t420, t421, t422⟩, A30, H⟩ := H
 replace H : (some ((t420 == 0), t421, t422)) = some (r1, r2, r3) := H
 have A3 := am A30
 clear A30
 simp only [Option.some.injEq, Prod.mk.injEq] at H
 obtain ⟨rfl, rfl, rfl⟩ := H
 go_enter Tryd.func70, Tryd.ntmps70
 go_wp2_with (first | ((with_reducible refine gate_callee (f := 69) rfl ?_); refine goesL_ (some 7) rfl rfl Tryd.func69 zq21 rfl #[.pointer (some ⟨g, 0, none⟩), .int .i64 a1] rfl zq5 ?_; (with_reducible refine (spec_l1Cur_pick.calls g s0_0 s0_1 s0_2 a1 t420 t421 t422 w0 _ ?side1 ?side2 A3.out).mono ?_); (case side1 => repeat (first | (with_reducible first | exact HI0.out | apply IsS83.alloc | apply IsS83.drewN | apply IsS83.drew | apply IsS83.set_1 | apply IsS83.set_2) | exact HI0.out)); (case side2 => repeat (first | (with_reducible first | exact HB.out | apply below_alloc | apply pw_below_drewN | apply below_drew1 | refine below_set ?_ (IsS83.ge HI0.out)) | exact HB.out)); rintro e w4 ⟨rfl, hi, hb, hk⟩; refine ⟨_, rfl, ?_⟩; have n0_ := am (KeepBut.trans zq66 hk (.inl rfl)); have n1_ := am (hb); have n2_ := am (hi); clear HK; clear HB; clear HI0; have HK := n0_; have HB := n1_; have HI0 := n2_; clear n0_ n1_ n2_; (try clear hb); (try clear hb2); (try clear hk); (try clear hi)))
 go_ret
 exact ⟨zq7, zq67, zq68, zq66⟩
end Go.Proofs.YtgclcjohnnpejaaDoor.Pr
end
