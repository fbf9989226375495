-- texts of this session, and of the kit's print, cut to what the claim leans on
import Derived.Test.YtgclcjohnnpejaaDoorMg4
import Derived.Test.YtgclcjohnnpejaaDoorMg5
import Derived.Test.YtgclcjohnnpejaaDoorMg3
section
namespace Go.Proofs.YtgclcjohnnpejaaDoor.Pr
open Go.RowKit Go.Proofs.YtgclcjohnnpejaaDoorW.PrintWords Go.Proofs.YtgclcjohnnpejaaDoorW.PrintLast Go.Proofs.YtgclcjohnnpejaaDoorW.PrintMore
attribute [local go_sem] max2_int min2_int max_two min_two max_three min_three max_four min_four
set_option linter.unusedVariables false
set_option linter.unusedSimpArgs false
def spec_l1Cur_log12.l0 : Nat → Int → List Int → Int → Int → ByteArray → ByteArray → Int → Option (ByteArray × ByteArray × Int × Int × Int)
 | 0, _, _, _, _, _, _, _ => none
 | k + 1, x4, x1000, x1001, x1002, x575000, x575001, x575002 => if x4 > 0 then ((spec_l1Cur_logRecord.f x1000 x1001 x1002).bind fun bt578 => ((spec_AppendRecord.f k x575000 x575001 x575002 bt578.1 bt578.2.1).bind fun bt582 => ((spec_l1Cur_one.f x1000 bt578.2.2.1 bt578.2.2.2 4).bind fun bt586 => (if bt586.1 = true then ((spec_SyncLog.f k bt582.1 bt582.2.1 bt582.2.2.1).bind fun bt589 => (spec_l1Cur_log12.l0 k (wrap64 (x4 - 1)) x1000 bt586.2.1 bt586.2.2 bt589.1 bt589.2.1 bt589.2.2.1)) else (spec_l1Cur_log12.l0 k (wrap64 (x4 - 1)) x1000 bt586.2.1 bt586.2.2 bt582.1 bt582.2.1 bt582.2.2.1))))) else (some (x575000, x575001, x575002, x1001, x1002))
def spec_l1Cur_log12.f (k : Nat) (s0_0 : List Int) (s0_1 : Int) (s0_2 : Int) : Option (ByteArray × ByteArray × Int × Int × Int) := (spec_l1Cur_pick.f s0_0 s0_1 s0_2 7).bind fun bt575 => (spec_l1Cur_log12.l0 k bt575.1 s0_0 bt575.2.1 bt575.2.2 (⟨#[]⟩ : ByteArray) (⟨#[]⟩ : ByteArray) 0)
def spec_l1Cur_log12.T5 : Bool × List (List Nat × List Nat) := (true, [([], []), ([], []), ([1], [1]), ([0, 2, 2], [0, 2]), ([3], [3]), ([4], [4]), ([4], [4]), ([5, 3, 0, 1, 2, 3, 4, 5], [5])])
def spec_l1Cur_log12.B5 : List Nat := [0, 0, 2, 7, 15, 31, 31, 63]
theorem spec_l1Cur_log12.tab5 : rtab .any (opsOf Tryd.f90 5) = spec_l1Cur_log12.T5 := by kernel_rfl
theorem spec_l1Cur_log12.bits5 : waitsOk spec_l1Cur_log12.T5.2 spec_l1Cur_log12.B5 = true := by kernel_rfl
set_option maxHeartbeats 8000000 in
set_option maxRecDepth 100000 in
theorem spec_l1Cur_log12.calls (k : Nat) (g : Nat) (s0_0 : List Int) (s0_1 : Int) (s0_2 : Int) (r1 : ByteArray) (r2 : ByteArray) (r3 : Int) (r4 : Int) (r5 : Int) (w0 w : World) (hI : IsS83 w0 w g s0_0 s0_1 s0_2) (hB : Below w0.heap.size w0 w) (h : spec_l1Cur_log12.f k s0_0 s0_1 s0_2 = some (r1, r2, r3, r4, r5)) :
  Calls Tryd.prog 90 #[.pointer (some ⟨g, 0, none⟩)] w fun e w' => e = .returned (.agg #[.string r1, .string r2, .int .i64 r3]) ∧ IsS83 w0 w' g s0_0 r4 r5 ∧ Below w0.heap.size w0 w' ∧ KeepBut w w' g none := by
 have hu42 := Tryd.underlying42
 have HI0 := am hI
 have HK := am (KeepBut.refl w g none)
 have HL := am hB.size
 clear hI
 have HW0 := am hB.size
 have HB := am hB
 clear hB
 have H : ((spec_l1Cur_pick.f s0_0 s0_1 s0_2 7).bind fun bt575 => (spec_l1Cur_log12.l0 k bt575.1 s0_0 bt575.2.1 bt575.2.2 (⟨#[]⟩ : ByteArray) (⟨#[]⟩ : ByteArray) 0)) = some (r1, r2, r3, r4, r5) := h
 clear h
 replace H := bem H
 obtain ⟨⟨t575, t576, t577⟩, A20, H⟩ := H
 replace H : (spec_l1Cur_log12.l0 k t575 s0_0 t576 t577 (⟨#[]⟩ : ByteArray) (⟨#[]⟩ : ByteArray) 0) = some (r1, r2, r3, r4, r5) := H
 have A2 := am A20
 clear A20
 have H' := am H
 clear H
 go_enter Tryd.func90, Tryd.ntmps90
 go_wp2_with (first | ((with_reducible refine gate_dst (N := 2) rfl ?_); refine box_event ?hg (N := 2) ?hd (cs := #[.string ⟨#[]⟩, .string ⟨#[]⟩, .int .i64 0]) (t := 42) ?hr ?_; (case hd => rfl); (case hg => rfl); (case hr => first | (go_simp; done) | (go_simp; rfl)); intro gb573 hg w3 hbox hb; have n0_ := am (IsS83.below zq67 hb); have n1_ := am (KeepBut.trans zq66 (KeepBut.of_below hb g none) (.inl rfl)); have n2_ := am (below_step zq68 hb); have n3_ := am (hbox); have n4_ := am ((zq87 : w.heap.size ≤ gb573)); have n5_ := am ((Nat.le_trans HW0.out (zq87 : w.heap.size ≤ gb573) : w0.heap.size ≤ gb573)); have n6_ := am ((zq113 : g ≠ gb573)); have n7_ := am ((zq114 : gb573 ≠ g)); clear HI0; clear HK; clear HB; have HI0 := n0_; have HK := n1_; have HB := n2_; have BK573 := n3_; have GW573 := n4_; have GE573 := n5_; have NB0_573 := n6_; have NB573_0 := n7_; clear n0_ n1_ n2_ n3_ n4_ n5_ n6_ n7_; clear hb hbox hg) | ((with_reducible refine gate_dst (N := 3) rfl ?_); refine box_event ?hg (N := 3) ?hd (cs := #[.string ⟨#[]⟩, .string ⟨#[]⟩, .int .i64 0]) (t := 42) ?hr ?_; (case hd => rfl); (case hg => rfl); (case hr => first | (go_simp; done) | (go_simp; rfl)); intro gb574 hg w4 hbox hb; have n0_ := am (IsS83.below zq98 hb); have n1_ := am (blk_below (g := gb573) (o := .cells #[.string ⟨#[]⟩, .string ⟨#[]⟩, .int .i64 0] 42 (0, 0)) zq95 hb); have n2_ := am (KeepBut.trans zq99 (KeepBut.of_below hb g none) (.inl rfl)); have n3_ := am (below_step (by repeat (first | (with_reducible first | exact HB.out | apply below_alloc | apply pw_below_drewN | apply below_drew1 | refine below_set ?_ (IsS83.ge HI0.out) | refine below_set ?_ GE573.out) | exact HB.out)) hb); have n4_ := am (hbox); have n5_ := am ((by rw [hg]; exact (keep_size (w := w) (g := g) (row := none) zq99) : w.heap.size ≤ gb574)); have n6_ := am ((Nat.le_trans HW0.out (by rw [hg]; exact (keep_size (w := w) (g := g) (row := none) zq99) : w.heap.size ≤ gb574) : w0.heap.size ≤ gb574)); have n7_ := am ((by rw [hg]; exact Nat.ne_of_lt (blk_lt (g := gb573) (o := .cells #[.string ⟨#[]⟩, .string ⟨#[]⟩, .int .i64 0] 42 (0, 0)) zq95) : gb573 ≠ gb574)); have n8_ := am ((by rw [hg]; exact Nat.ne_of_gt (blk_lt (g := gb573) (o := .cells #[.string ⟨#[]⟩, .string ⟨#[]⟩, .int .i64 0] 42 (0, 0)) zq95) : gb574 ≠ gb573)); have n9_ := am ((by rw [hg]; exact Nat.ne_of_lt (IsS83.lt (show IsS83 w0 _ g s0_0 s0_1 s0_2 from zq98)) : g ≠ gb574)); have n10_ := am ((by rw [hg]; exact Nat.ne_of_gt (IsS83.lt (show IsS83 w0 _ g s0_0 s0_1 s0_2 from zq98)) : gb574 ≠ g)); clear HI0; clear BK573; clear HK; clear HB; have HI0 := n0_; have BK573 := n1_; have HK := n2_; have HB := n3_; have BK574 := n4_; have GW574 := n5_; have GE574 := n6_; have NB573_574 := n7_; have NB574_573 := n8_; have NB0_574 := n9_; have NB574_0 := n10_; clear n0_ n1_ n2_ n3_ n4_ n5_ n6_ n7_ n8_ n9_ n10_; clear hb hbox hg; have hnb5 := NB574_573.out; have hnc5 := NB573_574.out; have hnb6 := NB574_0.out; have hnc6 := NB0_574.out; have hcz7_0 : w4.cell? ⟨gb574, 0, none⟩ = some (.string ⟨#[]⟩) := (blk_cell BK574.out 0).trans rfl; have hcz7_1 : w4.cell? ⟨gb574, 1, none⟩ = some (.string ⟨#[]⟩) := (blk_cell BK574.out 1).trans rfl; have hcz7_2 : w4.cell? ⟨gb574, 2, none⟩ = some (.int .i64 0) := (blk_cell BK574.out 2).trans rfl; have hfz7_0 := blk_frozen BK574.out 0; have hfz7_1 := blk_frozen BK574.out 1; have hfz7_2 := blk_frozen BK574.out 2) | ((with_reducible refine gate_callee (f := 69) rfl ?_); refine goesL_ (some 7) rfl rfl Tryd.func69 zq21 rfl #[.pointer (some ⟨g, 0, none⟩), .int .i64 7] rfl zq5 ?_; (with_reducible refine (spec_l1Cur_pick.calls g s0_0 s0_1 s0_2 7 t575 t576 t577 w0 _ ?side1 ?side2 A2.out).mono ?_); (case side1 => repeat (first | (with_reducible first | exact HI0.out | apply IsS83.alloc | apply IsS83.drewN | apply IsS83.drew | apply IsS83.set_1 | apply IsS83.set_2 | refine IsS83.far ?_ NB0_573.out _ | refine IsS83.far ?_ NB0_574.out _) | exact HI0.out)); (case side2 => repeat (first | (with_reducible first | exact HB.out | apply below_alloc | apply pw_below_drewN | apply below_drew1 | refine below_set ?_ (IsS83.ge HI0.out) | refine below_set ?_ GE573.out | refine below_set ?_ GE574.out) | exact HB.out)); rintro e w8 ⟨rfl, hi, hb, hk⟩; refine ⟨_, rfl, ?_⟩; have n0_ := am (KeepBut.blk hk (g' := gb573) (o := .cells #[.string ⟨#[]⟩, .string ⟨#[]⟩, .int .i64 0] 42 (0, 0)) zq92 NB573_0.out zq176); have n1_ := am (KeepBut.blk hk (g' := gb574) (o := .cells #[.string ⟨#[]⟩, .string ⟨#[]⟩, .int .i64 0] 42 (0, 0)) (by (with_reducible repeat (first | refine blk_drewN ?_ _ | refine blk_drew ?_ | refine blk_alloc ?_ _)); refine blk_put (cs := #[.string ⟨#[]⟩, .string ⟨#[]⟩, .int .i64 0]) ?_ 2 _ rfl; (with_reducible repeat (first | refine blk_drewN ?_ _ | refine blk_drew ?_ | refine blk_alloc ?_ _)); refine blk_put (cs := #[.string ⟨#[]⟩, .string ⟨#[]⟩, .int .i64 0]) ?_ 1 _ rfl; (with_reducible repeat (first | refine blk_drewN ?_ _ | refine blk_drew ?_ | refine blk_alloc ?_ _)); refine blk_put (cs := #[.string ⟨#[]⟩, .string ⟨#[]⟩, .int .i64 0]) ?_ 0 _ rfl; (with_reducible repeat (first | refine blk_drewN ?_ _ | refine blk_drew ?_ | refine blk_alloc ?_ _)); exact BK574.out) NB574_0.out zq176); have n2_ := am (KeepBut.trans zq91 hk (.inl rfl)); have n3_ := am (hb); have n4_ := am (hi); clear BK573; clear BK574; clear HK; clear HB; clear HI0; have BK573 := n0_; have BK574 := n1_; have HK := n2_; have HB := n3_; have HI0 := n4_; clear n0_ n1_ n2_ n3_ n4_; (try clear hb); (try clear hb2); (try clear hk); (try clear hi)))
 go_loopg [4] k (fun kq v4 w' => ∃ (x4_1 : Int) (x1001_1 : Int) (x1002_1 : Int) (x575000_1 : ByteArray) (x575001_1 : ByteArray) (x575002_1 : Int), v4 = .int .i64 x4_1 ∧ Aside0 (spec_l1Cur_log12.l0 kq x4_1 s0_0 x1001_1 x1002_1 x575000_1 x575001_1 x575002_1 = some (r1, r2, r3, r4, r5)) ∧ Aside0 (kq ≤ k) ∧ Aside0 (w'.heap[gb573]? = some (.cells #[.string ⟨#[]⟩, .string ⟨#[]⟩, .int .i64 0] 42 (0, 0))) ∧ Aside0 (w'.heap[gb574]? = some (.cells #[.string x575000_1, .string x575001_1, .int .i64 x575002_1] 42 (0, 0))) ∧ Aside0 (IsS83 w0 w' g s0_0 x1001_1 x1002_1) ∧ Aside0 (KeepBut w w' g none) ∧ Aside0 (Below w0.heap.size w0 w'))
 case atStart => exact ⟨(t575), (t576), (t577), ((⟨#[]⟩ : ByteArray)), ((⟨#[]⟩ : ByteArray)), (0), zq1, H', ⟨Nat.le_refl _⟩, ⟨zq95⟩, ⟨zq96⟩, ⟨zq93⟩, ⟨zq91⟩, ⟨zq94⟩⟩
 case round =>
  clear H'
  try clear p2
  try clear c5
  try clear c6
  try clear hcz7_0
  try clear hcz7_1
  try clear hcz7_2
  try clear hfz7_0
  try clear hfz7_1
  try clear hfz7_2
  obtain ⟨x4_1, x1001_1, x1002_1, x575000_1, x575001_1, x575002_1, rfl, HA, HK1, BK573, BK574, HI0, HK, HB⟩ := hrel
  cases gk with
  | zero => exact absurd HA.out (by simp [spec_l1Cur_log12.l0])
  | succ k1 =>
   have H := HA.out
   clear HA
   simp only [spec_l1Cur_log12.l0] at H
   by_cases c9 : x4_1 > 0
   ·rw [if_pos c9] at H
    have c9b0 : decide (0 < x4_1) = true := decide_eq_true c9
    clear c9
    replace H := bem H
    obtain ⟨⟨t578, t579, t580, t581⟩, A100, H⟩ := H
    replace H : ((spec_AppendRecord.f k1 x575000_1 x575001_1 x575002_1 t578 t579).bind fun bt582 => ((spec_l1Cur_one.f s0_0 t580 t581 4).bind fun bt586 => (if bt586.1 = true then ((spec_SyncLog.f k1 bt582.1 bt582.2.1 bt582.2.2.1).bind fun bt589 => (spec_l1Cur_log12.l0 k1 (wrap64 (x4_1 - 1)) s0_0 bt586.2.1 bt586.2.2 bt589.1 bt589.2.1 bt589.2.2.1)) else (spec_l1Cur_log12.l0 k1 (wrap64 (x4_1 - 1)) s0_0 bt586.2.1 bt586.2.2 bt582.1 bt582.2.1 bt582.2.2.1)))) = some (r1, r2, r3, r4, r5) := H
    have A10 := am A100
    clear A100
    replace H := bem H
    obtain ⟨⟨t582, t583, t584, t585⟩, A110, H⟩ := H
    replace H : ((spec_l1Cur_one.f s0_0 t580 t581 4).bind fun bt586 => (if bt586.1 = true then ((spec_SyncLog.f k1 t582 t583 t584).bind fun bt589 => (spec_l1Cur_log12.l0 k1 (wrap64 (x4_1 - 1)) s0_0 bt586.2.1 bt586.2.2 bt589.1 bt589.2.1 bt589.2.2.1)) else (spec_l1Cur_log12.l0 k1 (wrap64 (x4_1 - 1)) s0_0 bt586.2.1 bt586.2.2 t582 t583 t584))) = some (r1, r2, r3, r4, r5) := H
    have A11 := am A110
    clear A110
    replace H := bem H
    obtain ⟨⟨t586, t587, t588⟩, A120, H⟩ := H
    replace H : (if t586 = true then ((spec_SyncLog.f k1 t582 t583 t584).bind fun bt589 => (spec_l1Cur_log12.l0 k1 (wrap64 (x4_1 - 1)) s0_0 t587 t588 bt589.1 bt589.2.1 bt589.2.2.1)) else (spec_l1Cur_log12.l0 k1 (wrap64 (x4_1 - 1)) s0_0 t587 t588 t582 t583 t584)) = some (r1, r2, r3, r4, r5) := H
    have A12 := am A120
    clear A120
    by_cases c13 : t586 = true
    ·subst c13
     have H1 : ((spec_SyncLog.f k1 t582 t583 t584).bind fun bt589 => (spec_l1Cur_log12.l0 k1 (wrap64 (x4_1 - 1)) s0_0 t587 t588 bt589.1 bt589.2.1 bt589.2.2.1)) = some (r1, r2, r3, r4, r5) := by rw [if_pos rfl] at H; exact H
     clear H
     have H := H1
     clear H1
     replace H := bem H
     obtain ⟨⟨t589, t590, t591, t592⟩, A140, H⟩ := H
     replace H : (spec_l1Cur_log12.l0 k1 (wrap64 (x4_1 - 1)) s0_0 t587 t588 t589 t590 t591) = some (r1, r2, r3, r4, r5) := H
     have A14 := am A140
     clear A140
     have H' := am H
     clear H
     try go_wp2
     have n0_ := am (blk_drew BK573.out)
     have n1_ := am (blk_drew BK574.out)
     have n2_ := am (IsS83.drew HI0.out)
     have n3_ := am (keep_drew HK.out)
     have n4_ := am (below_drew1 HB.out)
     clear BK573
     clear BK574
     clear HI0
     clear HK
     clear HB
     have BK573 := n0_
     have BK574 := n1_
     have HI0 := n2_
     have HK := n3_
     have HB := n4_
     clear n0_ n1_ n2_ n3_ n4_
     refine start_ (n := 8) (S := fun w' => w'.cell? ⟨gb574, 0, none⟩ = some (.string x575000_1) ∧ w'.cell? ⟨gb574, 1, none⟩ = some (.string x575001_1) ∧ w'.cell? ⟨gb574, 2, none⟩ = some (.int .i64 x575002_1)) (ds := [7]) #[false, false, false, false, false, false, false, false] zq21 rfl rfl ⟨(blk_cell BK574.out 0).trans rfl, (blk_cell BK574.out 1).trans rfl, (blk_cell BK574.out 2).trans rfl⟩ (fun hHeld => ?_); refine with_tabW spec_l1Cur_log12.tab5 spec_l1Cur_log12.bits5 (fun HT_ HW_ => ?_)
     generalize wr.drew = w15 at BK573 BK574 HI0 HK HB hHeld ⊢
     refine pure_ (i := 1) (N := some 14) (v := ?_) (a' := ?_) #[false, true, false, false, false, false, false, false] rfl rfl (any_of HT_.out zq21) (fun _ _ _ h => h) (Or.inl ⟨by rfl, ?_⟩) ?_ ?_
     rotate_left
     ·intro w'
      go_simp
      with_reducible rfl
     rotate_left
     ·simp only [Act.put, List.setIfInBounds_toArray, List.set_cons_zero, List.set_cons_succ, i64_w, i32_w]
      rfl
     refine take_ (i := 0) (N := some 13) (v := ?_) (a' := ?_) #[true, true, false, false, false, false, false, false] rfl rfl (take_ofW HT_.out HW_.out zq21) (fun _ _ _ h => h) (Or.inl ⟨by rfl, ?_⟩) hHeld ?_ ?_
     rotate_left
     ·rintro w' ⟨s0, s1, s2⟩
      go_simp
      with_reducible rfl
     rotate_left
     ·simp only [Act.put, List.setIfInBounds_toArray, List.set_cons_zero, List.set_cons_succ, i64_w, i32_w]
      rfl
     refine one_ (i := 2) (N := some 15) #[true, true, true, false, false, false, false, false] rfl rfl (one_of HT_.out zq21) zq173 (fun K hK => ?_)
     refine goes_ Tryd.func85 zq21 rfl #[.pointer (some ⟨g, 0, none⟩)] (by rfl) rfl rfl zq5 ?_
     with_reducible refine (spec_l1Cur_logRecord.calls g s0_0 x1001_1 x1002_1 t578 t579 t580 t581 w0 _ ?side1 ?side2 A10.out).mono ?_
     (case side1 => repeat (first | (with_reducible first | exact HI0.out | apply IsS83.alloc | apply IsS83.drewN | apply IsS83.drew | apply IsS83.set_1 | apply IsS83.set_2 | refine IsS83.far ?_ NB0_573.out _ | refine IsS83.far ?_ NB0_574.out _) | exact HI0.out))
     (case side2 => repeat (first | (with_reducible first | exact HB.out | apply below_alloc | apply pw_below_drewN | apply below_drew1 | refine below_set ?_ (IsS83.ge HI0.out) | refine below_set ?_ GE573.out | refine below_set ?_ GE574.out) | exact HB.out))
     rintro e w16 ⟨rfl, hi, hb, hk⟩
     refine ⟨_, rfl, ?_⟩
     have n0_ := am (KeepBut.blk hk (g' := gb573) (o := .cells #[.string ⟨#[]⟩, .string ⟨#[]⟩, .int .i64 0] 42 (0, 0)) zq95 NB573_0.out zq176)
     have n1_ := am (KeepBut.blk hk (g' := gb574) (o := .cells #[.string x575000_1, .string x575001_1, .int .i64 x575002_1] 42 (0, 0)) zq96 NB574_0.out zq176)
     have n2_ := am (KeepBut.trans zq91 hk (.inl rfl))
     have n3_ := am (hb)
     have n4_ := am (hi)
     clear BK573
     clear BK574
     clear HK
     clear HB
     clear HI0
     have BK573 := n0_
     have BK574 := n1_
     have HK := n2_
     have HB := n3_
     have HI0 := n4_
     clear n0_ n1_ n2_ n3_ n4_
     (try clear hb)
     (try clear hb2)
     (try clear hk)
     (try clear hi)
     refine hK.out _ _ ⟨(blk_cell BK574.out 0).trans rfl, (blk_cell BK574.out 1).trans rfl, (blk_cell BK574.out 2).trans rfl⟩ (fun hHeld => ?_)
     clear hK K
     refine norm_ (a' := ?_) ?_ ?_
     rotate_left
     ·show Act.put _ (some 15) _ = _
      simp only [Act.put, List.setIfInBounds_toArray, List.set_cons_zero, List.set_cons_succ, i64_w, i32_w]
      rfl
     refine one_ (i := 3) (N := some 16) #[true, true, true, true, false, false, false, false] rfl rfl (one_of HT_.out zq21) zq173 (fun K hK => ?_)
     refine goes_ Tryd.func38 zq21 rfl #[.agg #[.string x575000_1, .string x575001_1, .int .i64 x575002_1], .agg #[.string t578, .string t579]] (by rfl) rfl rfl zq5 ?_
     with_reducible refine (spec_AppendRecord.calls k1 x575000_1 x575001_1 x575002_1 t578 t579 t582 t583 t584 t585 _ A11.out).mono ?_
     rintro e w17 ⟨rfl, hb⟩
     refine ⟨_, rfl, ?_⟩
     have n0_ := am (blk_below (g := gb573) (o := .cells #[.string ⟨#[]⟩, .string ⟨#[]⟩, .int .i64 0] 42 (0, 0)) zq95 hb)
     have n1_ := am (blk_below (g := gb574) (o := .cells #[.string x575000_1, .string x575001_1, .int .i64 x575002_1] 42 (0, 0)) zq96 hb)
     have n2_ := am (IsS83.below zq93 hb)
     have n3_ := am (KeepBut.trans zq91 (KeepBut.of_below hb g none) (.inl rfl))
     have n4_ := am (below_step zq94 hb)
     clear BK573
     clear BK574
     clear HI0
     clear HK
     clear HB
     have BK573 := n0_
     have BK574 := n1_
     have HI0 := n2_
     have HK := n3_
     have HB := n4_
     clear n0_ n1_ n2_ n3_ n4_
     (try clear hb)
     (try clear hb2)
     (try clear hk)
     (try clear hi)
     refine hK.out _ _ ⟨(blk_cell BK574.out 0).trans rfl, (blk_cell BK574.out 1).trans rfl, (blk_cell BK574.out 2).trans rfl⟩ (fun hHeld => ?_)
     clear hK K
     refine norm_ (a' := ?_) ?_ ?_
     rotate_left
     ·show Act.put _ (some 16) _ = _
      simp only [Act.put, List.setIfInBounds_toArray, List.set_cons_zero, List.set_cons_succ, i64_w, i32_w]
      rfl
     refine pure_ (i := 4) (N := some 12) (v := ?_) (a' := ?_) #[true, true, true, true, true, false, false, false] rfl rfl (any_of HT_.out zq21) (fun _ _ _ h => h) (Or.inl ⟨by rfl, ?_⟩) ?_ ?_
     rotate_left
     ·intro w'
      go_simp
      with_reducible rfl
     rotate_left
     ·simp only [Act.put, List.setIfInBounds_toArray, List.set_cons_zero, List.set_cons_succ, i64_w, i32_w]
      rfl
     refine pure_ (i := 5) (N := some 17) (v := ?_) (a' := ?_) #[true, true, true, true, true, true, false, false] rfl rfl (any_of HT_.out zq21) (fun _ _ _ h => h) (Or.inl ⟨by rfl, ?_⟩) ?_ ?_
     rotate_left
     ·intro w'
      go_simp
      with_reducible rfl
     rotate_left
     ·simp only [Act.put, List.setIfInBounds_toArray, List.set_cons_zero, List.set_cons_succ, i64_w, i32_w]
      rfl
     refine pure_ (i := 6) (N := some 18) (v := ?_) (a' := ?_) #[true, true, true, true, true, true, true, false] rfl rfl (any_of HT_.out zq21) (fun _ _ _ h => h) (Or.inl ⟨by rfl, ?_⟩) ?_ ?_
     rotate_left
     ·intro w'
      go_simp
      with_reducible rfl
     rotate_left
     ·simp only [Act.put, List.setIfInBounds_toArray, List.set_cons_zero, List.set_cons_succ, i64_w, i32_w]
      rfl
     refine last_ (i := 7) (N := none) #[true, true, true, true, true, true, true, true] rfl rfl (one_of HT_.out zq21) zq173 (fun K hK => ?_)
     have hs18 : w17.cell? ⟨gb574, 0, none⟩ = some (.string x575000_1) := (blk_cell BK574.out 0).trans rfl
     have hfs18 := blk_frozen BK574.out 0
     have hns18_0 := NB573_574.out
     have hms18_0 := NB574_573.out
     have hs19 : w17.cell? ⟨gb574, 1, none⟩ = some (.string x575001_1) := (blk_cell BK574.out 1).trans rfl
     have hfs19 := blk_frozen BK574.out 1
     have hns19_0 := NB573_574.out
     have hms19_0 := NB574_573.out
     have hs20 : w17.cell? ⟨gb574, 2, none⟩ = some (.int .i64 x575002_1) := (blk_cell BK574.out 2).trans rfl
     have hfs20 := blk_frozen BK574.out 2
     have hns20_0 := NB573_574.out
     have hms20_0 := NB574_573.out
     refine skip_ (w1 := ?_) (by rfl) rfl ?_ ?_
     rotate_left
     ·go_simp
      rfl
     refine hK.out _ _ ?_
     clear hK K
     refine done_ (done_of HT_.out zq21) ?_
     try go_wp2_with (first | ((with_reducible refine gate_callee (f := 70) rfl ?_); refine goesL_ (some 20) rfl rfl Tryd.func70 zq21 rfl #[.pointer (some ⟨g, 0, none⟩), .int .i64 4] rfl zq5 ?_; (with_reducible refine (spec_l1Cur_one.calls g s0_0 t580 t581 4 true t587 t588 w0 _ ?side1 ?side2 A12.out).mono ?_); (case side1 => repeat (first | (with_reducible first | exact HI0.out | apply IsS83.alloc | apply IsS83.drewN | apply IsS83.drew | apply IsS83.set_1 | apply IsS83.set_2 | refine IsS83.far ?_ NB0_573.out _ | refine IsS83.far ?_ NB0_574.out _) | exact HI0.out)); (case side2 => repeat (first | (with_reducible first | exact HB.out | apply below_alloc | apply pw_below_drewN | apply below_drew1 | refine below_set ?_ (IsS83.ge HI0.out) | refine below_set ?_ GE573.out | refine below_set ?_ GE574.out) | exact HB.out)); rintro e w21 ⟨rfl, hi, hb, hk⟩; refine ⟨_, rfl, ?_⟩; have n0_ := am (KeepBut.blk hk (g' := gb573) (o := .cells #[.string ⟨#[]⟩, .string ⟨#[]⟩, .int .i64 0] 42 (0, 0)) zq92 NB573_0.out zq176); have n1_ := am (KeepBut.blk hk (g' := gb574) (o := .cells #[.string t582, .string t583, .int .i64 t584] 42 (0, 0)) zq97 NB574_0.out zq176); have n2_ := am (KeepBut.trans zq91 hk (.inl rfl)); have n3_ := am (hb); have n4_ := am (hi); clear BK573; clear BK574; clear HK; clear HB; clear HI0; have BK573 := n0_; have BK574 := n1_; have HK := n2_; have HB := n3_; have HI0 := n4_; clear n0_ n1_ n2_ n3_ n4_; (try clear hb); (try clear hb2); (try clear hk); (try clear hi); have hnb22 := NB574_573.out; have hnc22 := NB573_574.out; have hnb23 := NB574_0.out; have hnc23 := NB0_574.out; have hcz24_0 : w21.cell? ⟨gb574, 0, none⟩ = some (.string t582) := (blk_cell BK574.out 0).trans rfl; have hcz24_1 : w21.cell? ⟨gb574, 1, none⟩ = some (.string t583) := (blk_cell BK574.out 1).trans rfl; have hcz24_2 : w21.cell? ⟨gb574, 2, none⟩ = some (.int .i64 t584) := (blk_cell BK574.out 2).trans rfl; have hfz24_0 := blk_frozen BK574.out 0; have hfz24_1 := blk_frozen BK574.out 1; have hfz24_2 := blk_frozen BK574.out 2) | ((with_reducible refine gate_callee (f := 36) rfl ?_); refine goesL_ (some 23) rfl rfl Tryd.func36 zq21 rfl #[.agg #[.string t582, .string t583, .int .i64 t584]] rfl zq5 ?_; (with_reducible refine (spec_SyncLog.calls k1 t582 t583 t584 t589 t590 t591 t592 _ A14.out).mono ?_); rintro e w25 ⟨rfl, hb⟩; refine ⟨_, rfl, ?_⟩; have n0_ := am (blk_below (g := gb573) (o := .cells #[.string ⟨#[]⟩, .string ⟨#[]⟩, .int .i64 0] 42 (0, 0)) zq95 hb); have n1_ := am (blk_below (g := gb574) (o := .cells #[.string t582, .string t583, .int .i64 t584] 42 (0, 0)) zq96 hb); have n2_ := am (IsS83.below zq93 hb); have n3_ := am (KeepBut.trans zq91 (KeepBut.of_below hb g none) (.inl rfl)); have n4_ := am (below_step zq94 hb); clear BK573; clear BK574; clear HI0; clear HK; clear HB; have BK573 := n0_; have BK574 := n1_; have HI0 := n2_; have HK := n3_; have HB := n4_; clear n0_ n1_ n2_ n3_ n4_; (try clear hb); (try clear hb2); (try clear hk); (try clear hi); have hcz26_0 : w25.cell? ⟨gb574, 0, none⟩ = some (.string t582) := (blk_cell BK574.out 0).trans rfl; have hcz26_1 : w25.cell? ⟨gb574, 1, none⟩ = some (.string t583) := (blk_cell BK574.out 1).trans rfl; have hcz26_2 : w25.cell? ⟨gb574, 2, none⟩ = some (.int .i64 t584) := (blk_cell BK574.out 2).trans rfl; have hfz26_0 := blk_frozen BK574.out 0; have hfz26_1 := blk_frozen BK574.out 1; have hfz26_2 := blk_frozen BK574.out 2))
     go_roundg k1
     case measure => have := HK1.out; omega
     case rel => exact ⟨(wrap64 (x4_1 - 1)), (t587), (t588), (t589), (t590), (t591), zq1, H', ⟨zq175⟩, ⟨zq92⟩, ⟨by (with_reducible repeat (first | refine blk_drewN ?_ _ | refine blk_drew ?_ | refine blk_alloc ?_ _)); refine blk_put (cs := #[.string t589, .string t590, .int .i64 t584]) ?_ 2 _ rfl; (with_reducible repeat (first | refine blk_drewN ?_ _ | refine blk_drew ?_ | refine blk_alloc ?_ _)); refine blk_put (cs := #[.string t589, .string t583, .int .i64 t584]) ?_ 1 _ rfl; (with_reducible repeat (first | refine blk_drewN ?_ _ | refine blk_drew ?_ | refine blk_alloc ?_ _)); refine blk_put (cs := #[.string t582, .string t583, .int .i64 t584]) ?_ 0 _ rfl; (with_reducible repeat (first | refine blk_drewN ?_ _ | refine blk_drew ?_ | refine blk_alloc ?_ _)); exact BK574.out⟩, ⟨zq93⟩, ⟨zq91⟩, ⟨zq94⟩⟩
    ·replace c13 := Bool.eq_false_iff.mpr c13
     subst c13
     have H1 : (spec_l1Cur_log12.l0 k1 (wrap64 (x4_1 - 1)) s0_0 t587 t588 t582 t583 t584) = some (r1, r2, r3, r4, r5) := by rw [if_neg (show ¬ (false = true) by decide)] at H; exact H
     clear H
     have H := H1
     clear H1
     have H' := am H
     clear H
     try go_wp2
     have n0_ := am (blk_drew BK573.out)
     have n1_ := am (blk_drew BK574.out)
     have n2_ := am (IsS83.drew HI0.out)
     have n3_ := am (keep_drew HK.out)
     have n4_ := am (below_drew1 HB.out)
     clear BK573
     clear BK574
     clear HI0
     clear HK
     clear HB
     have BK573 := n0_
     have BK574 := n1_
     have HI0 := n2_
     have HK := n3_
     have HB := n4_
     clear n0_ n1_ n2_ n3_ n4_
     refine start_ (n := 8) (S := fun w' => w'.cell? ⟨gb574, 0, none⟩ = some (.string x575000_1) ∧ w'.cell? ⟨gb574, 1, none⟩ = some (.string x575001_1) ∧ w'.cell? ⟨gb574, 2, none⟩ = some (.int .i64 x575002_1)) (ds := [7]) #[false, false, false, false, false, false, false, false] zq21 rfl rfl ⟨(blk_cell BK574.out 0).trans rfl, (blk_cell BK574.out 1).trans rfl, (blk_cell BK574.out 2).trans rfl⟩ (fun hHeld => ?_); refine with_tabW spec_l1Cur_log12.tab5 spec_l1Cur_log12.bits5 (fun HT_ HW_ => ?_)
     generalize wr.drew = w27 at BK573 BK574 HI0 HK HB hHeld ⊢
     refine pure_ (i := 1) (N := some 14) (v := ?_) (a' := ?_) #[false, true, false, false, false, false, false, false] rfl rfl (any_of HT_.out zq21) (fun _ _ _ h => h) (Or.inl ⟨by rfl, ?_⟩) ?_ ?_
     rotate_left
     ·intro w'
      go_simp
      with_reducible rfl
     rotate_left
     ·simp only [Act.put, List.setIfInBounds_toArray, List.set_cons_zero, List.set_cons_succ, i64_w, i32_w]
      rfl
     refine take_ (i := 0) (N := some 13) (v := ?_) (a' := ?_) #[true, true, false, false, false, false, false, false] rfl rfl (take_ofW HT_.out HW_.out zq21) (fun _ _ _ h => h) (Or.inl ⟨by rfl, ?_⟩) hHeld ?_ ?_
     rotate_left
     ·rintro w' ⟨s0, s1, s2⟩
      go_simp
      with_reducible rfl
     rotate_left
     ·simp only [Act.put, List.setIfInBounds_toArray, List.set_cons_zero, List.set_cons_succ, i64_w, i32_w]
      rfl
     refine one_ (i := 2) (N := some 15) #[true, true, true, false, false, false, false, false] rfl rfl (one_of HT_.out zq21) zq173 (fun K hK => ?_)
     refine goes_ Tryd.func85 zq21 rfl #[.pointer (some ⟨g, 0, none⟩)] (by rfl) rfl rfl zq5 ?_
     with_reducible refine (spec_l1Cur_logRecord.calls g s0_0 x1001_1 x1002_1 t578 t579 t580 t581 w0 _ ?side1 ?side2 A10.out).mono ?_
     (case side1 => repeat (first | (with_reducible first | exact HI0.out | apply IsS83.alloc | apply IsS83.drewN | apply IsS83.drew | apply IsS83.set_1 | apply IsS83.set_2 | refine IsS83.far ?_ NB0_573.out _ | refine IsS83.far ?_ NB0_574.out _) | exact HI0.out))
     (case side2 => repeat (first | (with_reducible first | exact HB.out | apply below_alloc | apply pw_below_drewN | apply below_drew1 | refine below_set ?_ (IsS83.ge HI0.out) | refine below_set ?_ GE573.out | refine below_set ?_ GE574.out) | exact HB.out))
     rintro e w28 ⟨rfl, hi, hb, hk⟩
     refine ⟨_, rfl, ?_⟩
     have n0_ := am (KeepBut.blk hk (g' := gb573) (o := .cells #[.string ⟨#[]⟩, .string ⟨#[]⟩, .int .i64 0] 42 (0, 0)) zq95 NB573_0.out zq176)
     have n1_ := am (KeepBut.blk hk (g' := gb574) (o := .cells #[.string x575000_1, .string x575001_1, .int .i64 x575002_1] 42 (0, 0)) zq96 NB574_0.out zq176)
     have n2_ := am (KeepBut.trans zq91 hk (.inl rfl))
     have n3_ := am (hb)
     have n4_ := am (hi)
     clear BK573
     clear BK574
     clear HK
     clear HB
     clear HI0
     have BK573 := n0_
     have BK574 := n1_
     have HK := n2_
     have HB := n3_
     have HI0 := n4_
     clear n0_ n1_ n2_ n3_ n4_
     (try clear hb)
     (try clear hb2)
     (try clear hk)
     (try clear hi)
     refine hK.out _ _ ⟨(blk_cell BK574.out 0).trans rfl, (blk_cell BK574.out 1).trans rfl, (blk_cell BK574.out 2).trans rfl⟩ (fun hHeld => ?_)
     clear hK K
     refine norm_ (a' := ?_) ?_ ?_
     rotate_left
     ·show Act.put _ (some 15) _ = _
      simp only [Act.put, List.setIfInBounds_toArray, List.set_cons_zero, List.set_cons_succ, i64_w, i32_w]
      rfl
     refine one_ (i := 3) (N := some 16) #[true, true, true, true, false, false, false, false] rfl rfl (one_of HT_.out zq21) zq173 (fun K hK => ?_)
     refine goes_ Tryd.func38 zq21 rfl #[.agg #[.string x575000_1, .string x575001_1, .int .i64 x575002_1], .agg #[.string t578, .string t579]] (by rfl) rfl rfl zq5 ?_
     with_reducible refine (spec_AppendRecord.calls k1 x575000_1 x575001_1 x575002_1 t578 t579 t582 t583 t584 t585 _ A11.out).mono ?_
     rintro e w29 ⟨rfl, hb⟩
     refine ⟨_, rfl, ?_⟩
     have n0_ := am (blk_below (g := gb573) (o := .cells #[.string ⟨#[]⟩, .string ⟨#[]⟩, .int .i64 0] 42 (0, 0)) zq95 hb)
     have n1_ := am (blk_below (g := gb574) (o := .cells #[.string x575000_1, .string x575001_1, .int .i64 x575002_1] 42 (0, 0)) zq96 hb)
     have n2_ := am (IsS83.below zq93 hb)
     have n3_ := am (KeepBut.trans zq91 (KeepBut.of_below hb g none) (.inl rfl))
     have n4_ := am (below_step zq94 hb)
     clear BK573
     clear BK574
     clear HI0
     clear HK
     clear HB
     have BK573 := n0_
     have BK574 := n1_
     have HI0 := n2_
     have HK := n3_
     have HB := n4_
     clear n0_ n1_ n2_ n3_ n4_
     (try clear hb)
     (try clear hb2)
     (try clear hk)
     (try clear hi)
     refine hK.out _ _ ⟨(blk_cell BK574.out 0).trans rfl, (blk_cell BK574.out 1).trans rfl, (blk_cell BK574.out 2).trans rfl⟩ (fun hHeld => ?_)
     clear hK K
     refine norm_ (a' := ?_) ?_ ?_
     rotate_left
     ·show Act.put _ (some 16) _ = _
      simp only [Act.put, List.setIfInBounds_toArray, List.set_cons_zero, List.set_cons_succ, i64_w, i32_w]
      rfl
     refine pure_ (i := 4) (N := some 12) (v := ?_) (a' := ?_) #[true, true, true, true, true, false, false, false] rfl rfl (any_of HT_.out zq21) (fun _ _ _ h => h) (Or.inl ⟨by rfl, ?_⟩) ?_ ?_
     rotate_left
     ·intro w'
      go_simp
      with_reducible rfl
     rotate_left
     ·simp only [Act.put, List.setIfInBounds_toArray, List.set_cons_zero, List.set_cons_succ, i64_w, i32_w]
      rfl
     refine pure_ (i := 5) (N := some 17) (v := ?_) (a' := ?_) #[true, true, true, true, true, true, false, false] rfl rfl (any_of HT_.out zq21) (fun _ _ _ h => h) (Or.inl ⟨by rfl, ?_⟩) ?_ ?_
     rotate_left
     ·intro w'
      go_simp
      with_reducible rfl
     rotate_left
     ·simp only [Act.put, List.setIfInBounds_toArray, List.set_cons_zero, List.set_cons_succ, i64_w, i32_w]
      rfl
     refine pure_ (i := 6) (N := some 18) (v := ?_) (a' := ?_) #[true, true, true, true, true, true, true, false] rfl rfl (any_of HT_.out zq21) (fun _ _ _ h => h) (Or.inl ⟨by rfl, ?_⟩) ?_ ?_
     rotate_left
     ·intro w'
      go_simp
      with_reducible rfl
     rotate_left
     ·simp only [Act.put, List.setIfInBounds_toArray, List.set_cons_zero, List.set_cons_succ, i64_w, i32_w]
      rfl
     refine last_ (i := 7) (N := none) #[true, true, true, true, true, true, true, true] rfl rfl (one_of HT_.out zq21) zq173 (fun K hK => ?_)
     have hs30 : w29.cell? ⟨gb574, 0, none⟩ = some (.string x575000_1) := (blk_cell BK574.out 0).trans rfl
     have hfs30 := blk_frozen BK574.out 0
     have hns30_0 := NB573_574.out
     have hms30_0 := NB574_573.out
     have hs31 : w29.cell? ⟨gb574, 1, none⟩ = some (.string x575001_1) := (blk_cell BK574.out 1).trans rfl
     have hfs31 := blk_frozen BK574.out 1
     have hns31_0 := NB573_574.out
     have hms31_0 := NB574_573.out
     have hs32 : w29.cell? ⟨gb574, 2, none⟩ = some (.int .i64 x575002_1) := (blk_cell BK574.out 2).trans rfl
     have hfs32 := blk_frozen BK574.out 2
     have hns32_0 := NB573_574.out
     have hms32_0 := NB574_573.out
     refine skip_ (w1 := ?_) (by rfl) rfl ?_ ?_
     rotate_left
     ·go_simp
      rfl
     refine hK.out _ _ ?_
     clear hK K
     refine done_ (done_of HT_.out zq21) ?_
     try go_wp2_with (first | ((with_reducible refine gate_callee (f := 70) rfl ?_); refine goesL_ (some 20) rfl rfl Tryd.func70 zq21 rfl #[.pointer (some ⟨g, 0, none⟩), .int .i64 4] rfl zq5 ?_; (with_reducible refine (spec_l1Cur_one.calls g s0_0 t580 t581 4 false t587 t588 w0 _ ?side1 ?side2 A12.out).mono ?_); (case side1 => repeat (first | (with_reducible first | exact HI0.out | apply IsS83.alloc | apply IsS83.drewN | apply IsS83.drew | apply IsS83.set_1 | apply IsS83.set_2 | refine IsS83.far ?_ NB0_573.out _ | refine IsS83.far ?_ NB0_574.out _) | exact HI0.out)); (case side2 => repeat (first | (with_reducible first | exact HB.out | apply below_alloc | apply pw_below_drewN | apply below_drew1 | refine below_set ?_ (IsS83.ge HI0.out) | refine below_set ?_ GE573.out | refine below_set ?_ GE574.out) | exact HB.out)); rintro e w33 ⟨rfl, hi, hb, hk⟩; refine ⟨_, rfl, ?_⟩; have n0_ := am (KeepBut.blk hk (g' := gb573) (o := .cells #[.string ⟨#[]⟩, .string ⟨#[]⟩, .int .i64 0] 42 (0, 0)) zq92 NB573_0.out zq176); have n1_ := am (KeepBut.blk hk (g' := gb574) (o := .cells #[.string t582, .string t583, .int .i64 t584] 42 (0, 0)) zq97 NB574_0.out zq176); have n2_ := am (KeepBut.trans zq91 hk (.inl rfl)); have n3_ := am (hb); have n4_ := am (hi); clear BK573; clear BK574; clear HK; clear HB; clear HI0; have BK573 := n0_; have BK574 := n1_; have HK := n2_; have HB := n3_; have HI0 := n4_; clear n0_ n1_ n2_ n3_ n4_; (try clear hb); (try clear hb2); (try clear hk); (try clear hi)))
     go_roundg k1
     case measure => have := HK1.out; omega
     case rel => exact ⟨(wrap64 (x4_1 - 1)), (t587), (t588), (t582), (t583), (t584), zq1, H', ⟨zq175⟩, ⟨zq95⟩, ⟨zq96⟩, ⟨zq93⟩, ⟨zq91⟩, ⟨zq94⟩⟩
   ·rw [if_neg c9] at H
    have c9b0 : decide (0 < x4_1) = false := decide_eq_false c9
    clear c9
    simp only [Option.some.injEq, Prod.mk.injEq] at H
    obtain ⟨rfl, rfl, rfl, rfl, rfl⟩ := H
    have hnb34 := NB574_573.out
    have hnc34 := NB573_574.out
    have hnb35 := NB574_0.out
    have hnc35 := NB0_574.out
    have hcz36_0 : wr.cell? ⟨gb574, 0, none⟩ = some (.string x575000_1) := (blk_cell BK574.out 0).trans rfl
    have hcz36_1 : wr.cell? ⟨gb574, 1, none⟩ = some (.string x575001_1) := (blk_cell BK574.out 1).trans rfl
    have hcz36_2 : wr.cell? ⟨gb574, 2, none⟩ = some (.int .i64 x575002_1) := (blk_cell BK574.out 2).trans rfl
    have hfz36_0 := blk_frozen BK574.out 0
    have hfz36_1 := blk_frozen BK574.out 1
    have hfz36_2 := blk_frozen BK574.out 2
    have hnb37 := NB573_0.out
    have hnc37 := NB0_573.out
    have hcz38_0 : wr.cell? ⟨gb573, 0, none⟩ = some (.string ⟨#[]⟩) := (blk_cell BK573.out 0).trans rfl
    have hcz38_1 : wr.cell? ⟨gb573, 1, none⟩ = some (.string ⟨#[]⟩) := (blk_cell BK573.out 1).trans rfl
    have hcz38_2 : wr.cell? ⟨gb573, 2, none⟩ = some (.int .i64 0) := (blk_cell BK573.out 2).trans rfl
    have hfz38_0 := blk_frozen BK573.out 0
    have hfz38_1 := blk_frozen BK573.out 1
    have hfz38_2 := blk_frozen BK573.out 2
    go_wp2
    refine bodyPost_ret (results_cell_row rfl _ _ gb573 42 #[.string x575000_1, .string x575001_1, .int .i64 x575002_1] (0, 0) _ rfl (by (with_reducible repeat (first | refine blk_drewN ?_ _ | refine blk_drew ?_ | refine blk_alloc ?_ _)); refine blk_put (cs := #[.string x575000_1, .string x575001_1, .int .i64 0]) ?_ 2 _ rfl; (with_reducible repeat (first | refine blk_drewN ?_ _ | refine blk_drew ?_ | refine blk_alloc ?_ _)); refine blk_put (cs := #[.string x575000_1, .string ⟨#[]⟩, .int .i64 0]) ?_ 1 _ rfl; (with_reducible repeat (first | refine blk_drewN ?_ _ | refine blk_drew ?_ | refine blk_alloc ?_ _)); refine blk_put (cs := #[.string ⟨#[]⟩, .string ⟨#[]⟩, .int .i64 0]) ?_ 0 _ rfl; (with_reducible repeat (first | refine blk_drewN ?_ _ | refine blk_drew ?_ | refine blk_alloc ?_ _)); exact BK573.out) Tryd.underlying42 rfl zq21) rfl ?_
    exact ⟨zq7, zq93, zq94, zq91⟩
def spec_l1Cur_spoilt.f (s0_0 : List Int) (s0_1 : Int) (s0_2 : Int) (a1 : ByteArray) (a2 : ByteArray) : Option (ByteArray × Int × Int) := if a1.toList = ([] : List UInt8) then (if 0 ≤ 1 then (if 1 ≤ (a2.size : Int) then (some (a2.extract 0 1, s0_1, s0_2)) else (none)) else (none)) else ((spec_l1Cur_pick.f s0_0 s0_1 s0_2 (a1.size : Int)).bind fun bt593 => ((spec_l1Cur_pick.f s0_0 bt593.2.1 bt593.2.2 (a2.size : Int)).bind fun bt596 => (if 0 ≤ bt596.1 then (if bt596.1 ≤ (a2.size : Int) then (if 0 ≤ 1 then (if 1 ≤ ((a2.size - (bt596.1 : Int).toNat) : Int) then ((spec_l1Cur_pick.f s0_0 bt596.2.1 bt596.2.2 3).bind fun bt599 => (if bt599.1 = 0 then (if 0 ≤ bt593.1 then (if bt593.1 ≤ (a1.size : Int) then (if (a1.extract 0 (bt593.1 : Int).toNat).size + ((a2.extract (bt596.1 : Int).toNat a2.size).extract 0 1).size ≤ 9223372036854775807 then (if ((a1.extract 0 (bt593.1 : Int).toNat).size + ((a2.extract (bt596.1 : Int).toNat a2.size).extract 0 1).size) + (a1.size - (bt593.1 : Int).toNat) ≤ 9223372036854775807 then (some (((a1.extract 0 (bt593.1 : Int).toNat) ++ ((a2.extract (bt596.1 : Int).toNat a2.size).extract 0 1)) ++ (a1.extract (bt593.1 : Int).toNat a1.size), bt599.2.1, bt599.2.2)) else (none)) else (none)) else (none)) else (none)) else (if bt599.1 = 1 then (if 0 ≤ bt593.1 then (if bt593.1 ≤ (a1.size : Int) then (if (a1.extract 0 (bt593.1 : Int).toNat).size + ((a2.extract (bt596.1 : Int).toNat a2.size).extract 0 1).size ≤ 9223372036854775807 then (if 0 ≤ (wrap64 (bt593.1 + 1)) then (if (wrap64 (bt593.1 + 1)) ≤ (a1.size : Int) then (if ((a1.extract 0 (bt593.1 : Int).toNat).size + ((a2.extract (bt596.1 : Int).toNat a2.size).extract 0 1).size) + (a1.size - ((wrap64 (bt593.1 + 1)) : Int).toNat) ≤ 9223372036854775807 then (some (((a1.extract 0 (bt593.1 : Int).toNat) ++ ((a2.extract (bt596.1 : Int).toNat a2.size).extract 0 1)) ++ (a1.extract ((wrap64 (bt593.1 + 1)) : Int).toNat a1.size), bt599.2.1, bt599.2.2)) else (none)) else (none)) else (none)) else (none)) else (none)) else (none)) else (if 0 ≤ bt593.1 then (if bt593.1 ≤ (a1.size : Int) then (if 0 ≤ (wrap64 (bt593.1 + 1)) then (if (wrap64 (bt593.1 + 1)) ≤ (a1.size : Int) then (if (a1.extract 0 (bt593.1 : Int).toNat).size + (a1.size - ((wrap64 (bt593.1 + 1)) : Int).toNat) ≤ 9223372036854775807 then (some ((a1.extract 0 (bt593.1 : Int).toNat) ++ (a1.extract ((wrap64 (bt593.1 + 1)) : Int).toNat a1.size), bt599.2.1, bt599.2.2)) else (none)) else (none)) else (none)) else (none)) else (none))))) else (none)) else (none)) else (none)) else (none))))
def spec_l1Cur_spoilt.T7 : Bool × List (List Nat × List Nat) := (true, [([], []), ([], []), ([0, 1], [0, 1]), ([], []), ([2, 3], [2, 3]), ([], []), ([], []), ([5, 6], [5, 6]), ([4, 7], [4, 7]), ([8, 0, 1, 2, 3, 4, 5, 6, 7, 8], [8])])
def spec_l1Cur_spoilt.B7 : List Nat := [0, 0, 3, 0, 15, 0, 0, 96, 255, 511]
theorem spec_l1Cur_spoilt.tab7 : rtab .any (opsOf Tryd.f91 7) = spec_l1Cur_spoilt.T7 := by kernel_rfl
theorem spec_l1Cur_spoilt.bits7 : waitsOk spec_l1Cur_spoilt.T7.2 spec_l1Cur_spoilt.B7 = true := by kernel_rfl
def spec_l1Cur_spoilt.T9 : Bool × List (List Nat × List Nat) := (true, [([], []), ([], []), ([0, 1], [0, 1]), ([], []), ([2, 3], [2, 3]), ([], []), ([], []), ([6], [6]), ([5, 7], [5, 7]), ([4, 8], [4, 8]), ([9, 0, 1, 2, 3, 4, 5, 6, 7, 8, 9], [9])])
def spec_l1Cur_spoilt.B9 : List Nat := [0, 0, 3, 0, 15, 0, 0, 64, 224, 511, 1023]
theorem spec_l1Cur_spoilt.tab9 : rtab .any (opsOf Tryd.f91 9) = spec_l1Cur_spoilt.T9 := by kernel_rfl
theorem spec_l1Cur_spoilt.bits9 : waitsOk spec_l1Cur_spoilt.T9.2 spec_l1Cur_spoilt.B9 = true := by kernel_rfl
def spec_l1Cur_spoilt.T10 : Bool × List (List Nat × List Nat) := (true, [([], []), ([], []), ([0, 1], [0, 1]), ([], []), ([], []), ([4], [4]), ([3, 5], [3, 5]), ([2, 6], [2, 6]), ([7, 0, 1, 2, 3, 4, 5, 6, 7], [7])])
def spec_l1Cur_spoilt.B10 : List Nat := [0, 0, 3, 0, 0, 16, 56, 127, 255]
theorem spec_l1Cur_spoilt.tab10 : rtab .any (opsOf Tryd.f91 10) = spec_l1Cur_spoilt.T10 := by kernel_rfl
theorem spec_l1Cur_spoilt.bits10 : waitsOk spec_l1Cur_spoilt.T10.2 spec_l1Cur_spoilt.B10 = true := by kernel_rfl
set_option maxHeartbeats 8000000 in
set_option maxRecDepth 100000 in
theorem spec_l1Cur_spoilt.calls (g : Nat) (s0_0 : List Int) (s0_1 : Int) (s0_2 : Int) (a1 : ByteArray) (a2 : ByteArray) (r1 : ByteArray) (r2 : Int) (r3 : Int) (w0 w : World) (hI : IsS83 w0 w g s0_0 s0_1 s0_2) (hB : Below w0.heap.size w0 w) (h : spec_l1Cur_spoilt.f s0_0 s0_1 s0_2 a1 a2 = some (r1, r2, r3)) :
  Calls Tryd.prog 91 #[.pointer (some ⟨g, 0, none⟩), .string a1, .string a2] w fun e w' => e = .returned (.string r1) ∧ IsS83 w0 w' g s0_0 r2 r3 ∧ Below w0.heap.size w0 w' ∧ KeepBut w w' g none := by
 have HI0 := am hI
 have HK := am (KeepBut.refl w g none)
 have HL := am hB.size
 clear hI
 have HW0 := am hB.size
 have HB := am hB
 clear hB
 have H : (if a1.toList = ([] : List UInt8) then (if 0 ≤ 1 then (if 1 ≤ (a2.size : Int) then (some (a2.extract 0 1, s0_1, s0_2)) else (none)) else (none)) else ((spec_l1Cur_pick.f s0_0 s0_1 s0_2 (a1.size : Int)).bind fun bt593 => ((spec_l1Cur_pick.f s0_0 bt593.2.1 bt593.2.2 (a2.size : Int)).bind fun bt596 => (if 0 ≤ bt596.1 then (if bt596.1 ≤ (a2.size : Int) then (if 0 ≤ 1 then (if 1 ≤ ((a2.size - (bt596.1 : Int).toNat) : Int) then ((spec_l1Cur_pick.f s0_0 bt596.2.1 bt596.2.2 3).bind fun bt599 => (if bt599.1 = 0 then (if 0 ≤ bt593.1 then (if bt593.1 ≤ (a1.size : Int) then (if (a1.extract 0 (bt593.1 : Int).toNat).size + ((a2.extract (bt596.1 : Int).toNat a2.size).extract 0 1).size ≤ 9223372036854775807 then (if ((a1.extract 0 (bt593.1 : Int).toNat).size + ((a2.extract (bt596.1 : Int).toNat a2.size).extract 0 1).size) + (a1.size - (bt593.1 : Int).toNat) ≤ 9223372036854775807 then (some (((a1.extract 0 (bt593.1 : Int).toNat) ++ ((a2.extract (bt596.1 : Int).toNat a2.size).extract 0 1)) ++ (a1.extract (bt593.1 : Int).toNat a1.size), bt599.2.1, bt599.2.2)) else (none)) else (none)) else (none)) else (none)) else (if bt599.1 = 1 then (if 0 ≤ bt593.1 then (if bt593.1 ≤ (a1.size : Int) then (if (a1.extract 0 (bt593.1 : Int).toNat).size + ((a2.extract (bt596.1 : Int).toNat a2.size).extract 0 1).size ≤ 9223372036854775807 then (if 0 ≤ (wrap64 (bt593.1 + 1)) then (if (wrap64 (bt593.1 + 1)) ≤ (a1.size : Int) then (if ((a1.extract 0 (bt593.1 : Int).toNat).size + ((a2.extract (bt596.1 : Int).toNat a2.size).extract 0 1).size) + (a1.size - ((wrap64 (bt593.1 + 1)) : Int).toNat) ≤ 9223372036854775807 then (some (((a1.extract 0 (bt593.1 : Int).toNat) ++ ((a2.extract (bt596.1 : Int).toNat a2.size).extract 0 1)) ++ (a1.extract ((wrap64 (bt593.1 + 1)) : Int).toNat a1.size), bt599.2.1, bt599.2.2)) else (none)) else (none)) else (none)) else (none)) else (none)) else (none)) else (if 0 ≤ bt593.1 then (if bt593.1 ≤ (a1.size : Int) then (if 0 ≤ (wrap64 (bt593.1 + 1)) then (if (wrap64 (bt593.1 + 1)) ≤ (a1.size : Int) then (if (a1.extract 0 (bt593.1 : Int).toNat).size + (a1.size - ((wrap64 (bt593.1 + 1)) : Int).toNat) ≤ 9223372036854775807 then (some ((a1.extract 0 (bt593.1 : Int).toNat) ++ (a1.extract ((wrap64 (bt593.1 + 1)) : Int).toNat a1.size), bt599.2.1, bt599.2.2)) else (none)) else (none)) else (none)) else (none)) else (none))))) else (none)) else (none)) else (none)) else (none))))) = some (r1, r2, r3) := h
 clear h
 by_cases c4 : a1.toList = ([] : List UInt8)
 ·rw [if_pos c4] at H
  have c4b0 : (a1.toList == ([] : List UInt8)) = true := beq_iff_eq.mpr c4
  have c4b1 : (a1.toList != ([] : List UInt8)) = false := bne_eq_false_iff_eq.mpr c4
  clear c4
  by_cases c5 : 0 ≤ 1
  ·rw [if_pos c5] at H
   have c5b0 := eq_true c5
   have c5b1 : decide (0 ≤ 1) = true := decide_eq_true c5
   clear c5
   by_cases c6 : 1 ≤ (a2.size : Int)
   ·rw [if_pos c6] at H
    have c6b0 := eq_true c6
    have c6b1 : decide (1 ≤ (a2.size : Int)) = true := decide_eq_true c6
    clear c6
    simp only [Option.some.injEq, Prod.mk.injEq] at H
    obtain ⟨rfl, rfl, rfl⟩ := H
    go_enter Tryd.func91, Tryd.ntmps91
    go_wp2
    go_ret
    exact ⟨zq7, zq67, zq68, zq66⟩
   ·rw [if_neg c6] at H
    exact absurd H zq176
  ·rw [if_neg c5] at H
   exact absurd H zq176
 ·rw [if_neg c4] at H
  have c4b0 : (a1.toList == ([] : List UInt8)) = false := beq_eq_false_iff_ne.mpr c4
  have c4b1 : (a1.toList != ([] : List UInt8)) = true := bne_iff_ne.mpr c4
  replace H := bem H
  obtain ⟨⟨t593, t594, t595⟩, A70, H⟩ := H
  replace H : ((spec_l1Cur_pick.f s0_0 t594 t595 (a2.size : Int)).bind fun bt596 => (if 0 ≤ bt596.1 then (if bt596.1 ≤ (a2.size : Int) then (if 0 ≤ 1 then (if 1 ≤ ((a2.size - (bt596.1 : Int).toNat) : Int) then ((spec_l1Cur_pick.f s0_0 bt596.2.1 bt596.2.2 3).bind fun bt599 => (if bt599.1 = 0 then (if 0 ≤ t593 then (if t593 ≤ (a1.size : Int) then (if (a1.extract 0 (t593 : Int).toNat).size + ((a2.extract (bt596.1 : Int).toNat a2.size).extract 0 1).size ≤ 9223372036854775807 then (if ((a1.extract 0 (t593 : Int).toNat).size + ((a2.extract (bt596.1 : Int).toNat a2.size).extract 0 1).size) + (a1.size - (t593 : Int).toNat) ≤ 9223372036854775807 then (some (((a1.extract 0 (t593 : Int).toNat) ++ ((a2.extract (bt596.1 : Int).toNat a2.size).extract 0 1)) ++ (a1.extract (t593 : Int).toNat a1.size), bt599.2.1, bt599.2.2)) else (none)) else (none)) else (none)) else (none)) else (if bt599.1 = 1 then (if 0 ≤ t593 then (if t593 ≤ (a1.size : Int) then (if (a1.extract 0 (t593 : Int).toNat).size + ((a2.extract (bt596.1 : Int).toNat a2.size).extract 0 1).size ≤ 9223372036854775807 then (if 0 ≤ (wrap64 (t593 + 1)) then (if (wrap64 (t593 + 1)) ≤ (a1.size : Int) then (if ((a1.extract 0 (t593 : Int).toNat).size + ((a2.extract (bt596.1 : Int).toNat a2.size).extract 0 1).size) + (a1.size - ((wrap64 (t593 + 1)) : Int).toNat) ≤ 9223372036854775807 then (some (((a1.extract 0 (t593 : Int).toNat) ++ ((a2.extract (bt596.1 : Int).toNat a2.size).extract 0 1)) ++ (a1.extract ((wrap64 (t593 + 1)) : Int).toNat a1.size), bt599.2.1, bt599.2.2)) else (none)) else (none)) else (none)) else (none)) else (none)) else (none)) else (if 0 ≤ t593 then (if t593 ≤ (a1.size : Int) then (if 0 ≤ (wrap64 (t593 + 1)) then (if (wrap64 (t593 + 1)) ≤ (a1.size : Int) then (if (a1.extract 0 (t593 : Int).toNat).size + (a1.size - ((wrap64 (t593 + 1)) : Int).toNat) ≤ 9223372036854775807 then (some ((a1.extract 0 (t593 : Int).toNat) ++ (a1.extract ((wrap64 (t593 + 1)) : Int).toNat a1.size), bt599.2.1, bt599.2.2)) else (none)) else (none)) else (none)) else (none)) else (none))))) else (none)) else (none)) else (none)) else (none))) = some (r1, r2, r3) := H
  have A7 := am A70
  clear A70
  replace H := bem H
  obtain ⟨⟨t596, t597, t598⟩, A80, H⟩ := H
  replace H : (if 0 ≤ t596 then (if t596 ≤ (a2.size : Int) then (if 0 ≤ 1 then (if 1 ≤ ((a2.size - (t596 : Int).toNat) : Int) then ((spec_l1Cur_pick.f s0_0 t597 t598 3).bind fun bt599 => (if bt599.1 = 0 then (if 0 ≤ t593 then (if t593 ≤ (a1.size : Int) then (if (a1.extract 0 (t593 : Int).toNat).size + ((a2.extract (t596 : Int).toNat a2.size).extract 0 1).size ≤ 9223372036854775807 then (if ((a1.extract 0 (t593 : Int).toNat).size + ((a2.extract (t596 : Int).toNat a2.size).extract 0 1).size) + (a1.size - (t593 : Int).toNat) ≤ 9223372036854775807 then (some (((a1.extract 0 (t593 : Int).toNat) ++ ((a2.extract (t596 : Int).toNat a2.size).extract 0 1)) ++ (a1.extract (t593 : Int).toNat a1.size), bt599.2.1, bt599.2.2)) else (none)) else (none)) else (none)) else (none)) else (if bt599.1 = 1 then (if 0 ≤ t593 then (if t593 ≤ (a1.size : Int) then (if (a1.extract 0 (t593 : Int).toNat).size + ((a2.extract (t596 : Int).toNat a2.size).extract 0 1).size ≤ 9223372036854775807 then (if 0 ≤ (wrap64 (t593 + 1)) then (if (wrap64 (t593 + 1)) ≤ (a1.size : Int) then (if ((a1.extract 0 (t593 : Int).toNat).size + ((a2.extract (t596 : Int).toNat a2.size).extract 0 1).size) + (a1.size - ((wrap64 (t593 + 1)) : Int).toNat) ≤ 9223372036854775807 then (some (((a1.extract 0 (t593 : Int).toNat) ++ ((a2.extract (t596 : Int).toNat a2.size).extract 0 1)) ++ (a1.extract ((wrap64 (t593 + 1)) : Int).toNat a1.size), bt599.2.1, bt599.2.2)) else (none)) else (none)) else (none)) else (none)) else (none)) else (none)) else (if 0 ≤ t593 then (if t593 ≤ (a1.size : Int) then (if 0 ≤ (wrap64 (t593 + 1)) then (if (wrap64 (t593 + 1)) ≤ (a1.size : Int) then (if (a1.extract 0 (t593 : Int).toNat).size + (a1.size - ((wrap64 (t593 + 1)) : Int).toNat) ≤ 9223372036854775807 then (some ((a1.extract 0 (t593 : Int).toNat) ++ (a1.extract ((wrap64 (t593 + 1)) : Int).toNat a1.size), bt599.2.1, bt599.2.2)) else (none)) else (none)) else (none)) else (none)) else (none))))) else (none)) else (none)) else (none)) else (none)) = some (r1, r2, r3) := H
  have A8 := am A80
  clear A80
  by_cases c9 : 0 ≤ t596
  ·rw [if_pos c9] at H
   have c9b0 := eq_true c9
   have c9b1 : decide (0 ≤ t596) = true := decide_eq_true c9
   clear c9
   by_cases c10 : t596 ≤ (a2.size : Int)
   ·rw [if_pos c10] at H
    have c10b0 := eq_true c10
    have c10b1 : decide (t596 ≤ (a2.size : Int)) = true := decide_eq_true c10
    clear c10
    by_cases c11 : 0 ≤ 1
    ·rw [if_pos c11] at H
     have c11b0 := eq_true c11
     have c11b1 : decide (0 ≤ 1) = true := decide_eq_true c11
     clear c11
     by_cases c12 : 1 ≤ ((a2.size - (t596 : Int).toNat) : Int)
     ·rw [if_pos c12] at H
      have c12n : 1 ≤ a2.size - (t596 : Int).toNat := by omega
      have c12m : (1 : Int) ≤ ((a2.size - (t596 : Int).toNat : Nat) : Int) := by omega
      have c12nb : decide (1 ≤ a2.size - (t596 : Int).toNat) = true := decide_eq_true c12n
      have c12mb : decide ((1 : Int) ≤ ((a2.size - (t596 : Int).toNat : Nat) : Int)) = true := decide_eq_true c12m
      have c12b0 := eq_true c12
      try (have c12b0z := c12b0; simp only [ByteArray.size_extract, Nat.min_self, Int.toNat_natCast, Nat.sub_zero] at c12b0z)
      have c12b1 : decide (1 ≤ ((a2.size - (t596 : Int).toNat) : Int)) = true := decide_eq_true c12
      try (have c12b1z := c12b1; simp only [ByteArray.size_extract, Nat.min_self, Int.toNat_natCast, Nat.sub_zero] at c12b1z)
      clear c12
      replace H := bem H
      obtain ⟨⟨t599, t600, t601⟩, A130, H⟩ := H
      replace H : (if t599 = 0 then (if 0 ≤ t593 then (if t593 ≤ (a1.size : Int) then (if (a1.extract 0 (t593 : Int).toNat).size + ((a2.extract (t596 : Int).toNat a2.size).extract 0 1).size ≤ 9223372036854775807 then (if ((a1.extract 0 (t593 : Int).toNat).size + ((a2.extract (t596 : Int).toNat a2.size).extract 0 1).size) + (a1.size - (t593 : Int).toNat) ≤ 9223372036854775807 then (some (((a1.extract 0 (t593 : Int).toNat) ++ ((a2.extract (t596 : Int).toNat a2.size).extract 0 1)) ++ (a1.extract (t593 : Int).toNat a1.size), t600, t601)) else (none)) else (none)) else (none)) else (none)) else (if t599 = 1 then (if 0 ≤ t593 then (if t593 ≤ (a1.size : Int) then (if (a1.extract 0 (t593 : Int).toNat).size + ((a2.extract (t596 : Int).toNat a2.size).extract 0 1).size ≤ 9223372036854775807 then (if 0 ≤ (wrap64 (t593 + 1)) then (if (wrap64 (t593 + 1)) ≤ (a1.size : Int) then (if ((a1.extract 0 (t593 : Int).toNat).size + ((a2.extract (t596 : Int).toNat a2.size).extract 0 1).size) + (a1.size - ((wrap64 (t593 + 1)) : Int).toNat) ≤ 9223372036854775807 then (some (((a1.extract 0 (t593 : Int).toNat) ++ ((a2.extract (t596 : Int).toNat a2.size).extract 0 1)) ++ (a1.extract ((wrap64 (t593 + 1)) : Int).toNat a1.size), t600, t601)) else (none)) else (none)) else (none)) else (none)) else (none)) else (none)) else (if 0 ≤ t593 then (if t593 ≤ (a1.size : Int) then (if 0 ≤ (wrap64 (t593 + 1)) then (if (wrap64 (t593 + 1)) ≤ (a1.size : Int) then (if (a1.extract 0 (t593 : Int).toNat).size + (a1.size - ((wrap64 (t593 + 1)) : Int).toNat) ≤ 9223372036854775807 then (some ((a1.extract 0 (t593 : Int).toNat) ++ (a1.extract ((wrap64 (t593 + 1)) : Int).toNat a1.size), t600, t601)) else (none)) else (none)) else (none)) else (none)) else (none)))) = some (r1, r2, r3) := H
      have A13 := am A130
      clear A130
      by_cases c14 : t599 = 0
      ·rw [if_pos c14] at H
       have c14b0 : (t599 == 0) = true := beq_iff_eq.mpr c14
       have c14b1 : (t599 != 0) = false := bne_eq_false_iff_eq.mpr c14
       clear c14
       by_cases c15 : 0 ≤ t593
       ·rw [if_pos c15] at H
        have c15b0 := eq_true c15
        have c15b1 : decide (0 ≤ t593) = true := decide_eq_true c15
        clear c15
        by_cases c16 : t593 ≤ (a1.size : Int)
        ·rw [if_pos c16] at H
         have c16b0 := eq_true c16
         have c16b1 : decide (t593 ≤ (a1.size : Int)) = true := decide_eq_true c16
         clear c16
         by_cases c17 : (a1.extract 0 (t593 : Int).toNat).size + ((a2.extract (t596 : Int).toNat a2.size).extract 0 1).size ≤ 9223372036854775807
         ·rw [if_pos c17] at H
          have c17b0 := eq_true c17
          try (have c17b0z := c17b0; simp only [ByteArray.size_extract, Nat.min_self, Int.toNat_natCast, Nat.sub_zero] at c17b0z)
          have c17b1 : decide ((a1.extract 0 (t593 : Int).toNat).size + ((a2.extract (t596 : Int).toNat a2.size).extract 0 1).size ≤ 9223372036854775807) = true := decide_eq_true c17
          try (have c17q : (9223372036854775807 < (t593 : Int).toNat + 1) = False := eq_false zq174)
          try (have c17b1z := c17b1; simp only [ByteArray.size_extract, Nat.min_self, Int.toNat_natCast, Nat.sub_zero] at c17b1z)
          try have c17b2 : (9223372036854775807 < (a1.extract 0 (t593 : Int).toNat).size + ((a2.extract (t596 : Int).toNat a2.size).extract 0 1).size) = False := eq_false (Nat.not_lt.2 c17)
          try (have c17b3 := c17; simp only [ByteArray.size_extract, Nat.min_self] at c17b3; (repeat rw [Nat.min_eq_left (by omega)] at c17b3); replace c17b3 : (9223372036854775807 < _) = False := eq_false (Nat.not_lt.2 c17b3))
          try (have c17b2z := c17b2; simp only [ByteArray.size_extract, Nat.min_self, Int.toNat_natCast, Nat.sub_zero] at c17b2z)
          have c18b0 := eq_true (of_decide_eq_true zq3 : 0 ≤ t593)
          have c19b0 := eq_true (of_decide_eq_true zq3 : t593 ≤ (a1.size : Int))
          by_cases c20 : ((a1.extract 0 (t593 : Int).toNat).size + ((a2.extract (t596 : Int).toNat a2.size).extract 0 1).size) + (a1.size - (t593 : Int).toNat) ≤ 9223372036854775807
          ·rw [if_pos c20] at H
           have c20b0 := eq_true c20
           try (have c20b0z := c20b0; simp only [ByteArray.size_extract, Nat.min_self, Int.toNat_natCast, Nat.sub_zero] at c20b0z)
           have c20b1 : decide (((a1.extract 0 (t593 : Int).toNat).size + ((a2.extract (t596 : Int).toNat a2.size).extract 0 1).size) + (a1.size - (t593 : Int).toNat) ≤ 9223372036854775807) = true := decide_eq_true c20
           try (have c20q : (9223372036854775807 < ((t593 : Int).toNat + 1) + (a1.size - (t593 : Int).toNat)) = False := eq_false zq174)
           try (have c20b1z := c20b1; simp only [ByteArray.size_extract, Nat.min_self, Int.toNat_natCast, Nat.sub_zero] at c20b1z)
           try have c20b2 : (9223372036854775807 < ((a1.extract 0 (t593 : Int).toNat).size + ((a2.extract (t596 : Int).toNat a2.size).extract 0 1).size) + (a1.size - (t593 : Int).toNat)) = False := eq_false (Nat.not_lt.2 c20)
           try (have c20b3 := c20; simp only [ByteArray.size_extract, Nat.min_self] at c20b3; (repeat rw [Nat.min_eq_left (by omega)] at c20b3); replace c20b3 : (9223372036854775807 < _) = False := eq_false (Nat.not_lt.2 c20b3))
           try (have c20b2z := c20b2; simp only [ByteArray.size_extract, Nat.min_self, Int.toNat_natCast, Nat.sub_zero] at c20b2z)
           simp only [Option.some.injEq, Prod.mk.injEq] at H
           obtain ⟨rfl, rfl, rfl⟩ := H
           go_enter Tryd.func91, Tryd.ntmps91
           try go_wp2_with (first | ((with_reducible refine gate_callee (f := 69) rfl ?_); refine goesL_ (some 16) rfl rfl Tryd.func69 zq21 rfl #[.pointer (some ⟨g, 0, none⟩), .int .i64 (a1.size : Int)] rfl zq5 ?_; (with_reducible refine (spec_l1Cur_pick.calls g s0_0 s0_1 s0_2 (a1.size : Int) t593 t594 t595 w0 _ ?side1 ?side2 A7.out).mono ?_); (case side1 => repeat (first | (with_reducible first | exact HI0.out | apply IsS83.alloc | apply IsS83.drewN | apply IsS83.drew | apply IsS83.set_1 | apply IsS83.set_2) | exact HI0.out)); (case side2 => repeat (first | (with_reducible first | exact HB.out | apply below_alloc | apply pw_below_drewN | apply below_drew1 | refine below_set ?_ (IsS83.ge HI0.out)) | exact HB.out)); rintro e w21 ⟨rfl, hi, hb, hk⟩; refine ⟨_, rfl, ?_⟩; have n0_ := am (KeepBut.trans zq66 hk (.inl rfl)); have n1_ := am (hb); have n2_ := am (hi); clear HK; clear HB; clear HI0; have HK := n0_; have HB := n1_; have HI0 := n2_; clear n0_ n1_ n2_; (try clear hb); (try clear hb2); (try clear hk); (try clear hi)) | ((with_reducible refine gate_callee (f := 69) rfl ?_); refine goesL_ (some 21) rfl rfl Tryd.func69 zq21 rfl #[.pointer (some ⟨g, 0, none⟩), .int .i64 (a2.size : Int)] rfl zq5 ?_; (with_reducible refine (spec_l1Cur_pick.calls g s0_0 t594 t595 (a2.size : Int) t596 t597 t598 w0 _ ?side1 ?side2 A8.out).mono ?_); (case side1 => repeat (first | (with_reducible first | exact HI0.out | apply IsS83.alloc | apply IsS83.drewN | apply IsS83.drew | apply IsS83.set_1 | apply IsS83.set_2) | exact HI0.out)); (case side2 => repeat (first | (with_reducible first | exact HB.out | apply below_alloc | apply pw_below_drewN | apply below_drew1 | refine below_set ?_ (IsS83.ge HI0.out)) | exact HB.out)); rintro e w22 ⟨rfl, hi, hb, hk⟩; refine ⟨_, rfl, ?_⟩; have n0_ := am (KeepBut.trans zq66 hk (.inl rfl)); have n1_ := am (hb); have n2_ := am (hi); clear HK; clear HB; clear HI0; have HK := n0_; have HB := n1_; have HI0 := n2_; clear n0_ n1_ n2_; (try clear hb); (try clear hb2); (try clear hk); (try clear hi)) | ((with_reducible refine gate_callee (f := 69) rfl ?_); refine goesL_ (some 25) rfl rfl Tryd.func69 zq21 rfl #[.pointer (some ⟨g, 0, none⟩), .int .i64 3] rfl zq5 ?_; (with_reducible refine (spec_l1Cur_pick.calls g s0_0 t597 t598 3 t599 t600 t601 w0 _ ?side1 ?side2 A13.out).mono ?_); (case side1 => repeat (first | (with_reducible first | exact HI0.out | apply IsS83.alloc | apply IsS83.drewN | apply IsS83.drew | apply IsS83.set_1 | apply IsS83.set_2) | exact HI0.out)); (case side2 => repeat (first | (with_reducible first | exact HB.out | apply below_alloc | apply pw_below_drewN | apply below_drew1 | refine below_set ?_ (IsS83.ge HI0.out)) | exact HB.out)); rintro e w23 ⟨rfl, hi, hb, hk⟩; refine ⟨_, rfl, ?_⟩; have n0_ := am (KeepBut.trans zq66 hk (.inl rfl)); have n1_ := am (hb); have n2_ := am (hi); clear HK; clear HB; clear HI0; have HK := n0_; have HB := n1_; have HI0 := n2_; clear n0_ n1_ n2_; (try clear hb); (try clear hb2); (try clear hk); (try clear hi)))
           have n0_ := am (IsS83.drew HI0.out)
           have n1_ := am (keep_drew HK.out)
           have n2_ := am (below_drew1 HB.out)
           clear HI0
           clear HK
           clear HB
           have HI0 := n0_
           have HK := n1_
           have HB := n2_
           clear n0_ n1_ n2_
           refine start_ (n := 10) (S := fun w' => True) (ds := []) #[false, false, false, false, false, false, false, false, false, false] zq21 rfl rfl trivial (fun hHeld => ?_); refine with_tabW spec_l1Cur_spoilt.tab7 spec_l1Cur_spoilt.bits7 (fun HT_ HW_ => ?_)
           generalize w23.drew = w24 at HI0 HK HB hHeld ⊢
           refine pure_ (i := 0) (N := some 28) (v := ?_) (a' := ?_) #[true, false, false, false, false, false, false, false, false, false] rfl rfl (any_of HT_.out zq21) (fun _ _ _ h => h) (Or.inl ⟨by rfl, ?_⟩) ?_ ?_
           rotate_left
           ·intro w'
            go_simp
            with_reducible rfl
           rotate_left
           ·simp only [Act.put, List.setIfInBounds_toArray, List.set_cons_zero, List.set_cons_succ, i64_w, i32_w]
            rfl
           refine pure_ (i := 1) (N := some 29) (v := ?_) (a' := ?_) #[true, true, false, false, false, false, false, false, false, false] rfl rfl (any_of HT_.out zq21) (fun _ _ _ h => h) (Or.inl ⟨by rfl, ?_⟩) ?_ ?_
           rotate_left
           ·intro w'
            go_simp
            with_reducible rfl
           rotate_left
           ·simp only [Act.put, List.setIfInBounds_toArray, List.set_cons_zero, List.set_cons_succ, i64_w, i32_w]
            rfl
           refine pure_ (i := 2) (N := some 30) (v := ?_) (a' := ?_) #[true, true, true, false, false, false, false, false, false, false] rfl rfl (any_of HT_.out zq21) (fun _ _ _ h => h) (Or.inl ⟨by rfl, ?_⟩) ?_ ?_
           rotate_left
           ·intro w'
            go_simp
            with_reducible rfl
           rotate_left
           ·simp only [Act.put, List.setIfInBounds_toArray, List.set_cons_zero, List.set_cons_succ, i64_w, i32_w]
            rfl
           refine pure_ (i := 3) (N := some 31) (v := ?_) (a' := ?_) #[true, true, true, true, false, false, false, false, false, false] rfl rfl (any_of HT_.out zq21) (fun _ _ _ h => h) (Or.inl ⟨by rfl, ?_⟩) ?_ ?_
           rotate_left
           ·intro w'
            go_simp
            with_reducible rfl
           rotate_left
           ·simp only [Act.put, List.setIfInBounds_toArray, List.set_cons_zero, List.set_cons_succ, i64_w, i32_w]
            rfl
           refine pure_ (i := 4) (N := some 32) (v := ?_) (a' := ?_) #[true, true, true, true, true, false, false, false, false, false] rfl rfl (any_of HT_.out zq21) (fun _ _ _ h => h) (Or.inl ⟨by rfl, ?_⟩) ?_ ?_
           rotate_left
           ·intro w'
            go_simp
            with_reducible rfl
           rotate_left
           ·simp only [Act.put, List.setIfInBounds_toArray, List.set_cons_zero, List.set_cons_succ, i64_w, i32_w]
            rfl
           refine pure_ (i := 5) (N := some 33) (v := ?_) (a' := ?_) #[true, true, true, true, true, true, false, false, false, false] rfl rfl (any_of HT_.out zq21) (fun _ _ _ h => h) (Or.inl ⟨by rfl, ?_⟩) ?_ ?_
           rotate_left
           ·intro w'
            go_simp
            with_reducible rfl
           rotate_left
           ·simp only [Act.put, List.setIfInBounds_toArray, List.set_cons_zero, List.set_cons_succ, i64_w, i32_w]
            rfl
           refine pure_ (i := 6) (N := some 34) (v := ?_) (a' := ?_) #[true, true, true, true, true, true, true, false, false, false] rfl rfl (any_of HT_.out zq21) (fun _ _ _ h => h) (Or.inl ⟨by rfl, ?_⟩) ?_ ?_
           rotate_left
           ·intro w'
            go_simp
            with_reducible rfl
           rotate_left
           ·simp only [Act.put, List.setIfInBounds_toArray, List.set_cons_zero, List.set_cons_succ, i64_w, i32_w]
            rfl
           refine pure_ (i := 7) (N := some 35) (v := ?_) (a' := ?_) #[true, true, true, true, true, true, true, true, false, false] rfl rfl (any_of HT_.out zq21) (fun _ _ _ h => h) (Or.inl ⟨by rfl, ?_⟩) ?_ ?_
           rotate_left
           ·intro w'
            go_simp
            with_reducible rfl
           rotate_left
           ·simp only [Act.put, List.setIfInBounds_toArray, List.set_cons_zero, List.set_cons_succ, i64_w, i32_w]
            rfl
           refine pure_ (i := 8) (N := some 36) (v := ?_) (a' := ?_) #[true, true, true, true, true, true, true, true, true, false] rfl rfl (any_of HT_.out zq21) (fun _ _ _ h => h) (Or.inl ⟨by rfl, ?_⟩) ?_ ?_
           rotate_left
           ·intro w'
            go_simp
            with_reducible rfl
           rotate_left
           ·simp only [Act.put, List.setIfInBounds_toArray, List.set_cons_zero, List.set_cons_succ, i64_w, i32_w]
            rfl
           refine pure_ (i := 9) (N := some 6) (v := ?_) (a' := ?_) #[true, true, true, true, true, true, true, true, true, true] rfl rfl (any_of HT_.out zq21) (fun _ _ _ h => h) (Or.inl ⟨by rfl, ?_⟩) ?_ ?_
           rotate_left
           ·intro w'
            go_simp
            with_reducible rfl
           rotate_left
           ·simp only [Act.put, List.setIfInBounds_toArray, List.set_cons_zero, List.set_cons_succ, i64_w, i32_w]
            rfl
           refine done_ (done_of HT_.out zq21) ?_
           try go_wp2
           go_ret
           exact ⟨zq7, zq67, zq68, zq66⟩
          ·rw [if_neg c20] at H
           exact absurd H zq176
         ·rw [if_neg c17] at H
          exact absurd H zq176
        ·rw [if_neg c16] at H
         exact absurd H zq176
       ·rw [if_neg c15] at H
        exact absurd H zq176
      ·rw [if_neg c14] at H
       have c14b0 : (t599 == 0) = false := beq_eq_false_iff_ne.mpr c14
       have c14b1 : (t599 != 0) = true := bne_iff_ne.mpr c14
       by_cases c25 : t599 = 1
       ·rw [if_pos c25] at H
        have c25b0 : (t599 == 1) = true := beq_iff_eq.mpr c25
        have c25b1 : (t599 != 1) = false := bne_eq_false_iff_eq.mpr c25
        clear c25
        by_cases c26 : 0 ≤ t593
        ·rw [if_pos c26] at H
         have c26b0 := eq_true c26
         have c26b1 : decide (0 ≤ t593) = true := decide_eq_true c26
         clear c26
         by_cases c27 : t593 ≤ (a1.size : Int)
         ·rw [if_pos c27] at H
          have c27b0 := eq_true c27
          have c27b1 : decide (t593 ≤ (a1.size : Int)) = true := decide_eq_true c27
          clear c27
          by_cases c28 : (a1.extract 0 (t593 : Int).toNat).size + ((a2.extract (t596 : Int).toNat a2.size).extract 0 1).size ≤ 9223372036854775807
          ·rw [if_pos c28] at H
           have c28b0 := eq_true c28
           try (have c28b0z := c28b0; simp only [ByteArray.size_extract, Nat.min_self, Int.toNat_natCast, Nat.sub_zero] at c28b0z)
           have c28b1 : decide ((a1.extract 0 (t593 : Int).toNat).size + ((a2.extract (t596 : Int).toNat a2.size).extract 0 1).size ≤ 9223372036854775807) = true := decide_eq_true c28
           try (have c28q : (9223372036854775807 < (t593 : Int).toNat + 1) = False := eq_false zq174)
           try (have c28b1z := c28b1; simp only [ByteArray.size_extract, Nat.min_self, Int.toNat_natCast, Nat.sub_zero] at c28b1z)
           try have c28b2 : (9223372036854775807 < (a1.extract 0 (t593 : Int).toNat).size + ((a2.extract (t596 : Int).toNat a2.size).extract 0 1).size) = False := eq_false (Nat.not_lt.2 c28)
           try (have c28b3 := c28; simp only [ByteArray.size_extract, Nat.min_self] at c28b3; (repeat rw [Nat.min_eq_left (by omega)] at c28b3); replace c28b3 : (9223372036854775807 < _) = False := eq_false (Nat.not_lt.2 c28b3))
           try (have c28b2z := c28b2; simp only [ByteArray.size_extract, Nat.min_self, Int.toNat_natCast, Nat.sub_zero] at c28b2z)
           obtain ⟨ji29, hji29⟩ : ∃ j_ : Int, (wrap64 (t593 + 1)) = j_ := ⟨_, rfl⟩
           replace H : (if 0 ≤ (ji29) then (if (ji29) ≤ (a1.size : Int) then (if ((a1.extract 0 (t593 : Int).toNat).size + ((a2.extract (t596 : Int).toNat a2.size).extract 0 1).size) + (a1.size - ((ji29) : Int).toNat) ≤ 9223372036854775807 then (some (((a1.extract 0 (t593 : Int).toNat) ++ ((a2.extract (t596 : Int).toNat a2.size).extract 0 1)) ++ (a1.extract ((ji29) : Int).toNat a1.size), t600, t601)) else (none)) else (none)) else (none)) = some (r1, r2, r3) := by first | (rw [hji29] at H; exact H) | (simp only [hji29] at H ⊢; exact H)
           (try rw [hji29] at A7)
           (try rw [hji29] at A8)
           (try rw [hji29] at A13)
           have hji29w : (IntKind.i64.wrap (t593 + 1)) = ji29 := (i64_w _).trans hji29
           by_cases c30 : 0 ≤ (ji29)
           ·rw [if_pos c30] at H
            have c30b0 := eq_true c30
            have c30b1 : decide (0 ≤ (ji29)) = true := decide_eq_true c30
            clear c30
            by_cases c31 : (ji29) ≤ (a1.size : Int)
            ·rw [if_pos c31] at H
             have c31b0 := eq_true c31
             have c31b1 : decide ((ji29) ≤ (a1.size : Int)) = true := decide_eq_true c31
             clear c31
             by_cases c32 : ((a1.extract 0 (t593 : Int).toNat).size + ((a2.extract (t596 : Int).toNat a2.size).extract 0 1).size) + (a1.size - ((ji29) : Int).toNat) ≤ 9223372036854775807
             ·rw [if_pos c32] at H
              have c32b0 := eq_true c32
              try (have c32b0z := c32b0; simp only [ByteArray.size_extract, Nat.min_self, Int.toNat_natCast, Nat.sub_zero] at c32b0z)
              have c32b1 : decide (((a1.extract 0 (t593 : Int).toNat).size + ((a2.extract (t596 : Int).toNat a2.size).extract 0 1).size) + (a1.size - ((ji29) : Int).toNat) ≤ 9223372036854775807) = true := decide_eq_true c32
              try (have c32q : (9223372036854775807 < ((t593 : Int).toNat + 1) + (a1.size - ((ji29) : Int).toNat)) = False := eq_false zq174)
              try (have c32b1z := c32b1; simp only [ByteArray.size_extract, Nat.min_self, Int.toNat_natCast, Nat.sub_zero] at c32b1z)
              try have c32b2 : (9223372036854775807 < ((a1.extract 0 (t593 : Int).toNat).size + ((a2.extract (t596 : Int).toNat a2.size).extract 0 1).size) + (a1.size - ((ji29) : Int).toNat)) = False := eq_false (Nat.not_lt.2 c32)
              try (have c32b3 := c32; simp only [ByteArray.size_extract, Nat.min_self] at c32b3; (repeat rw [Nat.min_eq_left (by omega)] at c32b3); replace c32b3 : (9223372036854775807 < _) = False := eq_false (Nat.not_lt.2 c32b3))
              try (have c32b2z := c32b2; simp only [ByteArray.size_extract, Nat.min_self, Int.toNat_natCast, Nat.sub_zero] at c32b2z)
              simp only [Option.some.injEq, Prod.mk.injEq] at H
              obtain ⟨rfl, rfl, rfl⟩ := H
              go_enter Tryd.func91, Tryd.ntmps91
              try go_wp2_with (first | ((with_reducible refine gate_callee (f := 69) rfl ?_); refine goesL_ (some 16) rfl rfl Tryd.func69 zq21 rfl #[.pointer (some ⟨g, 0, none⟩), .int .i64 (a1.size : Int)] rfl zq5 ?_; (with_reducible refine (spec_l1Cur_pick.calls g s0_0 s0_1 s0_2 (a1.size : Int) t593 t594 t595 w0 _ ?side1 ?side2 A7.out).mono ?_); (case side1 => repeat (first | (with_reducible first | exact HI0.out | apply IsS83.alloc | apply IsS83.drewN | apply IsS83.drew | apply IsS83.set_1 | apply IsS83.set_2) | exact HI0.out)); (case side2 => repeat (first | (with_reducible first | exact HB.out | apply below_alloc | apply pw_below_drewN | apply below_drew1 | refine below_set ?_ (IsS83.ge HI0.out)) | exact HB.out)); rintro e w33 ⟨rfl, hi, hb, hk⟩; refine ⟨_, rfl, ?_⟩; have n0_ := am (KeepBut.trans zq66 hk (.inl rfl)); have n1_ := am (hb); have n2_ := am (hi); clear HK; clear HB; clear HI0; have HK := n0_; have HB := n1_; have HI0 := n2_; clear n0_ n1_ n2_; (try clear hb); (try clear hb2); (try clear hk); (try clear hi)) | ((with_reducible refine gate_callee (f := 69) rfl ?_); refine goesL_ (some 21) rfl rfl Tryd.func69 zq21 rfl #[.pointer (some ⟨g, 0, none⟩), .int .i64 (a2.size : Int)] rfl zq5 ?_; (with_reducible refine (spec_l1Cur_pick.calls g s0_0 t594 t595 (a2.size : Int) t596 t597 t598 w0 _ ?side1 ?side2 A8.out).mono ?_); (case side1 => repeat (first | (with_reducible first | exact HI0.out | apply IsS83.alloc | apply IsS83.drewN | apply IsS83.drew | apply IsS83.set_1 | apply IsS83.set_2) | exact HI0.out)); (case side2 => repeat (first | (with_reducible first | exact HB.out | apply below_alloc | apply pw_below_drewN | apply below_drew1 | refine below_set ?_ (IsS83.ge HI0.out)) | exact HB.out)); rintro e w34 ⟨rfl, hi, hb, hk⟩; refine ⟨_, rfl, ?_⟩; have n0_ := am (KeepBut.trans zq66 hk (.inl rfl)); have n1_ := am (hb); have n2_ := am (hi); clear HK; clear HB; clear HI0; have HK := n0_; have HB := n1_; have HI0 := n2_; clear n0_ n1_ n2_; (try clear hb); (try clear hb2); (try clear hk); (try clear hi)) | ((with_reducible refine gate_callee (f := 69) rfl ?_); refine goesL_ (some 25) rfl rfl Tryd.func69 zq21 rfl #[.pointer (some ⟨g, 0, none⟩), .int .i64 3] rfl zq5 ?_; (with_reducible refine (spec_l1Cur_pick.calls g s0_0 t597 t598 3 t599 t600 t601 w0 _ ?side1 ?side2 A13.out).mono ?_); (case side1 => repeat (first | (with_reducible first | exact HI0.out | apply IsS83.alloc | apply IsS83.drewN | apply IsS83.drew | apply IsS83.set_1 | apply IsS83.set_2) | exact HI0.out)); (case side2 => repeat (first | (with_reducible first | exact HB.out | apply below_alloc | apply pw_below_drewN | apply below_drew1 | refine below_set ?_ (IsS83.ge HI0.out)) | exact HB.out)); rintro e w35 ⟨rfl, hi, hb, hk⟩; refine ⟨_, rfl, ?_⟩; have n0_ := am (KeepBut.trans zq66 hk (.inl rfl)); have n1_ := am (hb); have n2_ := am (hi); clear HK; clear HB; clear HI0; have HK := n0_; have HB := n1_; have HI0 := n2_; clear n0_ n1_ n2_; (try clear hb); (try clear hb2); (try clear hk); (try clear hi)))
              have n0_ := am (IsS83.drew HI0.out)
              have n1_ := am (keep_drew HK.out)
              have n2_ := am (below_drew1 HB.out)
              clear HI0
              clear HK
              clear HB
              have HI0 := n0_
              have HK := n1_
              have HB := n2_
              clear n0_ n1_ n2_
              refine start_ (n := 11) (S := fun w' => True) (ds := []) #[false, false, false, false, false, false, false, false, false, false, false] zq21 rfl rfl trivial (fun hHeld => ?_); refine with_tabW spec_l1Cur_spoilt.tab9 spec_l1Cur_spoilt.bits9 (fun HT_ HW_ => ?_)
              generalize w35.drew = w36 at HI0 HK HB hHeld ⊢
              refine pure_ (i := 0) (N := some 39) (v := ?_) (a' := ?_) #[true, false, false, false, false, false, false, false, false, false, false] rfl rfl (any_of HT_.out zq21) (fun _ _ _ h => h) (Or.inl ⟨by rfl, ?_⟩) ?_ ?_
              rotate_left
              ·intro w'
               go_simp
               with_reducible rfl
              rotate_left
              ·simp only [Act.put, List.setIfInBounds_toArray, List.set_cons_zero, List.set_cons_succ, i64_w, i32_w]
               rfl
              refine pure_ (i := 1) (N := some 40) (v := ?_) (a' := ?_) #[true, true, false, false, false, false, false, false, false, false, false] rfl rfl (any_of HT_.out zq21) (fun _ _ _ h => h) (Or.inl ⟨by rfl, ?_⟩) ?_ ?_
              rotate_left
              ·intro w'
               go_simp
               with_reducible rfl
              rotate_left
              ·simp only [Act.put, List.setIfInBounds_toArray, List.set_cons_zero, List.set_cons_succ, i64_w, i32_w]
               rfl
              refine pure_ (i := 2) (N := some 41) (v := ?_) (a' := ?_) #[true, true, true, false, false, false, false, false, false, false, false] rfl rfl (any_of HT_.out zq21) (fun _ _ _ h => h) (Or.inl ⟨by rfl, ?_⟩) ?_ ?_
              rotate_left
              ·intro w'
               go_simp
               with_reducible rfl
              rotate_left
              ·simp only [Act.put, List.setIfInBounds_toArray, List.set_cons_zero, List.set_cons_succ, i64_w, i32_w]
               rfl
              refine pure_ (i := 3) (N := some 42) (v := ?_) (a' := ?_) #[true, true, true, true, false, false, false, false, false, false, false] rfl rfl (any_of HT_.out zq21) (fun _ _ _ h => h) (Or.inl ⟨by rfl, ?_⟩) ?_ ?_
              rotate_left
              ·intro w'
               go_simp
               with_reducible rfl
              rotate_left
              ·simp only [Act.put, List.setIfInBounds_toArray, List.set_cons_zero, List.set_cons_succ, i64_w, i32_w]
               rfl
              refine pure_ (i := 4) (N := some 43) (v := ?_) (a' := ?_) #[true, true, true, true, true, false, false, false, false, false, false] rfl rfl (any_of HT_.out zq21) (fun _ _ _ h => h) (Or.inl ⟨by rfl, ?_⟩) ?_ ?_
              rotate_left
              ·intro w'
               go_simp
               with_reducible rfl
              rotate_left
              ·simp only [Act.put, List.setIfInBounds_toArray, List.set_cons_zero, List.set_cons_succ, i64_w, i32_w]
               rfl
              refine pure_ (i := 5) (N := some 44) (v := ?_) (a' := ?_) #[true, true, true, true, true, true, false, false, false, false, false] rfl rfl (any_of HT_.out zq21) (fun _ _ _ h => h) (Or.inl ⟨by rfl, ?_⟩) ?_ ?_
              rotate_left
              ·intro w'
               go_simp
               with_reducible rfl
              rotate_left
              ·simp only [Act.put, List.setIfInBounds_toArray, List.set_cons_zero, List.set_cons_succ, i64_w, i32_w]
               rfl
              refine pure_ (i := 6) (N := some 45) (v := ?_) (a' := ?_) #[true, true, true, true, true, true, true, false, false, false, false] rfl rfl (any_of HT_.out zq21) (fun _ _ _ h => h) (Or.inl ⟨by rfl, ?_⟩) ?_ ?_
              rotate_left
              ·intro w'
               go_simp
               with_reducible rfl
              rotate_left
              ·simp only [Act.put, List.setIfInBounds_toArray, List.set_cons_zero, List.set_cons_succ, i64_w, i32_w]
               rfl
              refine pure_ (i := 7) (N := some 46) (v := ?_) (a' := ?_) #[true, true, true, true, true, true, true, true, false, false, false] rfl rfl (any_of HT_.out zq21) (fun _ _ _ h => h) (Or.inl ⟨by rfl, ?_⟩) ?_ ?_
              rotate_left
              ·intro w'
               go_simp
               with_reducible rfl
              rotate_left
              ·simp only [Act.put, List.setIfInBounds_toArray, List.set_cons_zero, List.set_cons_succ, i64_w, i32_w]
               rfl
              refine pure_ (i := 8) (N := some 47) (v := ?_) (a' := ?_) #[true, true, true, true, true, true, true, true, true, false, false] rfl rfl (any_of HT_.out zq21) (fun _ _ _ h => h) (Or.inl ⟨by rfl, ?_⟩) ?_ ?_
              rotate_left
              ·intro w'
               go_simp
               with_reducible rfl
              rotate_left
              ·simp only [Act.put, List.setIfInBounds_toArray, List.set_cons_zero, List.set_cons_succ, i64_w, i32_w]
               rfl
              refine pure_ (i := 9) (N := some 48) (v := ?_) (a' := ?_) #[true, true, true, true, true, true, true, true, true, true, false] rfl rfl (any_of HT_.out zq21) (fun _ _ _ h => h) (Or.inl ⟨by rfl, ?_⟩) ?_ ?_
              rotate_left
              ·intro w'
               go_simp
               with_reducible rfl
              rotate_left
              ·simp only [Act.put, List.setIfInBounds_toArray, List.set_cons_zero, List.set_cons_succ, i64_w, i32_w]
               rfl
              refine pure_ (i := 10) (N := some 6) (v := ?_) (a' := ?_) #[true, true, true, true, true, true, true, true, true, true, true] rfl rfl (any_of HT_.out zq21) (fun _ _ _ h => h) (Or.inl ⟨by rfl, ?_⟩) ?_ ?_
              rotate_left
              ·intro w'
               go_simp
               with_reducible rfl
              rotate_left
              ·simp only [Act.put, List.setIfInBounds_toArray, List.set_cons_zero, List.set_cons_succ, i64_w, i32_w]
               rfl
              refine done_ (done_of HT_.out zq21) ?_
              try go_wp2
              go_ret
              exact ⟨by first | rfl | (simp [errW_none, errW_some] <;> rfl) | (simp only [← hji29]; first | rfl | (simp [errW_none, errW_some] <;> rfl)) | (simp [*, errW_none, errW_some] <;> rfl), zq67, zq68, zq66⟩
             ·rw [if_neg c32] at H
              exact absurd H zq176
            ·rw [if_neg c31] at H
             exact absurd H zq176
           ·rw [if_neg c30] at H
            exact absurd H zq176
          ·rw [if_neg c28] at H
           exact absurd H zq176
         ·rw [if_neg c27] at H
          exact absurd H zq176
        ·rw [if_neg c26] at H
         exact absurd H zq176
       ·rw [if_neg c25] at H
        have c25b0 : (t599 == 1) = false := beq_eq_false_iff_ne.mpr c25
        have c25b1 : (t599 != 1) = true := bne_iff_ne.mpr c25
        by_cases c37 : 0 ≤ t593
        ·rw [if_pos c37] at H
         have c37b0 := eq_true c37
         have c37b1 : decide (0 ≤ t593) = true := decide_eq_true c37
         clear c37
         by_cases c38 : t593 ≤ (a1.size : Int)
         ·rw [if_pos c38] at H
          have c38b0 := eq_true c38
          have c38b1 : decide (t593 ≤ (a1.size : Int)) = true := decide_eq_true c38
          clear c38
          obtain ⟨ji39, hji39⟩ : ∃ j_ : Int, (wrap64 (t593 + 1)) = j_ := ⟨_, rfl⟩
          replace H : (if 0 ≤ (ji39) then (if (ji39) ≤ (a1.size : Int) then (if (a1.extract 0 (t593 : Int).toNat).size + (a1.size - ((ji39) : Int).toNat) ≤ 9223372036854775807 then (some ((a1.extract 0 (t593 : Int).toNat) ++ (a1.extract ((ji39) : Int).toNat a1.size), t600, t601)) else (none)) else (none)) else (none)) = some (r1, r2, r3) := by first | (rw [hji39] at H; exact H) | (simp only [hji39] at H ⊢; exact H)
          (try rw [hji39] at A7)
          (try rw [hji39] at A8)
          (try rw [hji39] at A13)
          have hji39w : (IntKind.i64.wrap (t593 + 1)) = ji39 := (i64_w _).trans hji39
          by_cases c40 : 0 ≤ (ji39)
          ·rw [if_pos c40] at H
           have c40b0 := eq_true c40
           have c40b1 : decide (0 ≤ (ji39)) = true := decide_eq_true c40
           clear c40
           by_cases c41 : (ji39) ≤ (a1.size : Int)
           ·rw [if_pos c41] at H
            have c41b0 := eq_true c41
            have c41b1 : decide ((ji39) ≤ (a1.size : Int)) = true := decide_eq_true c41
            clear c41
            by_cases c42 : (a1.extract 0 (t593 : Int).toNat).size + (a1.size - ((ji39) : Int).toNat) ≤ 9223372036854775807
            ·rw [if_pos c42] at H
             have c42b0 := eq_true c42
             try (have c42b0z := c42b0; simp only [ByteArray.size_extract, Nat.min_self, Int.toNat_natCast, Nat.sub_zero] at c42b0z)
             have c42b1 : decide ((a1.extract 0 (t593 : Int).toNat).size + (a1.size - ((ji39) : Int).toNat) ≤ 9223372036854775807) = true := decide_eq_true c42
             try (have c42q : (9223372036854775807 < (t593 : Int).toNat + (a1.size - ((ji39) : Int).toNat)) = False := eq_false zq174)
             try (have c42b1z := c42b1; simp only [ByteArray.size_extract, Nat.min_self, Int.toNat_natCast, Nat.sub_zero] at c42b1z)
             try have c42b2 : (9223372036854775807 < (a1.extract 0 (t593 : Int).toNat).size + (a1.size - ((ji39) : Int).toNat)) = False := eq_false (Nat.not_lt.2 c42)
             try (have c42b3 := c42; simp only [ByteArray.size_extract, Nat.min_self] at c42b3; (repeat rw [Nat.min_eq_left (by omega)] at c42b3); replace c42b3 : (9223372036854775807 < _) = False := eq_false (Nat.not_lt.2 c42b3))
             try (have c42b2z := c42b2; simp only [ByteArray.size_extract, Nat.min_self, Int.toNat_natCast, Nat.sub_zero] at c42b2z)
             simp only [Option.some.injEq, Prod.mk.injEq] at H
             obtain ⟨rfl, rfl, rfl⟩ := H
             go_enter Tryd.func91, Tryd.ntmps91
             try go_wp2_with (first | ((with_reducible refine gate_callee (f := 69) rfl ?_); refine goesL_ (some 16) rfl rfl Tryd.func69 zq21 rfl #[.pointer (some ⟨g, 0, none⟩), .int .i64 (a1.size : Int)] rfl zq5 ?_; (with_reducible refine (spec_l1Cur_pick.calls g s0_0 s0_1 s0_2 (a1.size : Int) t593 t594 t595 w0 _ ?side1 ?side2 A7.out).mono ?_); (case side1 => repeat (first | (with_reducible first | exact HI0.out | apply IsS83.alloc | apply IsS83.drewN | apply IsS83.drew | apply IsS83.set_1 | apply IsS83.set_2) | exact HI0.out)); (case side2 => repeat (first | (with_reducible first | exact HB.out | apply below_alloc | apply pw_below_drewN | apply below_drew1 | refine below_set ?_ (IsS83.ge HI0.out)) | exact HB.out)); rintro e w43 ⟨rfl, hi, hb, hk⟩; refine ⟨_, rfl, ?_⟩; have n0_ := am (KeepBut.trans zq66 hk (.inl rfl)); have n1_ := am (hb); have n2_ := am (hi); clear HK; clear HB; clear HI0; have HK := n0_; have HB := n1_; have HI0 := n2_; clear n0_ n1_ n2_; (try clear hb); (try clear hb2); (try clear hk); (try clear hi)) | ((with_reducible refine gate_callee (f := 69) rfl ?_); refine goesL_ (some 21) rfl rfl Tryd.func69 zq21 rfl #[.pointer (some ⟨g, 0, none⟩), .int .i64 (a2.size : Int)] rfl zq5 ?_; (with_reducible refine (spec_l1Cur_pick.calls g s0_0 t594 t595 (a2.size : Int) t596 t597 t598 w0 _ ?side1 ?side2 A8.out).mono ?_); (case side1 => repeat (first | (with_reducible first | exact HI0.out | apply IsS83.alloc | apply IsS83.drewN | apply IsS83.drew | apply IsS83.set_1 | apply IsS83.set_2) | exact HI0.out)); (case side2 => repeat (first | (with_reducible first | exact HB.out | apply below_alloc | apply pw_below_drewN | apply below_drew1 | refine below_set ?_ (IsS83.ge HI0.out)) | exact HB.out)); rintro e w44 ⟨rfl, hi, hb, hk⟩; refine ⟨_, rfl, ?_⟩; have n0_ := am (KeepBut.trans zq66 hk (.inl rfl)); have n1_ := am (hb); have n2_ := am (hi); clear HK; clear HB; clear HI0; have HK := n0_; have HB := n1_; have HI0 := n2_; clear n0_ n1_ n2_; (try clear hb); (try clear hb2); (try clear hk); (try clear hi)) | ((with_reducible refine gate_callee (f := 69) rfl ?_); refine goesL_ (some 25) rfl rfl Tryd.func69 zq21 rfl #[.pointer (some ⟨g, 0, none⟩), .int .i64 3] rfl zq5 ?_; (with_reducible refine (spec_l1Cur_pick.calls g s0_0 t597 t598 3 t599 t600 t601 w0 _ ?side1 ?side2 A13.out).mono ?_); (case side1 => repeat (first | (with_reducible first | exact HI0.out | apply IsS83.alloc | apply IsS83.drewN | apply IsS83.drew | apply IsS83.set_1 | apply IsS83.set_2) | exact HI0.out)); (case side2 => repeat (first | (with_reducible first | exact HB.out | apply below_alloc | apply pw_below_drewN | apply below_drew1 | refine below_set ?_ (IsS83.ge HI0.out)) | exact HB.out)); rintro e w45 ⟨rfl, hi, hb, hk⟩; refine ⟨_, rfl, ?_⟩; have n0_ := am (KeepBut.trans zq66 hk (.inl rfl)); have n1_ := am (hb); have n2_ := am (hi); clear HK; clear HB; clear HI0; have HK := n0_; have HB := n1_; have HI0 := n2_; clear n0_ n1_ n2_; (try clear hb); (try clear hb2); (try clear hk); (try clear hi)))
             have n0_ := am (IsS83.drew HI0.out)
             have n1_ := am (keep_drew HK.out)
             have n2_ := am (below_drew1 HB.out)
             clear HI0
             clear HK
             clear HB
             have HI0 := n0_
             have HK := n1_
             have HB := n2_
             clear n0_ n1_ n2_
             refine start_ (n := 9) (S := fun w' => True) (ds := []) #[false, false, false, false, false, false, false, false, false] zq21 rfl rfl trivial (fun hHeld => ?_); refine with_tabW spec_l1Cur_spoilt.tab10 spec_l1Cur_spoilt.bits10 (fun HT_ HW_ => ?_)
             generalize w45.drew = w46 at HI0 HK HB hHeld ⊢
             refine pure_ (i := 0) (N := some 49) (v := ?_) (a' := ?_) #[true, false, false, false, false, false, false, false, false] rfl rfl (any_of HT_.out zq21) (fun _ _ _ h => h) (Or.inl ⟨by rfl, ?_⟩) ?_ ?_
             rotate_left
             ·intro w'
              go_simp
              with_reducible rfl
             rotate_left
             ·simp only [Act.put, List.setIfInBounds_toArray, List.set_cons_zero, List.set_cons_succ, i64_w, i32_w]
              rfl
             refine pure_ (i := 1) (N := some 50) (v := ?_) (a' := ?_) #[true, true, false, false, false, false, false, false, false] rfl rfl (any_of HT_.out zq21) (fun _ _ _ h => h) (Or.inl ⟨by rfl, ?_⟩) ?_ ?_
             rotate_left
             ·intro w'
              go_simp
              with_reducible rfl
             rotate_left
             ·simp only [Act.put, List.setIfInBounds_toArray, List.set_cons_zero, List.set_cons_succ, i64_w, i32_w]
              rfl
             refine pure_ (i := 2) (N := some 51) (v := ?_) (a' := ?_) #[true, true, true, false, false, false, false, false, false] rfl rfl (any_of HT_.out zq21) (fun _ _ _ h => h) (Or.inl ⟨by rfl, ?_⟩) ?_ ?_
             rotate_left
             ·intro w'
              go_simp
              with_reducible rfl
             rotate_left
             ·simp only [Act.put, List.setIfInBounds_toArray, List.set_cons_zero, List.set_cons_succ, i64_w, i32_w]
              rfl
             refine pure_ (i := 3) (N := some 52) (v := ?_) (a' := ?_) #[true, true, true, true, false, false, false, false, false] rfl rfl (any_of HT_.out zq21) (fun _ _ _ h => h) (Or.inl ⟨by rfl, ?_⟩) ?_ ?_
             rotate_left
             ·intro w'
              go_simp
              with_reducible rfl
             rotate_left
             ·simp only [Act.put, List.setIfInBounds_toArray, List.set_cons_zero, List.set_cons_succ, i64_w, i32_w]
              rfl
             refine pure_ (i := 4) (N := some 53) (v := ?_) (a' := ?_) #[true, true, true, true, true, false, false, false, false] rfl rfl (any_of HT_.out zq21) (fun _ _ _ h => h) (Or.inl ⟨by rfl, ?_⟩) ?_ ?_
             rotate_left
             ·intro w'
              go_simp
              with_reducible rfl
             rotate_left
             ·simp only [Act.put, List.setIfInBounds_toArray, List.set_cons_zero, List.set_cons_succ, i64_w, i32_w]
              rfl
             refine pure_ (i := 5) (N := some 54) (v := ?_) (a' := ?_) #[true, true, true, true, true, true, false, false, false] rfl rfl (any_of HT_.out zq21) (fun _ _ _ h => h) (Or.inl ⟨by rfl, ?_⟩) ?_ ?_
             rotate_left
             ·intro w'
              go_simp
              with_reducible rfl
             rotate_left
             ·simp only [Act.put, List.setIfInBounds_toArray, List.set_cons_zero, List.set_cons_succ, i64_w, i32_w]
              rfl
             refine pure_ (i := 6) (N := some 55) (v := ?_) (a' := ?_) #[true, true, true, true, true, true, true, false, false] rfl rfl (any_of HT_.out zq21) (fun _ _ _ h => h) (Or.inl ⟨by rfl, ?_⟩) ?_ ?_
             rotate_left
             ·intro w'
              go_simp
              with_reducible rfl
             rotate_left
             ·simp only [Act.put, List.setIfInBounds_toArray, List.set_cons_zero, List.set_cons_succ, i64_w, i32_w]
              rfl
             refine pure_ (i := 7) (N := some 56) (v := ?_) (a' := ?_) #[true, true, true, true, true, true, true, true, false] rfl rfl (any_of HT_.out zq21) (fun _ _ _ h => h) (Or.inl ⟨by rfl, ?_⟩) ?_ ?_
             rotate_left
             ·intro w'
              go_simp
              with_reducible rfl
             rotate_left
             ·simp only [Act.put, List.setIfInBounds_toArray, List.set_cons_zero, List.set_cons_succ, i64_w, i32_w]
              rfl
             refine pure_ (i := 8) (N := some 6) (v := ?_) (a' := ?_) #[true, true, true, true, true, true, true, true, true] rfl rfl (any_of HT_.out zq21) (fun _ _ _ h => h) (Or.inl ⟨by rfl, ?_⟩) ?_ ?_
             rotate_left
             ·intro w'
              go_simp
              with_reducible rfl
             rotate_left
             ·simp only [Act.put, List.setIfInBounds_toArray, List.set_cons_zero, List.set_cons_succ, i64_w, i32_w]
              rfl
             refine done_ (done_of HT_.out zq21) ?_
             try go_wp2
             go_ret
             exact ⟨by first | rfl | (simp [errW_none, errW_some] <;> rfl) | (simp only [← hji39]; first | rfl | (simp [errW_none, errW_some] <;> rfl)) | (simp [*, errW_none, errW_some] <;> rfl), zq67, zq68, zq66⟩
            ·rw [if_neg c42] at H
             exact absurd H zq176
           ·rw [if_neg c41] at H
            exact absurd H zq176
          ·rw [if_neg c40] at H
           exact absurd H zq176
         ·rw [if_neg c38] at H
          exact absurd H zq176
        ·rw [if_neg c37] at H
         exact absurd H zq176
     ·rw [if_neg c12] at H
      exact absurd H zq176
    ·rw [if_neg c11] at H
     exact absurd H zq176
   ·rw [if_neg c10] at H
    exact absurd H zq176
  ·rw [if_neg c9] at H
   exact absurd H zq176
def spec_l1Cur_anyLog.f (k : Nat) (s0_0 : List Int) (s0_1 : Int) (s0_2 : Int) : Option (ByteArray × ByteArray × Int × Int × Int) := (spec_l1Cur_log12.f k s0_0 s0_1 s0_2).bind fun bt603 => ((spec_l1Cur_pick.f s0_0 bt603.2.2.2.1 bt603.2.2.2.2 24).bind fun bt609 => (if bt609.1 = 0 then (some (bt603.1, bt603.2.1, wrap64 (bt603.2.2.1 + 1), bt609.2.1, bt609.2.2)) else (if bt609.1 = 1 then ((spec_l1Cur_spoilt.f s0_0 bt609.2.1 bt609.2.2 bt603.2.1 (⟨#[35, 64, 10, 48, 49]⟩ : ByteArray)).bind fun bt612 => (some (bt603.1, bt612.1, bt603.2.2.1, bt612.2.1, bt612.2.2))) else (if bt609.1 = 2 then (if bt603.1.size + bt603.2.1.size ≤ 9223372036854775807 then (some (bt603.1 ++ bt603.2.1, bt603.2.1, bt603.2.2.1, bt609.2.1, bt609.2.2)) else (none)) else (some (bt603.1, bt603.2.1, bt603.2.2.1, bt609.2.1, bt609.2.2))))))
set_option maxHeartbeats 8000000 in
set_option maxRecDepth 100000 in
theorem spec_l1Cur_anyLog.calls (k : Nat) (g : Nat) (s0_0 : List Int) (s0_1 : Int) (s0_2 : Int) (r1 : ByteArray) (r2 : ByteArray) (r3 : Int) (r4 : Int) (r5 : Int) (w0 w : World) (hI : IsS83 w0 w g s0_0 s0_1 s0_2) (hB : Below w0.heap.size w0 w) (h : spec_l1Cur_anyLog.f k s0_0 s0_1 s0_2 = some (r1, r2, r3, r4, r5)) :
  Calls Tryd.prog 87 #[.pointer (some ⟨g, 0, none⟩)] w fun e w' => e = .returned (.agg #[.string r1, .string r2, .int .i64 r3]) ∧ IsS83 w0 w' g s0_0 r4 r5 ∧ Below w0.heap.size w0 w' ∧ KeepBut w w' g none := by
 have hu42 := Tryd.underlying42
 have HI0 := am hI
 have HK := am (KeepBut.refl w g none)
 have HL := am hB.size
 clear hI
 have HW0 := am hB.size
 have HB := am hB
 clear hB
 have H : ((spec_l1Cur_log12.f k s0_0 s0_1 s0_2).bind fun bt603 => ((spec_l1Cur_pick.f s0_0 bt603.2.2.2.1 bt603.2.2.2.2 24).bind fun bt609 => (if bt609.1 = 0 then (some (bt603.1, bt603.2.1, wrap64 (bt603.2.2.1 + 1), bt609.2.1, bt609.2.2)) else (if bt609.1 = 1 then ((spec_l1Cur_spoilt.f s0_0 bt609.2.1 bt609.2.2 bt603.2.1 (⟨#[35, 64, 10, 48, 49]⟩ : ByteArray)).bind fun bt612 => (some (bt603.1, bt612.1, bt603.2.2.1, bt612.2.1, bt612.2.2))) else (if bt609.1 = 2 then (if bt603.1.size + bt603.2.1.size ≤ 9223372036854775807 then (some (bt603.1 ++ bt603.2.1, bt603.2.1, bt603.2.2.1, bt609.2.1, bt609.2.2)) else (none)) else (some (bt603.1, bt603.2.1, bt603.2.2.1, bt609.2.1, bt609.2.2))))))) = some (r1, r2, r3, r4, r5) := h
 clear h
 replace H := bem H
 obtain ⟨⟨t603, t604, t605, t606, t607⟩, A20, H⟩ := H
 replace H : ((spec_l1Cur_pick.f s0_0 t606 t607 24).bind fun bt609 => (if bt609.1 = 0 then (some (t603, t604, wrap64 (t605 + 1), bt609.2.1, bt609.2.2)) else (if bt609.1 = 1 then ((spec_l1Cur_spoilt.f s0_0 bt609.2.1 bt609.2.2 t604 (⟨#[35, 64, 10, 48, 49]⟩ : ByteArray)).bind fun bt612 => (some (t603, bt612.1, t605, bt612.2.1, bt612.2.2))) else (if bt609.1 = 2 then (if t603.size + t604.size ≤ 9223372036854775807 then (some (t603 ++ t604, t604, t605, bt609.2.1, bt609.2.2)) else (none)) else (some (t603, t604, t605, bt609.2.1, bt609.2.2)))))) = some (r1, r2, r3, r4, r5) := H
 have A2 := am A20
 clear A20
 replace H := bem H
 obtain ⟨⟨t609, t610, t611⟩, A30, H⟩ := H
 replace H : (if t609 = 0 then (some (t603, t604, wrap64 (t605 + 1), t610, t611)) else (if t609 = 1 then ((spec_l1Cur_spoilt.f s0_0 t610 t611 t604 (⟨#[35, 64, 10, 48, 49]⟩ : ByteArray)).bind fun bt612 => (some (t603, bt612.1, t605, bt612.2.1, bt612.2.2))) else (if t609 = 2 then (if t603.size + t604.size ≤ 9223372036854775807 then (some (t603 ++ t604, t604, t605, t610, t611)) else (none)) else (some (t603, t604, t605, t610, t611))))) = some (r1, r2, r3, r4, r5) := H
 have A3 := am A30
 clear A30
 by_cases c4 : t609 = 0
 ·rw [if_pos c4] at H
  have c4b0 : (t609 == 0) = true := beq_iff_eq.mpr c4
  have c4b1 : (t609 != 0) = false := bne_eq_false_iff_eq.mpr c4
  clear c4
  simp only [Option.some.injEq, Prod.mk.injEq] at H
  obtain ⟨rfl, rfl, rfl, rfl, rfl⟩ := H
  go_enter Tryd.func87, Tryd.ntmps87
  go_wp2_with (first | ((with_reducible refine gate_dst (N := 2) rfl ?_); refine box_event ?hg (N := 2) ?hd (cs := #[.string ⟨#[]⟩, .string ⟨#[]⟩, .int .i64 0]) (t := 42) ?hr ?_; (case hd => rfl); (case hg => rfl); (case hr => first | (go_simp; done) | (go_simp; rfl)); intro gb602 hg w5 hbox hb; have n0_ := am (IsS83.below zq67 hb); have n1_ := am (KeepBut.trans zq66 (KeepBut.of_below hb g none) (.inl rfl)); have n2_ := am (below_step zq68 hb); have n3_ := am (hbox); have n4_ := am ((zq87 : w.heap.size ≤ gb602)); have n5_ := am ((Nat.le_trans HW0.out (zq87 : w.heap.size ≤ gb602) : w0.heap.size ≤ gb602)); have n6_ := am ((zq113 : g ≠ gb602)); have n7_ := am ((zq114 : gb602 ≠ g)); clear HI0; clear HK; clear HB; have HI0 := n0_; have HK := n1_; have HB := n2_; have BK602 := n3_; have GW602 := n4_; have GE602 := n5_; have NB0_602 := n6_; have NB602_0 := n7_; clear n0_ n1_ n2_ n3_ n4_ n5_ n6_ n7_; clear hb hbox hg) | ((with_reducible refine gate_callee (f := 90) rfl ?_); refine goesL_ (some 5) rfl rfl Tryd.func90 zq21 rfl #[.pointer (some ⟨g, 0, none⟩)] rfl zq5 ?_; (with_reducible refine (spec_l1Cur_log12.calls k g s0_0 s0_1 s0_2 t603 t604 t605 t606 t607 w0 _ ?side1 ?side2 A2.out).mono ?_); (case side1 => repeat (first | (with_reducible first | exact HI0.out | apply IsS83.alloc | apply IsS83.drewN | apply IsS83.drew | apply IsS83.set_1 | apply IsS83.set_2 | refine IsS83.far ?_ NB0_602.out _) | exact HI0.out)); (case side2 => repeat (first | (with_reducible first | exact HB.out | apply below_alloc | apply pw_below_drewN | apply below_drew1 | refine below_set ?_ (IsS83.ge HI0.out) | refine below_set ?_ GE602.out) | exact HB.out)); rintro e w6 ⟨rfl, hi, hb, hk⟩; refine ⟨_, rfl, ?_⟩; have n0_ := am (KeepBut.blk hk (g' := gb602) (o := .cells #[.string ⟨#[]⟩, .string ⟨#[]⟩, .int .i64 0] 42 (0, 0)) zq103 NB602_0.out zq176); have n1_ := am (KeepBut.trans zq100 hk (.inl rfl)); have n2_ := am (hb); have n3_ := am (hi); clear BK602; clear HK; clear HB; clear HI0; have BK602 := n0_; have HK := n1_; have HB := n2_; have HI0 := n3_; clear n0_ n1_ n2_ n3_; (try clear hb); (try clear hb2); (try clear hk); (try clear hi)) | ((with_reducible refine gate_dst (N := 3) rfl ?_); refine box_event ?hg (N := 3) ?hd (cs := #[.string ⟨#[]⟩, .string ⟨#[]⟩, .int .i64 0]) (t := 42) ?hr ?_; (case hd => rfl); (case hg => rfl); (case hr => first | (go_simp; done) | (go_simp; rfl)); intro gb608 hg w7 hbox hb; have n0_ := am (IsS83.below zq101 hb); have n1_ := am (blk_below (g := gb602) (o := .cells #[.string ⟨#[]⟩, .string ⟨#[]⟩, .int .i64 0] 42 (0, 0)) zq103 hb); have n2_ := am (KeepBut.trans zq100 (KeepBut.of_below hb g none) (.inl rfl)); have n3_ := am (below_step zq108 hb); have n4_ := am (hbox); have n5_ := am ((zq111 : w.heap.size ≤ gb608)); have n6_ := am ((Nat.le_trans HW0.out (zq111 : w.heap.size ≤ gb608) : w0.heap.size ≤ gb608)); have n7_ := am ((zq109 : gb602 ≠ gb608)); have n8_ := am ((zq110 : gb608 ≠ gb602)); have n9_ := am ((zq115 : g ≠ gb608)); have n10_ := am ((zq116 : gb608 ≠ g)); clear HI0; clear BK602; clear HK; clear HB; have HI0 := n0_; have BK602 := n1_; have HK := n2_; have HB := n3_; have BK608 := n4_; have GW608 := n5_; have GE608 := n6_; have NB602_608 := n7_; have NB608_602 := n8_; have NB0_608 := n9_; have NB608_0 := n10_; clear n0_ n1_ n2_ n3_ n4_ n5_ n6_ n7_ n8_ n9_ n10_; clear hb hbox hg; have hnb8 := NB608_602.out; have hnc8 := NB602_608.out; have hnb9 := NB608_0.out; have hnc9 := NB0_608.out; have hcz10_0 : w7.cell? ⟨gb608, 0, none⟩ = some (.string ⟨#[]⟩) := (blk_cell BK608.out 0).trans rfl; have hcz10_1 : w7.cell? ⟨gb608, 1, none⟩ = some (.string ⟨#[]⟩) := (blk_cell BK608.out 1).trans rfl; have hcz10_2 : w7.cell? ⟨gb608, 2, none⟩ = some (.int .i64 0) := (blk_cell BK608.out 2).trans rfl; have hfz10_0 := blk_frozen BK608.out 0; have hfz10_1 := blk_frozen BK608.out 1; have hfz10_2 := blk_frozen BK608.out 2) | ((with_reducible refine gate_callee (f := 69) rfl ?_); refine goesL_ (some 7) rfl rfl Tryd.func69 zq21 rfl #[.pointer (some ⟨g, 0, none⟩), .int .i64 24] rfl zq5 ?_; (with_reducible refine (spec_l1Cur_pick.calls g s0_0 t606 t607 24 t609 t610 t611 w0 _ ?side1 ?side2 A3.out).mono ?_); (case side1 => repeat (first | (with_reducible first | exact HI0.out | apply IsS83.alloc | apply IsS83.drewN | apply IsS83.drew | apply IsS83.set_1 | apply IsS83.set_2 | refine IsS83.far ?_ NB0_602.out _ | refine IsS83.far ?_ NB0_608.out _) | exact HI0.out)); (case side2 => repeat (first | (with_reducible first | exact HB.out | apply below_alloc | apply pw_below_drewN | apply below_drew1 | refine below_set ?_ (IsS83.ge HI0.out) | refine below_set ?_ GE602.out | refine below_set ?_ GE608.out) | exact HB.out)); rintro e w11 ⟨rfl, hi, hb, hk⟩; refine ⟨_, rfl, ?_⟩; have n0_ := am (KeepBut.blk hk (g' := gb602) (o := .cells #[.string ⟨#[]⟩, .string ⟨#[]⟩, .int .i64 0] 42 (0, 0)) zq105 NB602_0.out zq176); have n1_ := am (KeepBut.blk hk (g' := gb608) (o := .cells #[.string t603, .string t604, .int .i64 t605] 42 (0, 0)) zq102 NB608_0.out zq176); have n2_ := am (KeepBut.trans zq104 hk (.inl rfl)); have n3_ := am (hb); have n4_ := am (hi); clear BK602; clear BK608; clear HK; clear HB; clear HI0; have BK602 := n0_; have BK608 := n1_; have HK := n2_; have HB := n3_; have HI0 := n4_; clear n0_ n1_ n2_ n3_ n4_; (try clear hb); (try clear hb2); (try clear hk); (try clear hi); have hcz12_0 : w11.cell? ⟨gb608, 0, none⟩ = some (.string t603) := (blk_cell BK608.out 0).trans rfl; have hcz12_1 : w11.cell? ⟨gb608, 1, none⟩ = some (.string t604) := (blk_cell BK608.out 1).trans rfl; have hcz12_2 : w11.cell? ⟨gb608, 2, none⟩ = some (.int .i64 t605) := (blk_cell BK608.out 2).trans rfl; have hfz12_0 := blk_frozen BK608.out 0; have hfz12_1 := blk_frozen BK608.out 1; have hfz12_2 := blk_frozen BK608.out 2; have hnb13 := NB602_0.out; have hnc13 := NB0_602.out; have hcz14_0 : w11.cell? ⟨gb602, 0, none⟩ = some (.string ⟨#[]⟩) := (blk_cell BK602.out 0).trans rfl; have hcz14_1 : w11.cell? ⟨gb602, 1, none⟩ = some (.string ⟨#[]⟩) := (blk_cell BK602.out 1).trans rfl; have hcz14_2 : w11.cell? ⟨gb602, 2, none⟩ = some (.int .i64 0) := (blk_cell BK602.out 2).trans rfl; have hfz14_0 := blk_frozen BK602.out 0; have hfz14_1 := blk_frozen BK602.out 1; have hfz14_2 := blk_frozen BK602.out 2))
  refine bodyPost_ret (results_cell_row rfl _ _ gb602 42 #[.string t603, .string t604, .int .i64 (wrap64 (t605 + 1))] (0, 0) _ rfl (by (with_reducible repeat (first | refine blk_drewN ?_ _ | refine blk_drew ?_ | refine blk_alloc ?_ _)); refine blk_put (cs := #[.string t603, .string t604, .int .i64 0]) ?_ 2 _ rfl; (with_reducible repeat (first | refine blk_drewN ?_ _ | refine blk_drew ?_ | refine blk_alloc ?_ _)); refine blk_put (cs := #[.string t603, .string ⟨#[]⟩, .int .i64 0]) ?_ 1 _ rfl; (with_reducible repeat (first | refine blk_drewN ?_ _ | refine blk_drew ?_ | refine blk_alloc ?_ _)); refine blk_put (cs := #[.string ⟨#[]⟩, .string ⟨#[]⟩, .int .i64 0]) ?_ 0 _ rfl; (with_reducible repeat (first | refine blk_drewN ?_ _ | refine blk_drew ?_ | refine blk_alloc ?_ _)); refine blk_far ?_ NB602_608.out _; (with_reducible repeat (first | refine blk_drewN ?_ _ | refine blk_drew ?_ | refine blk_alloc ?_ _)); exact BK602.out) Tryd.underlying42 rfl zq21) rfl ?_
  exact ⟨zq7, zq106, zq107, zq104⟩
 ·rw [if_neg c4] at H
  have c4b0 : (t609 == 0) = false := beq_eq_false_iff_ne.mpr c4
  have c4b1 : (t609 != 0) = true := bne_iff_ne.mpr c4
  by_cases c15 : t609 = 1
  ·rw [if_pos c15] at H
   have c15b0 : (t609 == 1) = true := beq_iff_eq.mpr c15
   have c15b1 : (t609 != 1) = false := bne_eq_false_iff_eq.mpr c15
   clear c15
   replace H := bem H
   obtain ⟨⟨t612, t613, t614⟩, A160, H⟩ := H
   replace H : (some (t603, t612, t605, t613, t614)) = some (r1, r2, r3, r4, r5) := H
   have A16 := am A160
   clear A160
   simp only [Option.some.injEq, Prod.mk.injEq] at H
   obtain ⟨rfl, rfl, rfl, rfl, rfl⟩ := H
   go_enter Tryd.func87, Tryd.ntmps87
   go_wp2_with (first | ((with_reducible refine gate_dst (N := 2) rfl ?_); refine box_event ?hg (N := 2) ?hd (cs := #[.string ⟨#[]⟩, .string ⟨#[]⟩, .int .i64 0]) (t := 42) ?hr ?_; (case hd => rfl); (case hg => rfl); (case hr => first | (go_simp; done) | (go_simp; rfl)); intro gb602 hg w17 hbox hb; have n0_ := am (IsS83.below zq67 hb); have n1_ := am (KeepBut.trans zq66 (KeepBut.of_below hb g none) (.inl rfl)); have n2_ := am (below_step zq68 hb); have n3_ := am (hbox); have n4_ := am ((zq87 : w.heap.size ≤ gb602)); have n5_ := am ((Nat.le_trans HW0.out (zq87 : w.heap.size ≤ gb602) : w0.heap.size ≤ gb602)); have n6_ := am ((zq113 : g ≠ gb602)); have n7_ := am ((zq114 : gb602 ≠ g)); clear HI0; clear HK; clear HB; have HI0 := n0_; have HK := n1_; have HB := n2_; have BK602 := n3_; have GW602 := n4_; have GE602 := n5_; have NB0_602 := n6_; have NB602_0 := n7_; clear n0_ n1_ n2_ n3_ n4_ n5_ n6_ n7_; clear hb hbox hg) | ((with_reducible refine gate_callee (f := 90) rfl ?_); refine goesL_ (some 5) rfl rfl Tryd.func90 zq21 rfl #[.pointer (some ⟨g, 0, none⟩)] rfl zq5 ?_; (with_reducible refine (spec_l1Cur_log12.calls k g s0_0 s0_1 s0_2 t603 t604 t605 t606 t607 w0 _ ?side1 ?side2 A2.out).mono ?_); (case side1 => repeat (first | (with_reducible first | exact HI0.out | apply IsS83.alloc | apply IsS83.drewN | apply IsS83.drew | apply IsS83.set_1 | apply IsS83.set_2 | refine IsS83.far ?_ NB0_602.out _) | exact HI0.out)); (case side2 => repeat (first | (with_reducible first | exact HB.out | apply below_alloc | apply pw_below_drewN | apply below_drew1 | refine below_set ?_ (IsS83.ge HI0.out) | refine below_set ?_ GE602.out) | exact HB.out)); rintro e w18 ⟨rfl, hi, hb, hk⟩; refine ⟨_, rfl, ?_⟩; have n0_ := am (KeepBut.blk hk (g' := gb602) (o := .cells #[.string ⟨#[]⟩, .string ⟨#[]⟩, .int .i64 0] 42 (0, 0)) zq103 NB602_0.out zq176); have n1_ := am (KeepBut.trans zq100 hk (.inl rfl)); have n2_ := am (hb); have n3_ := am (hi); clear BK602; clear HK; clear HB; clear HI0; have BK602 := n0_; have HK := n1_; have HB := n2_; have HI0 := n3_; clear n0_ n1_ n2_ n3_; (try clear hb); (try clear hb2); (try clear hk); (try clear hi)) | ((with_reducible refine gate_dst (N := 3) rfl ?_); refine box_event ?hg (N := 3) ?hd (cs := #[.string ⟨#[]⟩, .string ⟨#[]⟩, .int .i64 0]) (t := 42) ?hr ?_; (case hd => rfl); (case hg => rfl); (case hr => first | (go_simp; done) | (go_simp; rfl)); intro gb608 hg w19 hbox hb; have n0_ := am (IsS83.below zq101 hb); have n1_ := am (blk_below (g := gb602) (o := .cells #[.string ⟨#[]⟩, .string ⟨#[]⟩, .int .i64 0] 42 (0, 0)) zq103 hb); have n2_ := am (KeepBut.trans zq100 (KeepBut.of_below hb g none) (.inl rfl)); have n3_ := am (below_step zq108 hb); have n4_ := am (hbox); have n5_ := am ((zq111 : w.heap.size ≤ gb608)); have n6_ := am ((Nat.le_trans HW0.out (zq111 : w.heap.size ≤ gb608) : w0.heap.size ≤ gb608)); have n7_ := am ((zq109 : gb602 ≠ gb608)); have n8_ := am ((zq110 : gb608 ≠ gb602)); have n9_ := am ((zq115 : g ≠ gb608)); have n10_ := am ((zq116 : gb608 ≠ g)); clear HI0; clear BK602; clear HK; clear HB; have HI0 := n0_; have BK602 := n1_; have HK := n2_; have HB := n3_; have BK608 := n4_; have GW608 := n5_; have GE608 := n6_; have NB602_608 := n7_; have NB608_602 := n8_; have NB0_608 := n9_; have NB608_0 := n10_; clear n0_ n1_ n2_ n3_ n4_ n5_ n6_ n7_ n8_ n9_ n10_; clear hb hbox hg; have hnb20 := NB608_602.out; have hnc20 := NB602_608.out; have hnb21 := NB608_0.out; have hnc21 := NB0_608.out; have hcz22_0 : w19.cell? ⟨gb608, 0, none⟩ = some (.string ⟨#[]⟩) := (blk_cell BK608.out 0).trans rfl; have hcz22_1 : w19.cell? ⟨gb608, 1, none⟩ = some (.string ⟨#[]⟩) := (blk_cell BK608.out 1).trans rfl; have hcz22_2 : w19.cell? ⟨gb608, 2, none⟩ = some (.int .i64 0) := (blk_cell BK608.out 2).trans rfl; have hfz22_0 := blk_frozen BK608.out 0; have hfz22_1 := blk_frozen BK608.out 1; have hfz22_2 := blk_frozen BK608.out 2) | ((with_reducible refine gate_callee (f := 69) rfl ?_); refine goesL_ (some 7) rfl rfl Tryd.func69 zq21 rfl #[.pointer (some ⟨g, 0, none⟩), .int .i64 24] rfl zq5 ?_; (with_reducible refine (spec_l1Cur_pick.calls g s0_0 t606 t607 24 t609 t610 t611 w0 _ ?side1 ?side2 A3.out).mono ?_); (case side1 => repeat (first | (with_reducible first | exact HI0.out | apply IsS83.alloc | apply IsS83.drewN | apply IsS83.drew | apply IsS83.set_1 | apply IsS83.set_2 | refine IsS83.far ?_ NB0_602.out _ | refine IsS83.far ?_ NB0_608.out _) | exact HI0.out)); (case side2 => repeat (first | (with_reducible first | exact HB.out | apply below_alloc | apply pw_below_drewN | apply below_drew1 | refine below_set ?_ (IsS83.ge HI0.out) | refine below_set ?_ GE602.out | refine below_set ?_ GE608.out) | exact HB.out)); rintro e w23 ⟨rfl, hi, hb, hk⟩; refine ⟨_, rfl, ?_⟩; have n0_ := am (KeepBut.blk hk (g' := gb602) (o := .cells #[.string ⟨#[]⟩, .string ⟨#[]⟩, .int .i64 0] 42 (0, 0)) zq105 NB602_0.out zq176); have n1_ := am (KeepBut.blk hk (g' := gb608) (o := .cells #[.string t603, .string t604, .int .i64 t605] 42 (0, 0)) zq102 NB608_0.out zq176); have n2_ := am (KeepBut.trans zq104 hk (.inl rfl)); have n3_ := am (hb); have n4_ := am (hi); clear BK602; clear BK608; clear HK; clear HB; clear HI0; have BK602 := n0_; have BK608 := n1_; have HK := n2_; have HB := n3_; have HI0 := n4_; clear n0_ n1_ n2_ n3_ n4_; (try clear hb); (try clear hb2); (try clear hk); (try clear hi); have hcz24_0 : w23.cell? ⟨gb608, 0, none⟩ = some (.string t603) := (blk_cell BK608.out 0).trans rfl; have hcz24_1 : w23.cell? ⟨gb608, 1, none⟩ = some (.string t604) := (blk_cell BK608.out 1).trans rfl; have hcz24_2 : w23.cell? ⟨gb608, 2, none⟩ = some (.int .i64 t605) := (blk_cell BK608.out 2).trans rfl; have hfz24_0 := blk_frozen BK608.out 0; have hfz24_1 := blk_frozen BK608.out 1; have hfz24_2 := blk_frozen BK608.out 2) | ((with_reducible refine gate_callee (f := 91) rfl ?_); refine goesL_ (some 19) rfl rfl Tryd.func91 zq21 rfl #[.pointer (some ⟨g, 0, none⟩), .string t604, .string ⟨#[35, 64, 10, 48, 49]⟩] rfl zq5 ?_; (with_reducible refine (spec_l1Cur_spoilt.calls g s0_0 t610 t611 t604 (⟨#[35, 64, 10, 48, 49]⟩ : ByteArray) t612 t613 t614 w0 _ ?side1 ?side2 A16.out).mono ?_); (case side1 => repeat (first | (with_reducible first | exact HI0.out | apply IsS83.alloc | apply IsS83.drewN | apply IsS83.drew | apply IsS83.set_1 | apply IsS83.set_2 | refine IsS83.far ?_ NB0_602.out _ | refine IsS83.far ?_ NB0_608.out _) | exact HI0.out)); (case side2 => repeat (first | (with_reducible first | exact HB.out | apply below_alloc | apply pw_below_drewN | apply below_drew1 | refine below_set ?_ (IsS83.ge HI0.out) | refine below_set ?_ GE602.out | refine below_set ?_ GE608.out) | exact HB.out)); rintro e w25 ⟨rfl, hi, hb, hk⟩; refine ⟨_, rfl, ?_⟩; have n0_ := am (KeepBut.blk hk (g' := gb602) (o := .cells #[.string ⟨#[]⟩, .string ⟨#[]⟩, .int .i64 0] 42 (0, 0)) zq103 NB602_0.out zq176); have n1_ := am (KeepBut.blk hk (g' := gb608) (o := .cells #[.string t603, .string t604, .int .i64 t605] 42 (0, 0)) (by (with_reducible repeat (first | refine blk_drewN ?_ _ | refine blk_drew ?_ | refine blk_alloc ?_ _)); exact BK608.out) NB608_0.out zq176); have n2_ := am (KeepBut.trans zq104 hk (.inl rfl)); have n3_ := am (hb); have n4_ := am (hi); clear BK602; clear BK608; clear HK; clear HB; clear HI0; have BK602 := n0_; have BK608 := n1_; have HK := n2_; have HB := n3_; have HI0 := n4_; clear n0_ n1_ n2_ n3_ n4_; (try clear hb); (try clear hb2); (try clear hk); (try clear hi); have hcz26_0 : w25.cell? ⟨gb608, 0, none⟩ = some (.string t603) := (blk_cell BK608.out 0).trans rfl; have hcz26_1 : w25.cell? ⟨gb608, 1, none⟩ = some (.string t604) := (blk_cell BK608.out 1).trans rfl; have hcz26_2 : w25.cell? ⟨gb608, 2, none⟩ = some (.int .i64 t605) := (blk_cell BK608.out 2).trans rfl; have hfz26_0 := blk_frozen BK608.out 0; have hfz26_1 := blk_frozen BK608.out 1; have hfz26_2 := blk_frozen BK608.out 2; have hnb27 := NB602_0.out; have hnc27 := NB0_602.out; have hcz28_0 : w25.cell? ⟨gb602, 0, none⟩ = some (.string ⟨#[]⟩) := (blk_cell BK602.out 0).trans rfl; have hcz28_1 : w25.cell? ⟨gb602, 1, none⟩ = some (.string ⟨#[]⟩) := (blk_cell BK602.out 1).trans rfl; have hcz28_2 : w25.cell? ⟨gb602, 2, none⟩ = some (.int .i64 0) := (blk_cell BK602.out 2).trans rfl; have hfz28_0 := blk_frozen BK602.out 0; have hfz28_1 := blk_frozen BK602.out 1; have hfz28_2 := blk_frozen BK602.out 2))
   refine bodyPost_ret (results_cell_row rfl _ _ gb602 42 #[.string t603, .string t612, .int .i64 t605] (0, 0) _ rfl (by (with_reducible repeat (first | refine blk_drewN ?_ _ | refine blk_drew ?_ | refine blk_alloc ?_ _)); refine blk_put (cs := #[.string t603, .string t612, .int .i64 0]) ?_ 2 _ rfl; (with_reducible repeat (first | refine blk_drewN ?_ _ | refine blk_drew ?_ | refine blk_alloc ?_ _)); refine blk_put (cs := #[.string t603, .string ⟨#[]⟩, .int .i64 0]) ?_ 1 _ rfl; (with_reducible repeat (first | refine blk_drewN ?_ _ | refine blk_drew ?_ | refine blk_alloc ?_ _)); refine blk_put (cs := #[.string ⟨#[]⟩, .string ⟨#[]⟩, .int .i64 0]) ?_ 0 _ rfl; (with_reducible repeat (first | refine blk_drewN ?_ _ | refine blk_drew ?_ | refine blk_alloc ?_ _)); refine blk_far ?_ NB602_608.out _; (with_reducible repeat (first | refine blk_drewN ?_ _ | refine blk_drew ?_ | refine blk_alloc ?_ _)); exact BK602.out) Tryd.underlying42 rfl zq21) rfl ?_
   exact ⟨zq7, zq106, zq107, zq104⟩
  ·rw [if_neg c15] at H
   have c15b0 : (t609 == 1) = false := beq_eq_false_iff_ne.mpr c15
   have c15b1 : (t609 != 1) = true := bne_iff_ne.mpr c15
   by_cases c29 : t609 = 2
   ·rw [if_pos c29] at H
    have c29b0 : (t609 == 2) = true := beq_iff_eq.mpr c29
    have c29b1 : (t609 != 2) = false := bne_eq_false_iff_eq.mpr c29
    clear c29
    by_cases c30 : t603.size + t604.size ≤ 9223372036854775807
    ·rw [if_pos c30] at H
     have c30b0 := eq_true c30
     have c30b1 : decide (t603.size + t604.size ≤ 9223372036854775807) = true := decide_eq_true c30
     try have c30b2 : (9223372036854775807 < t603.size + t604.size) = False := eq_false (Nat.not_lt.2 c30)
     simp only [Option.some.injEq, Prod.mk.injEq] at H
     obtain ⟨rfl, rfl, rfl, rfl, rfl⟩ := H
     go_enter Tryd.func87, Tryd.ntmps87
     go_wp2_with (first | ((with_reducible refine gate_dst (N := 2) rfl ?_); refine box_event ?hg (N := 2) ?hd (cs := #[.string ⟨#[]⟩, .string ⟨#[]⟩, .int .i64 0]) (t := 42) ?hr ?_; (case hd => rfl); (case hg => rfl); (case hr => first | (go_simp; done) | (go_simp; rfl)); intro gb602 hg w31 hbox hb; have n0_ := am (IsS83.below zq67 hb); have n1_ := am (KeepBut.trans zq66 (KeepBut.of_below hb g none) (.inl rfl)); have n2_ := am (below_step zq68 hb); have n3_ := am (hbox); have n4_ := am ((zq87 : w.heap.size ≤ gb602)); have n5_ := am ((Nat.le_trans HW0.out (zq87 : w.heap.size ≤ gb602) : w0.heap.size ≤ gb602)); have n6_ := am ((zq113 : g ≠ gb602)); have n7_ := am ((zq114 : gb602 ≠ g)); clear HI0; clear HK; clear HB; have HI0 := n0_; have HK := n1_; have HB := n2_; have BK602 := n3_; have GW602 := n4_; have GE602 := n5_; have NB0_602 := n6_; have NB602_0 := n7_; clear n0_ n1_ n2_ n3_ n4_ n5_ n6_ n7_; clear hb hbox hg) | ((with_reducible refine gate_callee (f := 90) rfl ?_); refine goesL_ (some 5) rfl rfl Tryd.func90 zq21 rfl #[.pointer (some ⟨g, 0, none⟩)] rfl zq5 ?_; (with_reducible refine (spec_l1Cur_log12.calls k g s0_0 s0_1 s0_2 t603 t604 t605 t606 t607 w0 _ ?side1 ?side2 A2.out).mono ?_); (case side1 => repeat (first | (with_reducible first | exact HI0.out | apply IsS83.alloc | apply IsS83.drewN | apply IsS83.drew | apply IsS83.set_1 | apply IsS83.set_2 | refine IsS83.far ?_ NB0_602.out _) | exact HI0.out)); (case side2 => repeat (first | (with_reducible first | exact HB.out | apply below_alloc | apply pw_below_drewN | apply below_drew1 | refine below_set ?_ (IsS83.ge HI0.out) | refine below_set ?_ GE602.out) | exact HB.out)); rintro e w32 ⟨rfl, hi, hb, hk⟩; refine ⟨_, rfl, ?_⟩; have n0_ := am (KeepBut.blk hk (g' := gb602) (o := .cells #[.string ⟨#[]⟩, .string ⟨#[]⟩, .int .i64 0] 42 (0, 0)) zq103 NB602_0.out zq176); have n1_ := am (KeepBut.trans zq100 hk (.inl rfl)); have n2_ := am (hb); have n3_ := am (hi); clear BK602; clear HK; clear HB; clear HI0; have BK602 := n0_; have HK := n1_; have HB := n2_; have HI0 := n3_; clear n0_ n1_ n2_ n3_; (try clear hb); (try clear hb2); (try clear hk); (try clear hi)) | ((with_reducible refine gate_dst (N := 3) rfl ?_); refine box_event ?hg (N := 3) ?hd (cs := #[.string ⟨#[]⟩, .string ⟨#[]⟩, .int .i64 0]) (t := 42) ?hr ?_; (case hd => rfl); (case hg => rfl); (case hr => first | (go_simp; done) | (go_simp; rfl)); intro gb608 hg w33 hbox hb; have n0_ := am (IsS83.below zq101 hb); have n1_ := am (blk_below (g := gb602) (o := .cells #[.string ⟨#[]⟩, .string ⟨#[]⟩, .int .i64 0] 42 (0, 0)) zq103 hb); have n2_ := am (KeepBut.trans zq100 (KeepBut.of_below hb g none) (.inl rfl)); have n3_ := am (below_step zq108 hb); have n4_ := am (hbox); have n5_ := am ((zq111 : w.heap.size ≤ gb608)); have n6_ := am ((Nat.le_trans HW0.out (zq111 : w.heap.size ≤ gb608) : w0.heap.size ≤ gb608)); have n7_ := am ((zq109 : gb602 ≠ gb608)); have n8_ := am ((zq110 : gb608 ≠ gb602)); have n9_ := am ((zq115 : g ≠ gb608)); have n10_ := am ((zq116 : gb608 ≠ g)); clear HI0; clear BK602; clear HK; clear HB; have HI0 := n0_; have BK602 := n1_; have HK := n2_; have HB := n3_; have BK608 := n4_; have GW608 := n5_; have GE608 := n6_; have NB602_608 := n7_; have NB608_602 := n8_; have NB0_608 := n9_; have NB608_0 := n10_; clear n0_ n1_ n2_ n3_ n4_ n5_ n6_ n7_ n8_ n9_ n10_; clear hb hbox hg; have hnb34 := NB608_602.out; have hnc34 := NB602_608.out; have hnb35 := NB608_0.out; have hnc35 := NB0_608.out; have hcz36_0 : w33.cell? ⟨gb608, 0, none⟩ = some (.string ⟨#[]⟩) := (blk_cell BK608.out 0).trans rfl; have hcz36_1 : w33.cell? ⟨gb608, 1, none⟩ = some (.string ⟨#[]⟩) := (blk_cell BK608.out 1).trans rfl; have hcz36_2 : w33.cell? ⟨gb608, 2, none⟩ = some (.int .i64 0) := (blk_cell BK608.out 2).trans rfl; have hfz36_0 := blk_frozen BK608.out 0; have hfz36_1 := blk_frozen BK608.out 1; have hfz36_2 := blk_frozen BK608.out 2) | ((with_reducible refine gate_callee (f := 69) rfl ?_); refine goesL_ (some 7) rfl rfl Tryd.func69 zq21 rfl #[.pointer (some ⟨g, 0, none⟩), .int .i64 24] rfl zq5 ?_; (with_reducible refine (spec_l1Cur_pick.calls g s0_0 t606 t607 24 t609 t610 t611 w0 _ ?side1 ?side2 A3.out).mono ?_); (case side1 => repeat (first | (with_reducible first | exact HI0.out | apply IsS83.alloc | apply IsS83.drewN | apply IsS83.drew | apply IsS83.set_1 | apply IsS83.set_2 | refine IsS83.far ?_ NB0_602.out _ | refine IsS83.far ?_ NB0_608.out _) | exact HI0.out)); (case side2 => repeat (first | (with_reducible first | exact HB.out | apply below_alloc | apply pw_below_drewN | apply below_drew1 | refine below_set ?_ (IsS83.ge HI0.out) | refine below_set ?_ GE602.out | refine below_set ?_ GE608.out) | exact HB.out)); rintro e w37 ⟨rfl, hi, hb, hk⟩; refine ⟨_, rfl, ?_⟩; have n0_ := am (KeepBut.blk hk (g' := gb602) (o := .cells #[.string ⟨#[]⟩, .string ⟨#[]⟩, .int .i64 0] 42 (0, 0)) zq105 NB602_0.out zq176); have n1_ := am (KeepBut.blk hk (g' := gb608) (o := .cells #[.string t603, .string t604, .int .i64 t605] 42 (0, 0)) zq102 NB608_0.out zq176); have n2_ := am (KeepBut.trans zq104 hk (.inl rfl)); have n3_ := am (hb); have n4_ := am (hi); clear BK602; clear BK608; clear HK; clear HB; clear HI0; have BK602 := n0_; have BK608 := n1_; have HK := n2_; have HB := n3_; have HI0 := n4_; clear n0_ n1_ n2_ n3_ n4_; (try clear hb); (try clear hb2); (try clear hk); (try clear hi); have hcz38_0 : w37.cell? ⟨gb608, 0, none⟩ = some (.string t603) := (blk_cell BK608.out 0).trans rfl; have hcz38_1 : w37.cell? ⟨gb608, 1, none⟩ = some (.string t604) := (blk_cell BK608.out 1).trans rfl; have hcz38_2 : w37.cell? ⟨gb608, 2, none⟩ = some (.int .i64 t605) := (blk_cell BK608.out 2).trans rfl; have hfz38_0 := blk_frozen BK608.out 0; have hfz38_1 := blk_frozen BK608.out 1; have hfz38_2 := blk_frozen BK608.out 2; have hnb39 := NB602_0.out; have hnc39 := NB0_602.out; have hcz40_0 : w37.cell? ⟨gb602, 0, none⟩ = some (.string ⟨#[]⟩) := (blk_cell BK602.out 0).trans rfl; have hcz40_1 : w37.cell? ⟨gb602, 1, none⟩ = some (.string ⟨#[]⟩) := (blk_cell BK602.out 1).trans rfl; have hcz40_2 : w37.cell? ⟨gb602, 2, none⟩ = some (.int .i64 0) := (blk_cell BK602.out 2).trans rfl; have hfz40_0 := blk_frozen BK602.out 0; have hfz40_1 := blk_frozen BK602.out 1; have hfz40_2 := blk_frozen BK602.out 2))
     refine bodyPost_ret (results_cell_row rfl _ _ gb602 42 #[.string (t603 ++ t604), .string t604, .int .i64 t605] (0, 0) _ rfl (by (with_reducible repeat (first | refine blk_drewN ?_ _ | refine blk_drew ?_ | refine blk_alloc ?_ _)); refine blk_put (cs := #[.string (t603 ++ t604), .string t604, .int .i64 0]) ?_ 2 _ rfl; (with_reducible repeat (first | refine blk_drewN ?_ _ | refine blk_drew ?_ | refine blk_alloc ?_ _)); refine blk_put (cs := #[.string (t603 ++ t604), .string ⟨#[]⟩, .int .i64 0]) ?_ 1 _ rfl; (with_reducible repeat (first | refine blk_drewN ?_ _ | refine blk_drew ?_ | refine blk_alloc ?_ _)); refine blk_put (cs := #[.string ⟨#[]⟩, .string ⟨#[]⟩, .int .i64 0]) ?_ 0 _ rfl; (with_reducible repeat (first | refine blk_drewN ?_ _ | refine blk_drew ?_ | refine blk_alloc ?_ _)); refine blk_far ?_ NB602_608.out _; (with_reducible repeat (first | refine blk_drewN ?_ _ | refine blk_drew ?_ | refine blk_alloc ?_ _)); exact BK602.out) Tryd.underlying42 rfl zq21) rfl ?_
     exact ⟨zq7, zq106, zq107, zq104⟩
    ·rw [if_neg c30] at H
     exact absurd H zq176
   ·rw [if_neg c29] at H
    have c29b0 : (t609 == 2) = false := beq_eq_false_iff_ne.mpr c29
    have c29b1 : (t609 != 2) = true := bne_iff_ne.mpr c29
    simp only [Option.some.injEq, Prod.mk.injEq] at H
    obtain ⟨rfl, rfl, rfl, rfl, rfl⟩ := H
    go_enter Tryd.func87, Tryd.ntmps87
    go_wp2_with (first | ((with_reducible refine gate_dst (N := 2) rfl ?_); refine box_event ?hg (N := 2) ?hd (cs := #[.string ⟨#[]⟩, .string ⟨#[]⟩, .int .i64 0]) (t := 42) ?hr ?_; (case hd => rfl); (case hg => rfl); (case hr => first | (go_simp; done) | (go_simp; rfl)); intro gb602 hg w41 hbox hb; have n0_ := am (IsS83.below zq67 hb); have n1_ := am (KeepBut.trans zq66 (KeepBut.of_below hb g none) (.inl rfl)); have n2_ := am (below_step zq68 hb); have n3_ := am (hbox); have n4_ := am ((zq87 : w.heap.size ≤ gb602)); have n5_ := am ((Nat.le_trans HW0.out (zq87 : w.heap.size ≤ gb602) : w0.heap.size ≤ gb602)); have n6_ := am ((zq113 : g ≠ gb602)); have n7_ := am ((zq114 : gb602 ≠ g)); clear HI0; clear HK; clear HB; have HI0 := n0_; have HK := n1_; have HB := n2_; have BK602 := n3_; have GW602 := n4_; have GE602 := n5_; have NB0_602 := n6_; have NB602_0 := n7_; clear n0_ n1_ n2_ n3_ n4_ n5_ n6_ n7_; clear hb hbox hg) | ((with_reducible refine gate_callee (f := 90) rfl ?_); refine goesL_ (some 5) rfl rfl Tryd.func90 zq21 rfl #[.pointer (some ⟨g, 0, none⟩)] rfl zq5 ?_; (with_reducible refine (spec_l1Cur_log12.calls k g s0_0 s0_1 s0_2 t603 t604 t605 t606 t607 w0 _ ?side1 ?side2 A2.out).mono ?_); (case side1 => repeat (first | (with_reducible first | exact HI0.out | apply IsS83.alloc | apply IsS83.drewN | apply IsS83.drew | apply IsS83.set_1 | apply IsS83.set_2 | refine IsS83.far ?_ NB0_602.out _) | exact HI0.out)); (case side2 => repeat (first | (with_reducible first | exact HB.out | apply below_alloc | apply pw_below_drewN | apply below_drew1 | refine below_set ?_ (IsS83.ge HI0.out) | refine below_set ?_ GE602.out) | exact HB.out)); rintro e w42 ⟨rfl, hi, hb, hk⟩; refine ⟨_, rfl, ?_⟩; have n0_ := am (KeepBut.blk hk (g' := gb602) (o := .cells #[.string ⟨#[]⟩, .string ⟨#[]⟩, .int .i64 0] 42 (0, 0)) zq103 NB602_0.out zq176); have n1_ := am (KeepBut.trans zq100 hk (.inl rfl)); have n2_ := am (hb); have n3_ := am (hi); clear BK602; clear HK; clear HB; clear HI0; have BK602 := n0_; have HK := n1_; have HB := n2_; have HI0 := n3_; clear n0_ n1_ n2_ n3_; (try clear hb); (try clear hb2); (try clear hk); (try clear hi)) | ((with_reducible refine gate_dst (N := 3) rfl ?_); refine box_event ?hg (N := 3) ?hd (cs := #[.string ⟨#[]⟩, .string ⟨#[]⟩, .int .i64 0]) (t := 42) ?hr ?_; (case hd => rfl); (case hg => rfl); (case hr => first | (go_simp; done) | (go_simp; rfl)); intro gb608 hg w43 hbox hb; have n0_ := am (IsS83.below zq101 hb); have n1_ := am (blk_below (g := gb602) (o := .cells #[.string ⟨#[]⟩, .string ⟨#[]⟩, .int .i64 0] 42 (0, 0)) zq103 hb); have n2_ := am (KeepBut.trans zq100 (KeepBut.of_below hb g none) (.inl rfl)); have n3_ := am (below_step zq108 hb); have n4_ := am (hbox); have n5_ := am ((zq111 : w.heap.size ≤ gb608)); have n6_ := am ((Nat.le_trans HW0.out (zq111 : w.heap.size ≤ gb608) : w0.heap.size ≤ gb608)); have n7_ := am ((zq109 : gb602 ≠ gb608)); have n8_ := am ((zq110 : gb608 ≠ gb602)); have n9_ := am ((zq115 : g ≠ gb608)); have n10_ := am ((zq116 : gb608 ≠ g)); clear HI0; clear BK602; clear HK; clear HB; have HI0 := n0_; have BK602 := n1_; have HK := n2_; have HB := n3_; have BK608 := n4_; have GW608 := n5_; have GE608 := n6_; have NB602_608 := n7_; have NB608_602 := n8_; have NB0_608 := n9_; have NB608_0 := n10_; clear n0_ n1_ n2_ n3_ n4_ n5_ n6_ n7_ n8_ n9_ n10_; clear hb hbox hg; have hnb44 := NB608_602.out; have hnc44 := NB602_608.out; have hnb45 := NB608_0.out; have hnc45 := NB0_608.out; have hcz46_0 : w43.cell? ⟨gb608, 0, none⟩ = some (.string ⟨#[]⟩) := (blk_cell BK608.out 0).trans rfl; have hcz46_1 : w43.cell? ⟨gb608, 1, none⟩ = some (.string ⟨#[]⟩) := (blk_cell BK608.out 1).trans rfl; have hcz46_2 : w43.cell? ⟨gb608, 2, none⟩ = some (.int .i64 0) := (blk_cell BK608.out 2).trans rfl; have hfz46_0 := blk_frozen BK608.out 0; have hfz46_1 := blk_frozen BK608.out 1; have hfz46_2 := blk_frozen BK608.out 2) | ((with_reducible refine gate_callee (f := 69) rfl ?_); refine goesL_ (some 7) rfl rfl Tryd.func69 zq21 rfl #[.pointer (some ⟨g, 0, none⟩), .int .i64 24] rfl zq5 ?_; (with_reducible refine (spec_l1Cur_pick.calls g s0_0 t606 t607 24 t609 t610 t611 w0 _ ?side1 ?side2 A3.out).mono ?_); (case side1 => repeat (first | (with_reducible first | exact HI0.out | apply IsS83.alloc | apply IsS83.drewN | apply IsS83.drew | apply IsS83.set_1 | apply IsS83.set_2 | refine IsS83.far ?_ NB0_602.out _ | refine IsS83.far ?_ NB0_608.out _) | exact HI0.out)); (case side2 => repeat (first | (with_reducible first | exact HB.out | apply below_alloc | apply pw_below_drewN | apply below_drew1 | refine below_set ?_ (IsS83.ge HI0.out) | refine below_set ?_ GE602.out | refine below_set ?_ GE608.out) | exact HB.out)); rintro e w47 ⟨rfl, hi, hb, hk⟩; refine ⟨_, rfl, ?_⟩; have n0_ := am (KeepBut.blk hk (g' := gb602) (o := .cells #[.string ⟨#[]⟩, .string ⟨#[]⟩, .int .i64 0] 42 (0, 0)) zq105 NB602_0.out zq176); have n1_ := am (KeepBut.blk hk (g' := gb608) (o := .cells #[.string t603, .string t604, .int .i64 t605] 42 (0, 0)) zq102 NB608_0.out zq176); have n2_ := am (KeepBut.trans zq104 hk (.inl rfl)); have n3_ := am (hb); have n4_ := am (hi); clear BK602; clear BK608; clear HK; clear HB; clear HI0; have BK602 := n0_; have BK608 := n1_; have HK := n2_; have HB := n3_; have HI0 := n4_; clear n0_ n1_ n2_ n3_ n4_; (try clear hb); (try clear hb2); (try clear hk); (try clear hi); have hcz48_0 : w47.cell? ⟨gb608, 0, none⟩ = some (.string t603) := (blk_cell BK608.out 0).trans rfl; have hcz48_1 : w47.cell? ⟨gb608, 1, none⟩ = some (.string t604) := (blk_cell BK608.out 1).trans rfl; have hcz48_2 : w47.cell? ⟨gb608, 2, none⟩ = some (.int .i64 t605) := (blk_cell BK608.out 2).trans rfl; have hfz48_0 := blk_frozen BK608.out 0; have hfz48_1 := blk_frozen BK608.out 1; have hfz48_2 := blk_frozen BK608.out 2; have hnb49 := NB602_0.out; have hnc49 := NB0_602.out; have hcz50_0 : w47.cell? ⟨gb602, 0, none⟩ = some (.string ⟨#[]⟩) := (blk_cell BK602.out 0).trans rfl; have hcz50_1 : w47.cell? ⟨gb602, 1, none⟩ = some (.string ⟨#[]⟩) := (blk_cell BK602.out 1).trans rfl; have hcz50_2 : w47.cell? ⟨gb602, 2, none⟩ = some (.int .i64 0) := (blk_cell BK602.out 2).trans rfl; have hfz50_0 := blk_frozen BK602.out 0; have hfz50_1 := blk_frozen BK602.out 1; have hfz50_2 := blk_frozen BK602.out 2))
    refine bodyPost_ret (results_cell_row rfl _ _ gb602 42 #[.string t603, .string t604, .int .i64 t605] (0, 0) _ rfl (by (with_reducible repeat (first | refine blk_drewN ?_ _ | refine blk_drew ?_ | refine blk_alloc ?_ _)); refine blk_put (cs := #[.string t603, .string t604, .int .i64 0]) ?_ 2 _ rfl; (with_reducible repeat (first | refine blk_drewN ?_ _ | refine blk_drew ?_ | refine blk_alloc ?_ _)); refine blk_put (cs := #[.string t603, .string ⟨#[]⟩, .int .i64 0]) ?_ 1 _ rfl; (with_reducible repeat (first | refine blk_drewN ?_ _ | refine blk_drew ?_ | refine blk_alloc ?_ _)); refine blk_put (cs := #[.string ⟨#[]⟩, .string ⟨#[]⟩, .int .i64 0]) ?_ 0 _ rfl; (with_reducible repeat (first | refine blk_drewN ?_ _ | refine blk_drew ?_ | refine blk_alloc ?_ _)); exact BK602.out) Tryd.underlying42 rfl zq21) rfl ?_
    exact ⟨zq7, zq106, zq107, zq104⟩
def spec_DrawIsValidLog.f (k : Nat) (l0 : List Int) : Option (ByteArray × ByteArray × Int) := (spec_l1Cur_anyLog.f k l0 0 0).bind fun bt617 => (some (bt617.1, bt617.2.1, bt617.2.2.1))
set_option maxHeartbeats 8000000 in
set_option maxRecDepth 100000 in
theorem spec_DrawIsValidLog.calls (k : Nat) (A0 : Option Addr) (c0 : Nat) (l0 : List Int) (r1 : ByteArray) (r2 : ByteArray) (r3 : Int) (w : World) (hr0 : Kd.C (Kd.int .u8) w A0 l0.length l0) (hc0 : l0.length ≤ c0) (h : spec_DrawIsValidLog.f k l0 = some (r1, r2, r3)) :
  Calls Tryd.prog 48 #[.slice A0 l0.length c0] w fun e w' => e = .returned (.agg #[.string r1, .string r2, .int .i64 r3]) ∧ Below w.heap.size w w' := by
 have hu42 := Tryd.underlying42
 have hu83 := Tryd.underlying83
 have HR0 := am hr0
 have HC0 := am hc0
 clear hr0 hc0
 have HB := am (Below.refl w.heap.size w)
 have H : ((spec_l1Cur_anyLog.f k l0 0 0).bind fun bt617 => (some (bt617.1, bt617.2.1, bt617.2.2.1))) = some (r1, r2, r3) := h
 clear h
 replace H := bem H
 obtain ⟨⟨t617, t618, t619, t620, t621⟩, A20, H⟩ := H
 replace H : (some (t617, t618, t619)) = some (r1, r2, r3) := H
 have A2 := am A20
 clear A20
 simp only [Option.some.injEq, Prod.mk.injEq] at H
 obtain ⟨rfl, rfl, rfl⟩ := H
 go_enter Tryd.func48, Tryd.ntmps48
 go_wp2_with (first | ((with_reducible refine gate_dst (N := 2) rfl ?_); refine box_event ?hg (N := 2) ?hd (cs := #[.string ⟨#[]⟩, .string ⟨#[]⟩, .int .i64 0]) (t := 42) ?hr ?_; (case hd => rfl); (case hg => rfl); (case hr => first | (go_simp; done) | (go_simp; rfl)); intro gb615 hg w3 hbox hb; have n0_ := am (below_step zq0 hb); have n1_ := am (hbox); have n2_ := am ((zq8 : w.heap.size ≤ gb615)); have n3_ := am ((zq8 : w.heap.size ≤ gb615)); clear HB; have HB := n0_; have BK615 := n1_; have GW615 := n2_; have GE615 := n3_; clear n0_ n1_ n2_ n3_; clear hb hbox hg) | ((with_reducible refine gate_dst (N := 6) rfl ?_); refine box_event ?hg (N := 6) ?hd (cs := #[.slice A0 l0.length c0, .int .i64 0, .int .u64 0]) (t := 83) ?hr ?_; (case hd => rfl); (case hg => rfl); (case hr => first | (go_simp; done) | (go_simp; rfl)); intro gb616 hg w4 hbox hb; have n0_ := am (blk_below (g := gb615) (o := .cells #[.string ⟨#[]⟩, .string ⟨#[]⟩, .int .i64 0] 42 (0, 0)) zq112 hb); have n1_ := am (below_step zq183 hb); have n2_ := am ((show IsS83 w w4 gb616 l0 0 0 from ⟨_, _, hbox, (by rw [hg]; exact (below_size zq183) : w.heap.size ≤ gb616), HR0.out⟩)); have n3_ := am ((by rw [hg]; exact Nat.ne_of_gt (blk_lt (g := gb615) (o := .cells #[.string ⟨#[]⟩, .string ⟨#[]⟩, .int .i64 0] 42 (0, 0)) zq112) : gb616 ≠ gb615)); have n4_ := am ((by rw [hg]; exact Nat.ne_of_lt (blk_lt (g := gb615) (o := .cells #[.string ⟨#[]⟩, .string ⟨#[]⟩, .int .i64 0] 42 (0, 0)) zq112) : gb615 ≠ gb616)); clear BK615; clear HB; have BK615 := n0_; have HB := n1_; have HI616 := n2_; have NB616_615 := n3_; have NB615_616 := n4_; clear n0_ n1_ n2_ n3_ n4_; clear hb hbox hg) | ((with_reducible refine gate_callee (f := 87) rfl ?_); refine goesL_ (some 8) rfl rfl Tryd.func87 zq21 rfl #[.pointer (some ⟨gb616, 0, none⟩)] rfl zq5 ?_; (with_reducible refine (spec_l1Cur_anyLog.calls k gb616 l0 0 0 t617 t618 t619 t620 t621 w _ ?side1 ?side2 A2.out).mono ?_); (case side1 => repeat (first | (with_reducible first | exact HI616.out | apply IsS83.alloc | apply IsS83.drewN | apply IsS83.drew | apply IsS83.set_1 | apply IsS83.set_2 | refine IsS83.far ?_ NB616_615.out _) | exact HI616.out)); (case side2 => repeat (first | (with_reducible first | exact HB.out | apply below_alloc | apply pw_below_drewN | apply below_drew1 | refine below_set ?_ (IsS83.ge HI616.out) | refine below_set ?_ GE615.out) | exact HB.out)); rintro e w5 ⟨rfl, hi, hb, hk⟩; refine ⟨_, rfl, ?_⟩; have n0_ := am (KeepBut.blk hk (g' := gb615) (o := .cells #[.string ⟨#[]⟩, .string ⟨#[]⟩, .int .i64 0] 42 (0, 0)) zq112 NB615_616.out zq176); have n1_ := am (hb); have n2_ := am (hi); clear BK615; clear HB; clear HI616; have BK615 := n0_; have HB := n1_; have HI616 := n2_; clear n0_ n1_ n2_; (try clear hb); (try clear hb2); (try clear hk); (try clear hi); have hnb6 := NB615_616.out; have hnc6 := NB616_615.out; have hcz7_0 : w5.cell? ⟨gb615, 0, none⟩ = some (.string ⟨#[]⟩) := (blk_cell BK615.out 0).trans rfl; have hcz7_1 : w5.cell? ⟨gb615, 1, none⟩ = some (.string ⟨#[]⟩) := (blk_cell BK615.out 1).trans rfl; have hcz7_2 : w5.cell? ⟨gb615, 2, none⟩ = some (.int .i64 0) := (blk_cell BK615.out 2).trans rfl; have hfz7_0 := blk_frozen BK615.out 0; have hfz7_1 := blk_frozen BK615.out 1; have hfz7_2 := blk_frozen BK615.out 2))
 refine bodyPost_ret (results_cell_row rfl _ _ gb615 42 #[.string t617, .string t618, .int .i64 t619] (0, 0) _ rfl (by (with_reducible repeat (first | refine blk_drewN ?_ _ | refine blk_drew ?_ | refine blk_alloc ?_ _)); refine blk_put (cs := #[.string t617, .string t618, .int .i64 0]) ?_ 2 _ rfl; (with_reducible repeat (first | refine blk_drewN ?_ _ | refine blk_drew ?_ | refine blk_alloc ?_ _)); refine blk_put (cs := #[.string t617, .string ⟨#[]⟩, .int .i64 0]) ?_ 1 _ rfl; (with_reducible repeat (first | refine blk_drewN ?_ _ | refine blk_drew ?_ | refine blk_alloc ?_ _)); refine blk_put (cs := #[.string ⟨#[]⟩, .string ⟨#[]⟩, .int .i64 0]) ?_ 0 _ rfl; (with_reducible repeat (first | refine blk_drewN ?_ _ | refine blk_drew ?_ | refine blk_alloc ?_ _)); exact BK615.out) Tryd.underlying42 rfl zq21) rfl ?_
 exact ⟨zq7, by repeat (first | (with_reducible first | exact HB.out | apply below_alloc | apply pw_below_drewN | apply below_drew1 | refine below_set ?_ (IsS83.ge HI616.out) | refine below_set ?_ GE615.out) | exact HB.out)⟩
def spec_DrawAppendRecord.l0 : Nat → Int → List Int → Int → Int → ByteArray → ByteArray → Int → Option (ByteArray × ByteArray × Int × ByteArray × ByteArray)
 | 0, _, _, _, _, _, _, _ => none
 | k + 1, x6, x625000, x625001, x625002, x631000, x631001, x631002 => if x6 > 0 then ((spec_AppendRecord.f k x631000 x631001 x631002 (⟨#[120]⟩ : ByteArray) (⟨#[]⟩ : ByteArray)).bind fun bt637 => (spec_DrawAppendRecord.l0 k (wrap64 (x6 - 1)) x625000 x625001 x625002 bt637.1 bt637.2.1 bt637.2.2.1)) else ((spec_l1Cur_logRecord.f x625000 x625001 x625002).bind fun bt641 => (some (x631000, x631001, x631002, bt641.1, bt641.2.1)))
def spec_DrawAppendRecord.f (k : Nat) (l0 : List Int) : Option (ByteArray × ByteArray × Int × ByteArray × ByteArray) := (spec_l1Cur_anyLog.f k l0 0 0).bind fun bt625 => ((spec_l1Cur_one.f l0 bt625.2.2.2.1 bt625.2.2.2.2 40).bind fun bt631 => (if bt631.1 = true then ((spec_l1Cur_pick.f l0 bt631.2.1 bt631.2.2 2).bind fun bt634 => (spec_DrawAppendRecord.l0 k (wrap64 (59 + bt634.1)) l0 bt634.2.1 bt634.2.2 (⟨#[]⟩ : ByteArray) (⟨#[]⟩ : ByteArray) 0)) else ((spec_l1Cur_logRecord.f l0 bt631.2.1 bt631.2.2).bind fun bt645 => (some (bt625.1, bt625.2.1, bt625.2.2.1, bt645.1, bt645.2.1)))))
set_option maxHeartbeats 8000000 in
set_option maxRecDepth 100000 in
theorem spec_DrawAppendRecord.calls (k : Nat) (A0 : Option Addr) (c0 : Nat) (l0 : List Int) (r1 : ByteArray) (r2 : ByteArray) (r3 : Int) (r4 : ByteArray) (r5 : ByteArray) (w : World) (hr0 : Kd.C (Kd.int .u8) w A0 l0.length l0) (hc0 : l0.length ≤ c0) (h : spec_DrawAppendRecord.f k l0 = some (r1, r2, r3, r4, r5)) :
  Calls Tryd.prog 49 #[.slice A0 l0.length c0] w fun e w' => e = .returned (.tuple #[.agg #[.string r1, .string r2, .int .i64 r3], .agg #[.string r4, .string r5]]) ∧ Below w.heap.size w w' := by
 have hu42 := Tryd.underlying42
 have hu38 := Tryd.underlying38
 have hu83 := Tryd.underlying83
 have HR0 := am hr0
 have HC0 := am hc0
 clear hr0 hc0
 have HB := am (Below.refl w.heap.size w)
 have H : ((spec_l1Cur_anyLog.f k l0 0 0).bind fun bt625 => ((spec_l1Cur_one.f l0 bt625.2.2.2.1 bt625.2.2.2.2 40).bind fun bt631 => (if bt631.1 = true then ((spec_l1Cur_pick.f l0 bt631.2.1 bt631.2.2 2).bind fun bt634 => (spec_DrawAppendRecord.l0 k (wrap64 (59 + bt634.1)) l0 bt634.2.1 bt634.2.2 (⟨#[]⟩ : ByteArray) (⟨#[]⟩ : ByteArray) 0)) else ((spec_l1Cur_logRecord.f l0 bt631.2.1 bt631.2.2).bind fun bt645 => (some (bt625.1, bt625.2.1, bt625.2.2.1, bt645.1, bt645.2.1)))))) = some (r1, r2, r3, r4, r5) := h
 clear h
 replace H := bem H
 obtain ⟨⟨t625, t626, t627, t628, t629⟩, A20, H⟩ := H
 replace H : ((spec_l1Cur_one.f l0 t628 t629 40).bind fun bt631 => (if bt631.1 = true then ((spec_l1Cur_pick.f l0 bt631.2.1 bt631.2.2 2).bind fun bt634 => (spec_DrawAppendRecord.l0 k (wrap64 (59 + bt634.1)) l0 bt634.2.1 bt634.2.2 (⟨#[]⟩ : ByteArray) (⟨#[]⟩ : ByteArray) 0)) else ((spec_l1Cur_logRecord.f l0 bt631.2.1 bt631.2.2).bind fun bt645 => (some (t625, t626, t627, bt645.1, bt645.2.1))))) = some (r1, r2, r3, r4, r5) := H
 have A2 := am A20
 clear A20
 replace H := bem H
 obtain ⟨⟨t631, t632, t633⟩, A30, H⟩ := H
 replace H : (if t631 = true then ((spec_l1Cur_pick.f l0 t632 t633 2).bind fun bt634 => (spec_DrawAppendRecord.l0 k (wrap64 (59 + bt634.1)) l0 bt634.2.1 bt634.2.2 (⟨#[]⟩ : ByteArray) (⟨#[]⟩ : ByteArray) 0)) else ((spec_l1Cur_logRecord.f l0 t632 t633).bind fun bt645 => (some (t625, t626, t627, bt645.1, bt645.2.1)))) = some (r1, r2, r3, r4, r5) := H
 have A3 := am A30
 clear A30
 by_cases c4 : t631 = true
 ·subst c4
  have H1 : ((spec_l1Cur_pick.f l0 t632 t633 2).bind fun bt634 => (spec_DrawAppendRecord.l0 k (wrap64 (59 + bt634.1)) l0 bt634.2.1 bt634.2.2 (⟨#[]⟩ : ByteArray) (⟨#[]⟩ : ByteArray) 0)) = some (r1, r2, r3, r4, r5) := by rw [if_pos rfl] at H; exact H
  clear H
  have H := H1
  clear H1
  replace H := bem H
  obtain ⟨⟨t634, t635, t636⟩, A50, H⟩ := H
  replace H : (spec_DrawAppendRecord.l0 k (wrap64 (59 + t634)) l0 t635 t636 (⟨#[]⟩ : ByteArray) (⟨#[]⟩ : ByteArray) 0) = some (r1, r2, r3, r4, r5) := H
  have A5 := am A50
  clear A50
  have H' := am H
  clear H
  go_enter Tryd.func49, Tryd.ntmps49
  go_wp2_with (first | ((with_reducible refine gate_dst (N := 2) rfl ?_); refine box_event ?hg (N := 2) ?hd (cs := #[.string ⟨#[]⟩, .string ⟨#[]⟩, .int .i64 0]) (t := 42) ?hr ?_; (case hd => rfl); (case hg => rfl); (case hr => first | (go_simp; done) | (go_simp; rfl)); intro gb622 hg w6 hbox hb; have n0_ := am (below_step zq0 hb); have n1_ := am (hbox); have n2_ := am ((zq8 : w.heap.size ≤ gb622)); have n3_ := am ((zq8 : w.heap.size ≤ gb622)); clear HB; have HB := n0_; have BK622 := n1_; have GW622 := n2_; have GE622 := n3_; clear n0_ n1_ n2_ n3_; clear hb hbox hg) | ((with_reducible refine gate_dst (N := 3) rfl ?_); refine box_event ?hg (N := 3) ?hd (cs := #[.string ⟨#[]⟩, .string ⟨#[]⟩]) (t := 38) ?hr ?_; (case hd => rfl); (case hg => rfl); (case hr => first | (go_simp; done) | (go_simp; rfl)); intro gb623 hg w7 hbox hb; have n0_ := am (blk_below (g := gb622) (o := .cells #[.string ⟨#[]⟩, .string ⟨#[]⟩, .int .i64 0] 42 (0, 0)) zq117 hb); have n1_ := am (below_step zq124 hb); have n2_ := am (hbox); have n3_ := am ((by rw [hg]; exact (below_size zq124) : w.heap.size ≤ gb623)); have n4_ := am ((by rw [hg]; exact (below_size zq124) : w.heap.size ≤ gb623)); have n5_ := am ((zq125 : gb622 ≠ gb623)); have n6_ := am ((zq126 : gb623 ≠ gb622)); clear BK622; clear HB; have BK622 := n0_; have HB := n1_; have BK623 := n2_; have GW623 := n3_; have GE623 := n4_; have NB622_623 := n5_; have NB623_622 := n6_; clear n0_ n1_ n2_ n3_ n4_ n5_ n6_; clear hb hbox hg) | ((with_reducible refine gate_dst (N := 9) rfl ?_); refine box_event ?hg (N := 9) ?hd (cs := #[.slice A0 l0.length c0, .int .i64 0, .int .u64 0]) (t := 83) ?hr ?_; (case hd => rfl); (case hg => rfl); (case hr => first | (go_simp; done) | (go_simp; rfl)); intro gb624 hg w8 hbox hb; have n0_ := am (blk_below (g := gb622) (o := .cells #[.string ⟨#[]⟩, .string ⟨#[]⟩, .int .i64 0] 42 (0, 0)) zq117 hb); have n1_ := am (blk_below (g := gb623) (o := .cells #[.string ⟨#[]⟩, .string ⟨#[]⟩] 38 (0, 0)) zq118 hb); have n2_ := am (below_step zq128 hb); have n3_ := am ((show IsS83 w w8 gb624 l0 0 0 from ⟨_, _, hbox, (by rw [hg]; exact (below_size zq128) : w.heap.size ≤ gb624), HR0.out⟩)); have n4_ := am ((zq126 : gb624 ≠ gb622)); have n5_ := am ((zq125 : gb622 ≠ gb624)); have n6_ := am ((zq130 : gb624 ≠ gb623)); have n7_ := am ((zq131 : gb623 ≠ gb624)); clear BK622; clear BK623; clear HB; have BK622 := n0_; have BK623 := n1_; have HB := n2_; have HI624 := n3_; have NB624_622 := n4_; have NB622_624 := n5_; have NB624_623 := n6_; have NB623_624 := n7_; clear n0_ n1_ n2_ n3_ n4_ n5_ n6_ n7_; clear hb hbox hg) | ((with_reducible refine gate_callee (f := 87) rfl ?_); refine goesL_ (some 11) rfl rfl Tryd.func87 zq21 rfl #[.pointer (some ⟨gb624, 0, none⟩)] rfl zq5 ?_; (with_reducible refine (spec_l1Cur_anyLog.calls k gb624 l0 0 0 t625 t626 t627 t628 t629 w _ ?side1 ?side2 A2.out).mono ?_); (case side1 => repeat (first | (with_reducible first | exact HI624.out | apply IsS83.alloc | apply IsS83.drewN | apply IsS83.drew | apply IsS83.set_1 | apply IsS83.set_2 | refine IsS83.far ?_ NB624_622.out _ | refine IsS83.far ?_ NB624_623.out _) | exact HI624.out)); (case side2 => repeat (first | (with_reducible first | exact HB.out | apply below_alloc | apply pw_below_drewN | apply below_drew1 | refine below_set ?_ (IsS83.ge HI624.out) | refine below_set ?_ GE622.out | refine below_set ?_ GE623.out) | exact HB.out)); rintro e w9 ⟨rfl, hi, hb, hk⟩; refine ⟨_, rfl, ?_⟩; have n0_ := am (KeepBut.blk hk (g' := gb622) (o := .cells #[.string ⟨#[]⟩, .string ⟨#[]⟩, .int .i64 0] 42 (0, 0)) zq117 NB622_624.out zq176); have n1_ := am (KeepBut.blk hk (g' := gb623) (o := .cells #[.string ⟨#[]⟩, .string ⟨#[]⟩] 38 (0, 0)) zq118 NB623_624.out zq176); have n2_ := am (hb); have n3_ := am (hi); clear BK622; clear BK623; clear HB; clear HI624; have BK622 := n0_; have BK623 := n1_; have HB := n2_; have HI624 := n3_; clear n0_ n1_ n2_ n3_; (try clear hb); (try clear hb2); (try clear hk); (try clear hi)) | ((with_reducible refine gate_dst (N := 5) rfl ?_); refine box_event ?hg (N := 5) ?hd (cs := #[.string ⟨#[]⟩, .string ⟨#[]⟩, .int .i64 0]) (t := 42) ?hr ?_; (case hd => rfl); (case hg => rfl); (case hr => first | (go_simp; done) | (go_simp; rfl)); intro gb630 hg w10 hbox hb; have n0_ := am (blk_below (g := gb622) (o := .cells #[.string ⟨#[]⟩, .string ⟨#[]⟩, .int .i64 0] 42 (0, 0)) zq117 hb); have n1_ := am (blk_below (g := gb623) (o := .cells #[.string ⟨#[]⟩, .string ⟨#[]⟩] 38 (0, 0)) zq118 hb); have n2_ := am (IsS83.below zq121 hb); have n3_ := am (below_step zq122 hb); have n4_ := am (hbox); have n5_ := am ((by rw [hg]; exact (below_size zq122) : w.heap.size ≤ gb630)); have n6_ := am ((by rw [hg]; exact (below_size zq122) : w.heap.size ≤ gb630)); have n7_ := am ((zq125 : gb622 ≠ gb630)); have n8_ := am ((zq126 : gb630 ≠ gb622)); have n9_ := am ((zq131 : gb623 ≠ gb630)); have n10_ := am ((zq130 : gb630 ≠ gb623)); have n11_ := am ((by rw [hg]; exact Nat.ne_of_lt (IsS83.lt (show IsS83 w _ gb624 l0 t628 t629 from zq121)) : gb624 ≠ gb630)); have n12_ := am ((by rw [hg]; exact Nat.ne_of_gt (IsS83.lt (show IsS83 w _ gb624 l0 t628 t629 from zq121)) : gb630 ≠ gb624)); clear BK622; clear BK623; clear HI624; clear HB; have BK622 := n0_; have BK623 := n1_; have HI624 := n2_; have HB := n3_; have BK630 := n4_; have GW630 := n5_; have GE630 := n6_; have NB622_630 := n7_; have NB630_622 := n8_; have NB623_630 := n9_; have NB630_623 := n10_; have NB624_630 := n11_; have NB630_624 := n12_; clear n0_ n1_ n2_ n3_ n4_ n5_ n6_ n7_ n8_ n9_ n10_ n11_ n12_; clear hb hbox hg; have hnb11 := NB630_622.out; have hnc11 := NB622_630.out; have hnb12 := NB630_623.out; have hnc12 := NB623_630.out; have hnb13 := NB630_624.out; have hnc13 := NB624_630.out; have hcz14_0 : w10.cell? ⟨gb630, 0, none⟩ = some (.string ⟨#[]⟩) := (blk_cell BK630.out 0).trans rfl; have hcz14_1 : w10.cell? ⟨gb630, 1, none⟩ = some (.string ⟨#[]⟩) := (blk_cell BK630.out 1).trans rfl; have hcz14_2 : w10.cell? ⟨gb630, 2, none⟩ = some (.int .i64 0) := (blk_cell BK630.out 2).trans rfl; have hfz14_0 := blk_frozen BK630.out 0; have hfz14_1 := blk_frozen BK630.out 1; have hfz14_2 := blk_frozen BK630.out 2) | ((with_reducible refine gate_callee (f := 70) rfl ?_); refine goesL_ (some 13) rfl rfl Tryd.func70 zq21 rfl #[.pointer (some ⟨gb624, 0, none⟩), .int .i64 40] rfl zq5 ?_; (with_reducible refine (spec_l1Cur_one.calls gb624 l0 t628 t629 40 true t632 t633 w _ ?side1 ?side2 A3.out).mono ?_); (case side1 => repeat (first | (with_reducible first | exact HI624.out | apply IsS83.alloc | apply IsS83.drewN | apply IsS83.drew | apply IsS83.set_1 | apply IsS83.set_2 | refine IsS83.far ?_ NB624_622.out _ | refine IsS83.far ?_ NB624_623.out _ | refine IsS83.far ?_ NB624_630.out _) | exact HI624.out)); (case side2 => repeat (first | (with_reducible first | exact HB.out | apply below_alloc | apply pw_below_drewN | apply below_drew1 | refine below_set ?_ (IsS83.ge HI624.out) | refine below_set ?_ GE622.out | refine below_set ?_ GE623.out | refine below_set ?_ GE630.out) | exact HB.out)); rintro e w15 ⟨rfl, hi, hb, hk⟩; refine ⟨_, rfl, ?_⟩; have n0_ := am (KeepBut.blk hk (g' := gb622) (o := .cells #[.string ⟨#[]⟩, .string ⟨#[]⟩, .int .i64 0] 42 (0, 0)) zq119 NB622_624.out zq176); have n1_ := am (KeepBut.blk hk (g' := gb623) (o := .cells #[.string ⟨#[]⟩, .string ⟨#[]⟩] 38 (0, 0)) zq120 NB623_624.out zq176); have n2_ := am (KeepBut.blk hk (g' := gb630) (o := .cells #[.string t625, .string t626, .int .i64 t627] 42 (0, 0)) zq127 NB630_624.out zq176); have n3_ := am (hb); have n4_ := am (hi); clear BK622; clear BK623; clear BK630; clear HB; clear HI624; have BK622 := n0_; have BK623 := n1_; have BK630 := n2_; have HB := n3_; have HI624 := n4_; clear n0_ n1_ n2_ n3_ n4_; (try clear hb); (try clear hb2); (try clear hk); (try clear hi); have hcz16_0 : w15.cell? ⟨gb630, 0, none⟩ = some (.string t625) := (blk_cell BK630.out 0).trans rfl; have hcz16_1 : w15.cell? ⟨gb630, 1, none⟩ = some (.string t626) := (blk_cell BK630.out 1).trans rfl; have hcz16_2 : w15.cell? ⟨gb630, 2, none⟩ = some (.int .i64 t627) := (blk_cell BK630.out 2).trans rfl; have hfz16_0 := blk_frozen BK630.out 0; have hfz16_1 := blk_frozen BK630.out 1; have hfz16_2 := blk_frozen BK630.out 2) | ((with_reducible refine gate_callee (f := 69) rfl ?_); refine goesL_ (some 16) rfl rfl Tryd.func69 zq21 rfl #[.pointer (some ⟨gb624, 0, none⟩), .int .i64 2] rfl zq5 ?_; (with_reducible refine (spec_l1Cur_pick.calls gb624 l0 t632 t633 2 t634 t635 t636 w _ ?side1 ?side2 A5.out).mono ?_); (case side1 => repeat (first | (with_reducible first | exact HI624.out | apply IsS83.alloc | apply IsS83.drewN | apply IsS83.drew | apply IsS83.set_1 | apply IsS83.set_2 | refine IsS83.far ?_ NB624_622.out _ | refine IsS83.far ?_ NB624_623.out _ | refine IsS83.far ?_ NB624_630.out _) | exact HI624.out)); (case side2 => repeat (first | (with_reducible first | exact HB.out | apply below_alloc | apply pw_below_drewN | apply below_drew1 | refine below_set ?_ (IsS83.ge HI624.out) | refine below_set ?_ GE622.out | refine below_set ?_ GE623.out | refine below_set ?_ GE630.out) | exact HB.out)); rintro e w17 ⟨rfl, hi, hb, hk⟩; refine ⟨_, rfl, ?_⟩; have n0_ := am (KeepBut.blk hk (g' := gb622) (o := .cells #[.string ⟨#[]⟩, .string ⟨#[]⟩, .int .i64 0] 42 (0, 0)) zq119 NB622_624.out zq176); have n1_ := am (KeepBut.blk hk (g' := gb623) (o := .cells #[.string ⟨#[]⟩, .string ⟨#[]⟩] 38 (0, 0)) zq120 NB623_624.out zq176); have n2_ := am (KeepBut.blk hk (g' := gb630) (o := .cells #[.string ⟨#[]⟩, .string ⟨#[]⟩, .int .i64 0] 42 (0, 0)) (by (with_reducible repeat (first | refine blk_drewN ?_ _ | refine blk_drew ?_ | refine blk_alloc ?_ _)); refine blk_put (cs := #[.string ⟨#[]⟩, .string ⟨#[]⟩, .int .i64 t627]) ?_ 2 _ rfl; (with_reducible repeat (first | refine blk_drewN ?_ _ | refine blk_drew ?_ | refine blk_alloc ?_ _)); refine blk_put (cs := #[.string ⟨#[]⟩, .string t626, .int .i64 t627]) ?_ 1 _ rfl; (with_reducible repeat (first | refine blk_drewN ?_ _ | refine blk_drew ?_ | refine blk_alloc ?_ _)); refine blk_put (cs := #[.string t625, .string t626, .int .i64 t627]) ?_ 0 _ rfl; (with_reducible repeat (first | refine blk_drewN ?_ _ | refine blk_drew ?_ | refine blk_alloc ?_ _)); exact BK630.out) NB630_624.out zq176); have n3_ := am (hb); have n4_ := am (hi); clear BK622; clear BK623; clear BK630; clear HB; clear HI624; have BK622 := n0_; have BK623 := n1_; have BK630 := n2_; have HB := n3_; have HI624 := n4_; clear n0_ n1_ n2_ n3_ n4_; (try clear hb); (try clear hb2); (try clear hk); (try clear hi)))
  go_loopg [6] k (fun kq v6 w' => ∃ (x6_1 : Int) (x631000_1 : ByteArray) (x631001_1 : ByteArray) (x631002_1 : Int), v6 = .int .i64 x6_1 ∧ Aside0 (spec_DrawAppendRecord.l0 kq x6_1 l0 t635 t636 x631000_1 x631001_1 x631002_1 = some (r1, r2, r3, r4, r5)) ∧ Aside0 (kq ≤ k) ∧ Aside0 (w'.heap[gb622]? = some (.cells #[.string ⟨#[]⟩, .string ⟨#[]⟩, .int .i64 0] 42 (0, 0))) ∧ Aside0 (w'.heap[gb623]? = some (.cells #[.string ⟨#[]⟩, .string ⟨#[]⟩] 38 (0, 0))) ∧ Aside0 (w'.heap[gb630]? = some (.cells #[.string x631000_1, .string x631001_1, .int .i64 x631002_1] 42 (0, 0))) ∧ Aside0 (IsS83 w w' gb624 l0 t635 t636) ∧ Aside0 (Below w.heap.size w w'))
  case atStart => exact ⟨(wrap64 (59 + t634)), ((⟨#[]⟩ : ByteArray)), ((⟨#[]⟩ : ByteArray)), (0), zq1, H', ⟨Nat.le_refl _⟩, ⟨zq117⟩, ⟨zq118⟩, ⟨zq132⟩, ⟨zq129⟩, ⟨zq123⟩⟩
  case round =>
   clear H'
   try clear c1
   try clear p2
   try clear c4
   try clear c6
   try clear p6
   try clear c7
   try clear c8
   try clear c11
   try clear c12
   try clear c13
   try clear hcz14_0
   try clear hcz14_1
   try clear hcz14_2
   try clear hcz16_0
   try clear hcz16_1
   try clear hcz16_2
   try clear hfz14_0
   try clear hfz14_1
   try clear hfz14_2
   try clear hfz16_0
   try clear hfz16_1
   try clear hfz16_2
   obtain ⟨x6_1, x631000_1, x631001_1, x631002_1, rfl, HA, HK1, BK622, BK623, BK630, HI624, HB⟩ := hrel
   cases gk with
   | zero => exact absurd HA.out (by simp [spec_DrawAppendRecord.l0])
   | succ k1 =>
    have H := HA.out
    clear HA
    simp only [spec_DrawAppendRecord.l0] at H
    by_cases c18 : x6_1 > 0
    ·rw [if_pos c18] at H
     have c18b0 : decide (0 < x6_1) = true := decide_eq_true c18
     clear c18
     replace H := bem H
     obtain ⟨⟨t637, t638, t639, t640⟩, A190, H⟩ := H
     replace H : (spec_DrawAppendRecord.l0 k1 (wrap64 (x6_1 - 1)) l0 t635 t636 t637 t638 t639) = some (r1, r2, r3, r4, r5) := H
     have A19 := am A190
     clear A190
     have H' := am H
     clear H
     have hnb20 := NB630_622.out
     have hnc20 := NB622_630.out
     have hnb21 := NB630_623.out
     have hnc21 := NB623_630.out
     have hnb22 := NB630_624.out
     have hnc22 := NB624_630.out
     have hcz23_0 : wr.cell? ⟨gb630, 0, none⟩ = some (.string x631000_1) := (blk_cell BK630.out 0).trans rfl
     have hcz23_1 : wr.cell? ⟨gb630, 1, none⟩ = some (.string x631001_1) := (blk_cell BK630.out 1).trans rfl
     have hcz23_2 : wr.cell? ⟨gb630, 2, none⟩ = some (.int .i64 x631002_1) := (blk_cell BK630.out 2).trans rfl
     have hfz23_0 := blk_frozen BK630.out 0
     have hfz23_1 := blk_frozen BK630.out 1
     have hfz23_2 := blk_frozen BK630.out 2
     go_wp2_with (first | ((with_reducible refine gate_callee (f := 38) rfl ?_); refine goesL_ (some 25) rfl rfl Tryd.func38 zq21 rfl #[.agg #[.string x631000_1, .string x631001_1, .int .i64 x631002_1], .agg #[.string ⟨#[120]⟩, .string ⟨#[]⟩]] rfl zq5 ?_; (with_reducible refine (spec_AppendRecord.calls k1 x631000_1 x631001_1 x631002_1 (⟨#[120]⟩ : ByteArray) (⟨#[]⟩ : ByteArray) t637 t638 t639 t640 _ A19.out).mono ?_); rintro e w24 ⟨rfl, hb⟩; refine ⟨_, rfl, ?_⟩; have n0_ := am (blk_below (g := gb622) (o := .cells #[.string ⟨#[]⟩, .string ⟨#[]⟩, .int .i64 0] 42 (0, 0)) zq117 hb); have n1_ := am (blk_below (g := gb623) (o := .cells #[.string ⟨#[]⟩, .string ⟨#[]⟩] 38 (0, 0)) zq118 hb); have n2_ := am (blk_below (g := gb630) (o := .cells #[.string x631000_1, .string x631001_1, .int .i64 x631002_1] 42 (0, 0)) zq132 hb); have n3_ := am (IsS83.below zq129 hb); have n4_ := am (below_step zq123 hb); clear BK622; clear BK623; clear BK630; clear HI624; clear HB; have BK622 := n0_; have BK623 := n1_; have BK630 := n2_; have HI624 := n3_; have HB := n4_; clear n0_ n1_ n2_ n3_ n4_; (try clear hb); (try clear hb2); (try clear hk); (try clear hi); have hcz25_0 : w24.cell? ⟨gb630, 0, none⟩ = some (.string x631000_1) := (blk_cell BK630.out 0).trans rfl; have hcz25_1 : w24.cell? ⟨gb630, 1, none⟩ = some (.string x631001_1) := (blk_cell BK630.out 1).trans rfl; have hcz25_2 : w24.cell? ⟨gb630, 2, none⟩ = some (.int .i64 x631002_1) := (blk_cell BK630.out 2).trans rfl; have hfz25_0 := blk_frozen BK630.out 0; have hfz25_1 := blk_frozen BK630.out 1; have hfz25_2 := blk_frozen BK630.out 2))
     go_roundg k1
     case measure => have := HK1.out; omega
     case rel => exact ⟨(wrap64 (x6_1 - 1)), (t637), (t638), (t639), zq1, H', ⟨zq175⟩, ⟨zq119⟩, ⟨zq120⟩, ⟨by (with_reducible repeat (first | refine blk_drewN ?_ _ | refine blk_drew ?_ | refine blk_alloc ?_ _)); refine blk_put (cs := #[.string t637, .string t638, .int .i64 x631002_1]) ?_ 2 _ rfl; (with_reducible repeat (first | refine blk_drewN ?_ _ | refine blk_drew ?_ | refine blk_alloc ?_ _)); refine blk_put (cs := #[.string t637, .string x631001_1, .int .i64 x631002_1]) ?_ 1 _ rfl; (with_reducible repeat (first | refine blk_drewN ?_ _ | refine blk_drew ?_ | refine blk_alloc ?_ _)); refine blk_put (cs := #[.string x631000_1, .string x631001_1, .int .i64 x631002_1]) ?_ 0 _ rfl; (with_reducible repeat (first | refine blk_drewN ?_ _ | refine blk_drew ?_ | refine blk_alloc ?_ _)); exact BK630.out⟩, ⟨zq129⟩, ⟨zq123⟩⟩
    ·rw [if_neg c18] at H
     have c18b0 : decide (0 < x6_1) = false := decide_eq_false c18
     clear c18
     replace H := bem H
     obtain ⟨⟨t641, t642, t643, t644⟩, A260, H⟩ := H
     replace H : (some (x631000_1, x631001_1, x631002_1, t641, t642)) = some (r1, r2, r3, r4, r5) := H
     have A26 := am A260
     clear A260
     simp only [Option.some.injEq, Prod.mk.injEq] at H
     obtain ⟨rfl, rfl, rfl, rfl, rfl⟩ := H
     try go_wp2
     have n0_ := am (blk_drew BK622.out)
     have n1_ := am (blk_drew BK623.out)
     have n2_ := am (blk_drew BK630.out)
     have n3_ := am (IsS83.drew HI624.out)
     have n4_ := am (below_drew1 HB.out)
     clear BK622
     clear BK623
     clear BK630
     clear HI624
     clear HB
     have BK622 := n0_
     have BK623 := n1_
     have BK630 := n2_
     have HI624 := n3_
     have HB := n4_
     clear n0_ n1_ n2_ n3_ n4_
     refine start_ (n := 5) (S := fun w' => w'.cell? ⟨gb630, 0, none⟩ = some (.string x631000_1) ∧ w'.cell? ⟨gb630, 1, none⟩ = some (.string x631001_1) ∧ w'.cell? ⟨gb630, 2, none⟩ = some (.int .i64 x631002_1)) (ds := []) #[false, false, false, false, false] zq21 rfl rfl ⟨(blk_cell BK630.out 0).trans rfl, (blk_cell BK630.out 1).trans rfl, (blk_cell BK630.out 2).trans rfl⟩ (fun hHeld => ?_)
     generalize wr.drew = w27 at BK622 BK623 BK630 HI624 HB hHeld ⊢
     refine pure_ (i := 1) (N := some 29) (v := ?_) (a' := ?_) #[false, true, false, false, false] rfl rfl zq21 (fun _ _ _ h => h) (Or.inl ⟨by rfl, ?_⟩) ?_ ?_
     rotate_left
     ·intro w'
      go_simp
      with_reducible rfl
     rotate_left
     ·simp only [Act.put, List.setIfInBounds_toArray, List.set_cons_zero, List.set_cons_succ, i64_w, i32_w]
      rfl
     refine take_ (i := 0) (N := some 28) (v := ?_) (a' := ?_) #[true, true, false, false, false] rfl rfl zq21 (fun _ _ _ h => h) (Or.inl ⟨by rfl, ?_⟩) hHeld ?_ ?_
     rotate_left
     ·rintro w' ⟨s0, s1, s2⟩
      go_simp
      with_reducible rfl
     rotate_left
     ·simp only [Act.put, List.setIfInBounds_toArray, List.set_cons_zero, List.set_cons_succ, i64_w, i32_w]
      rfl
     refine one_ (i := 2) (N := some 30) #[true, true, true, false, false] rfl rfl zq21 zq173 (fun K hK => ?_)
     refine goes_ Tryd.func85 zq21 rfl #[.pointer (some ⟨gb624, 0, none⟩)] (by rfl) rfl rfl zq5 ?_
     with_reducible refine (spec_l1Cur_logRecord.calls gb624 l0 t635 t636 t641 t642 t643 t644 w _ ?side1 ?side2 A26.out).mono ?_
     (case side1 => repeat (first | (with_reducible first | exact HI624.out | apply IsS83.alloc | apply IsS83.drewN | apply IsS83.drew | apply IsS83.set_1 | apply IsS83.set_2 | refine IsS83.far ?_ NB624_622.out _ | refine IsS83.far ?_ NB624_623.out _ | refine IsS83.far ?_ NB624_630.out _) | exact HI624.out))
     (case side2 => repeat (first | (with_reducible first | exact HB.out | apply below_alloc | apply pw_below_drewN | apply below_drew1 | refine below_set ?_ (IsS83.ge HI624.out) | refine below_set ?_ GE622.out | refine below_set ?_ GE623.out | refine below_set ?_ GE630.out) | exact HB.out))
     rintro e w28 ⟨rfl, hi, hb, hk⟩
     refine ⟨_, rfl, ?_⟩
     have n0_ := am (KeepBut.blk hk (g' := gb622) (o := .cells #[.string ⟨#[]⟩, .string ⟨#[]⟩, .int .i64 0] 42 (0, 0)) zq117 NB622_624.out zq176)
     have n1_ := am (KeepBut.blk hk (g' := gb623) (o := .cells #[.string ⟨#[]⟩, .string ⟨#[]⟩] 38 (0, 0)) zq118 NB623_624.out zq176)
     have n2_ := am (KeepBut.blk hk (g' := gb630) (o := .cells #[.string x631000_1, .string x631001_1, .int .i64 x631002_1] 42 (0, 0)) zq132 NB630_624.out zq176)
     have n3_ := am (hb)
     have n4_ := am (hi)
     clear BK622
     clear BK623
     clear BK630
     clear HB
     clear HI624
     have BK622 := n0_
     have BK623 := n1_
     have BK630 := n2_
     have HB := n3_
     have HI624 := n4_
     clear n0_ n1_ n2_ n3_ n4_
     (try clear hb)
     (try clear hb2)
     (try clear hk)
     (try clear hi)
     refine hK.out _ _ ⟨(blk_cell BK630.out 0).trans rfl, (blk_cell BK630.out 1).trans rfl, (blk_cell BK630.out 2).trans rfl⟩ (fun hHeld => ?_)
     clear hK K
     refine norm_ (a' := ?_) ?_ ?_
     rotate_left
     ·show Act.put _ (some 30) _ = _
      simp only [Act.put, List.setIfInBounds_toArray, List.set_cons_zero, List.set_cons_succ, i64_w, i32_w]
      rfl
     refine one_ (i := 3) (N := none) #[true, true, true, true, false] rfl rfl zq21 zq173 (fun K hK => ?_)
     have hs29 : w28.cell? ⟨gb622, 0, none⟩ = some (.string ⟨#[]⟩) := (blk_cell BK622.out 0).trans rfl
     have hfs29 := blk_frozen BK622.out 0
     have hns29_1 := NB623_622.out
     have hns29_2 := NB630_622.out
     have hms29_1 := NB622_623.out
     have hms29_2 := NB622_630.out
     have hs30 : w28.cell? ⟨gb622, 1, none⟩ = some (.string ⟨#[]⟩) := (blk_cell BK622.out 1).trans rfl
     have hfs30 := blk_frozen BK622.out 1
     have hns30_1 := NB623_622.out
     have hns30_2 := NB630_622.out
     have hms30_1 := NB622_623.out
     have hms30_2 := NB622_630.out
     have hs31 : w28.cell? ⟨gb622, 2, none⟩ = some (.int .i64 0) := (blk_cell BK622.out 2).trans rfl
     have hfs31 := blk_frozen BK622.out 2
     have hns31_1 := NB623_622.out
     have hns31_2 := NB630_622.out
     have hms31_1 := NB622_623.out
     have hms31_2 := NB622_630.out
     refine skip_ (w1 := ?_) (by rfl) rfl ?_ ?_
     rotate_left
     ·go_simp
      rfl
     refine hK.out _ _ ⟨((cell_far (p := ⟨gb622, _, none⟩) NB630_622.out _).trans (((cell_far (p := ⟨gb622, _, none⟩) NB630_622.out _).trans (((cell_far (p := ⟨gb622, _, none⟩) NB630_622.out _).trans (hHeld.1)))))), ((cell_far (p := ⟨gb622, _, none⟩) NB630_622.out _).trans (((cell_far (p := ⟨gb622, _, none⟩) NB630_622.out _).trans (((cell_far (p := ⟨gb622, _, none⟩) NB630_622.out _).trans (hHeld.2.1)))))), ((cell_far (p := ⟨gb622, _, none⟩) NB630_622.out _).trans (((cell_far (p := ⟨gb622, _, none⟩) NB630_622.out _).trans (((cell_far (p := ⟨gb622, _, none⟩) NB630_622.out _).trans (hHeld.2.2))))))⟩ (fun hHeld => ?_)
     clear hK K
     refine one_ (i := 4) (N := none) #[true, true, true, true, true] rfl rfl zq21 zq173 (fun K hK => ?_)
     have hs32 : w28.cell? ⟨gb623, 0, none⟩ = some (.string ⟨#[]⟩) := (blk_cell BK623.out 0).trans rfl
     have hfs32 := blk_frozen BK623.out 0
     have hns32_0 := NB622_623.out
     have hns32_2 := NB630_623.out
     have hms32_0 := NB623_622.out
     have hms32_2 := NB623_630.out
     have hs33 : w28.cell? ⟨gb623, 1, none⟩ = some (.string ⟨#[]⟩) := (blk_cell BK623.out 1).trans rfl
     have hfs33 := blk_frozen BK623.out 1
     have hns33_0 := NB622_623.out
     have hns33_2 := NB630_623.out
     have hms33_0 := NB623_622.out
     have hms33_2 := NB623_630.out
     refine skip_ (w1 := ?_) (by rfl) rfl ?_ ?_
     rotate_left
     ·go_simp
      rfl
     refine hK.out _ _ ⟨((cell_far (p := ⟨gb623, _, none⟩) NB630_623.out _).trans (((cell_far (p := ⟨gb623, _, none⟩) NB630_623.out _).trans (hHeld.1)))), ((cell_far (p := ⟨gb623, _, none⟩) NB630_623.out _).trans (((cell_far (p := ⟨gb623, _, none⟩) NB630_623.out _).trans (hHeld.2.1)))), ((cell_far (p := ⟨gb623, _, none⟩) NB630_623.out _).trans (((cell_far (p := ⟨gb623, _, none⟩) NB630_623.out _).trans (hHeld.2.2))))⟩ (fun hHeld => ?_)
     clear hK K
     refine done_ zq21 ?_
     try go_wp2
     refine bodyPost_ret (results_cc rfl _ _ gb622 gb623 42 38 #[.string x631000_1, .string x631001_1, .int .i64 x631002_1] #[.string t641, .string t642] (0, 0) (0, 0) _ _ rfl (by (with_reducible repeat (first | refine blk_drewN ?_ _ | refine blk_drew ?_ | refine blk_alloc ?_ _)); refine blk_far ?_ NB622_623.out _; (with_reducible repeat (first | refine blk_drewN ?_ _ | refine blk_drew ?_ | refine blk_alloc ?_ _)); refine blk_far ?_ NB622_623.out _; (with_reducible repeat (first | refine blk_drewN ?_ _ | refine blk_drew ?_ | refine blk_alloc ?_ _)); refine blk_put (cs := #[.string x631000_1, .string x631001_1, .int .i64 0]) ?_ 2 _ rfl; (with_reducible repeat (first | refine blk_drewN ?_ _ | refine blk_drew ?_ | refine blk_alloc ?_ _)); refine blk_put (cs := #[.string x631000_1, .string ⟨#[]⟩, .int .i64 0]) ?_ 1 _ rfl; (with_reducible repeat (first | refine blk_drewN ?_ _ | refine blk_drew ?_ | refine blk_alloc ?_ _)); refine blk_put (cs := #[.string ⟨#[]⟩, .string ⟨#[]⟩, .int .i64 0]) ?_ 0 _ rfl; (with_reducible repeat (first | refine blk_drewN ?_ _ | refine blk_drew ?_ | refine blk_alloc ?_ _)); exact BK622.out) Tryd.underlying42 rfl zq21 rfl (by (with_reducible repeat (first | refine blk_drewN ?_ _ | refine blk_drew ?_ | refine blk_alloc ?_ _)); refine blk_put (cs := #[.string t641, .string ⟨#[]⟩]) ?_ 1 _ rfl; (with_reducible repeat (first | refine blk_drewN ?_ _ | refine blk_drew ?_ | refine blk_alloc ?_ _)); refine blk_put (cs := #[.string ⟨#[]⟩, .string ⟨#[]⟩]) ?_ 0 _ rfl; (with_reducible repeat (first | refine blk_drewN ?_ _ | refine blk_drew ?_ | refine blk_alloc ?_ _)); refine blk_far ?_ NB623_622.out _; (with_reducible repeat (first | refine blk_drewN ?_ _ | refine blk_drew ?_ | refine blk_alloc ?_ _)); refine blk_far ?_ NB623_622.out _; (with_reducible repeat (first | refine blk_drewN ?_ _ | refine blk_drew ?_ | refine blk_alloc ?_ _)); refine blk_far ?_ NB623_622.out _; (with_reducible repeat (first | refine blk_drewN ?_ _ | refine blk_drew ?_ | refine blk_alloc ?_ _)); exact BK623.out) Tryd.underlying38 rfl zq21) rfl ?_
     exact ⟨zq7, zq123⟩
 ·replace c4 := Bool.eq_false_iff.mpr c4
  subst c4
  have H1 : ((spec_l1Cur_logRecord.f l0 t632 t633).bind fun bt645 => (some (t625, t626, t627, bt645.1, bt645.2.1))) = some (r1, r2, r3, r4, r5) := by rw [if_neg (show ¬ (false = true) by decide)] at H; exact H
  clear H
  have H := H1
  clear H1
  replace H := bem H
  obtain ⟨⟨t645, t646, t647, t648⟩, A340, H⟩ := H
  replace H : (some (t625, t626, t627, t645, t646)) = some (r1, r2, r3, r4, r5) := H
  have A34 := am A340
  clear A340
  simp only [Option.some.injEq, Prod.mk.injEq] at H
  obtain ⟨rfl, rfl, rfl, rfl, rfl⟩ := H
  go_enter Tryd.func49, Tryd.ntmps49
  try go_wp2_with (first | ((with_reducible refine gate_dst (N := 2) rfl ?_); refine box_event ?hg (N := 2) ?hd (cs := #[.string ⟨#[]⟩, .string ⟨#[]⟩, .int .i64 0]) (t := 42) ?hr ?_; (case hd => rfl); (case hg => rfl); (case hr => first | (go_simp; done) | (go_simp; rfl)); intro gb622 hg w35 hbox hb; have n0_ := am (below_step zq0 hb); have n1_ := am (hbox); have n2_ := am ((zq8 : w.heap.size ≤ gb622)); have n3_ := am ((zq8 : w.heap.size ≤ gb622)); clear HB; have HB := n0_; have BK622 := n1_; have GW622 := n2_; have GE622 := n3_; clear n0_ n1_ n2_ n3_; clear hb hbox hg) | ((with_reducible refine gate_dst (N := 3) rfl ?_); refine box_event ?hg (N := 3) ?hd (cs := #[.string ⟨#[]⟩, .string ⟨#[]⟩]) (t := 38) ?hr ?_; (case hd => rfl); (case hg => rfl); (case hr => first | (go_simp; done) | (go_simp; rfl)); intro gb623 hg w36 hbox hb; have n0_ := am (blk_below (g := gb622) (o := .cells #[.string ⟨#[]⟩, .string ⟨#[]⟩, .int .i64 0] 42 (0, 0)) zq117 hb); have n1_ := am (below_step zq124 hb); have n2_ := am (hbox); have n3_ := am ((by rw [hg]; exact (below_size zq124) : w.heap.size ≤ gb623)); have n4_ := am ((by rw [hg]; exact (below_size zq124) : w.heap.size ≤ gb623)); have n5_ := am ((zq125 : gb622 ≠ gb623)); have n6_ := am ((zq126 : gb623 ≠ gb622)); clear BK622; clear HB; have BK622 := n0_; have HB := n1_; have BK623 := n2_; have GW623 := n3_; have GE623 := n4_; have NB622_623 := n5_; have NB623_622 := n6_; clear n0_ n1_ n2_ n3_ n4_ n5_ n6_; clear hb hbox hg) | ((with_reducible refine gate_dst (N := 9) rfl ?_); refine box_event ?hg (N := 9) ?hd (cs := #[.slice A0 l0.length c0, .int .i64 0, .int .u64 0]) (t := 83) ?hr ?_; (case hd => rfl); (case hg => rfl); (case hr => first | (go_simp; done) | (go_simp; rfl)); intro gb624 hg w37 hbox hb; have n0_ := am (blk_below (g := gb622) (o := .cells #[.string ⟨#[]⟩, .string ⟨#[]⟩, .int .i64 0] 42 (0, 0)) zq117 hb); have n1_ := am (blk_below (g := gb623) (o := .cells #[.string ⟨#[]⟩, .string ⟨#[]⟩] 38 (0, 0)) zq118 hb); have n2_ := am (below_step zq128 hb); have n3_ := am ((show IsS83 w w37 gb624 l0 0 0 from ⟨_, _, hbox, (by rw [hg]; exact (below_size zq128) : w.heap.size ≤ gb624), HR0.out⟩)); have n4_ := am ((zq126 : gb624 ≠ gb622)); have n5_ := am ((zq125 : gb622 ≠ gb624)); have n6_ := am ((zq130 : gb624 ≠ gb623)); have n7_ := am ((zq131 : gb623 ≠ gb624)); clear BK622; clear BK623; clear HB; have BK622 := n0_; have BK623 := n1_; have HB := n2_; have HI624 := n3_; have NB624_622 := n4_; have NB622_624 := n5_; have NB624_623 := n6_; have NB623_624 := n7_; clear n0_ n1_ n2_ n3_ n4_ n5_ n6_ n7_; clear hb hbox hg) | ((with_reducible refine gate_callee (f := 87) rfl ?_); refine goesL_ (some 11) rfl rfl Tryd.func87 zq21 rfl #[.pointer (some ⟨gb624, 0, none⟩)] rfl zq5 ?_; (with_reducible refine (spec_l1Cur_anyLog.calls k gb624 l0 0 0 t625 t626 t627 t628 t629 w _ ?side1 ?side2 A2.out).mono ?_); (case side1 => repeat (first | (with_reducible first | exact HI624.out | apply IsS83.alloc | apply IsS83.drewN | apply IsS83.drew | apply IsS83.set_1 | apply IsS83.set_2 | refine IsS83.far ?_ NB624_622.out _ | refine IsS83.far ?_ NB624_623.out _) | exact HI624.out)); (case side2 => repeat (first | (with_reducible first | exact HB.out | apply below_alloc | apply pw_below_drewN | apply below_drew1 | refine below_set ?_ (IsS83.ge HI624.out) | refine below_set ?_ GE622.out | refine below_set ?_ GE623.out) | exact HB.out)); rintro e w38 ⟨rfl, hi, hb, hk⟩; refine ⟨_, rfl, ?_⟩; have n0_ := am (KeepBut.blk hk (g' := gb622) (o := .cells #[.string ⟨#[]⟩, .string ⟨#[]⟩, .int .i64 0] 42 (0, 0)) zq117 NB622_624.out zq176); have n1_ := am (KeepBut.blk hk (g' := gb623) (o := .cells #[.string ⟨#[]⟩, .string ⟨#[]⟩] 38 (0, 0)) zq118 NB623_624.out zq176); have n2_ := am (hb); have n3_ := am (hi); clear BK622; clear BK623; clear HB; clear HI624; have BK622 := n0_; have BK623 := n1_; have HB := n2_; have HI624 := n3_; clear n0_ n1_ n2_ n3_; (try clear hb); (try clear hb2); (try clear hk); (try clear hi)) | ((with_reducible refine gate_dst (N := 5) rfl ?_); refine box_event ?hg (N := 5) ?hd (cs := #[.string ⟨#[]⟩, .string ⟨#[]⟩, .int .i64 0]) (t := 42) ?hr ?_; (case hd => rfl); (case hg => rfl); (case hr => first | (go_simp; done) | (go_simp; rfl)); intro gb630 hg w39 hbox hb; have n0_ := am (blk_below (g := gb622) (o := .cells #[.string ⟨#[]⟩, .string ⟨#[]⟩, .int .i64 0] 42 (0, 0)) zq117 hb); have n1_ := am (blk_below (g := gb623) (o := .cells #[.string ⟨#[]⟩, .string ⟨#[]⟩] 38 (0, 0)) zq118 hb); have n2_ := am (IsS83.below zq121 hb); have n3_ := am (below_step zq122 hb); have n4_ := am (hbox); have n5_ := am ((by rw [hg]; exact (below_size zq122) : w.heap.size ≤ gb630)); have n6_ := am ((by rw [hg]; exact (below_size zq122) : w.heap.size ≤ gb630)); have n7_ := am ((zq125 : gb622 ≠ gb630)); have n8_ := am ((zq126 : gb630 ≠ gb622)); have n9_ := am ((zq131 : gb623 ≠ gb630)); have n10_ := am ((zq130 : gb630 ≠ gb623)); have n11_ := am ((by rw [hg]; exact Nat.ne_of_lt (IsS83.lt (show IsS83 w _ gb624 l0 t628 t629 from zq121)) : gb624 ≠ gb630)); have n12_ := am ((by rw [hg]; exact Nat.ne_of_gt (IsS83.lt (show IsS83 w _ gb624 l0 t628 t629 from zq121)) : gb630 ≠ gb624)); clear BK622; clear BK623; clear HI624; clear HB; have BK622 := n0_; have BK623 := n1_; have HI624 := n2_; have HB := n3_; have BK630 := n4_; have GW630 := n5_; have GE630 := n6_; have NB622_630 := n7_; have NB630_622 := n8_; have NB623_630 := n9_; have NB630_623 := n10_; have NB624_630 := n11_; have NB630_624 := n12_; clear n0_ n1_ n2_ n3_ n4_ n5_ n6_ n7_ n8_ n9_ n10_ n11_ n12_; clear hb hbox hg; have hnb40 := NB630_622.out; have hnc40 := NB622_630.out; have hnb41 := NB630_623.out; have hnc41 := NB623_630.out; have hnb42 := NB630_624.out; have hnc42 := NB624_630.out; have hcz43_0 : w39.cell? ⟨gb630, 0, none⟩ = some (.string ⟨#[]⟩) := (blk_cell BK630.out 0).trans rfl; have hcz43_1 : w39.cell? ⟨gb630, 1, none⟩ = some (.string ⟨#[]⟩) := (blk_cell BK630.out 1).trans rfl; have hcz43_2 : w39.cell? ⟨gb630, 2, none⟩ = some (.int .i64 0) := (blk_cell BK630.out 2).trans rfl; have hfz43_0 := blk_frozen BK630.out 0; have hfz43_1 := blk_frozen BK630.out 1; have hfz43_2 := blk_frozen BK630.out 2) | ((with_reducible refine gate_callee (f := 70) rfl ?_); refine goesL_ (some 13) rfl rfl Tryd.func70 zq21 rfl #[.pointer (some ⟨gb624, 0, none⟩), .int .i64 40] rfl zq5 ?_; (with_reducible refine (spec_l1Cur_one.calls gb624 l0 t628 t629 40 false t632 t633 w _ ?side1 ?side2 A3.out).mono ?_); (case side1 => repeat (first | (with_reducible first | exact HI624.out | apply IsS83.alloc | apply IsS83.drewN | apply IsS83.drew | apply IsS83.set_1 | apply IsS83.set_2 | refine IsS83.far ?_ NB624_622.out _ | refine IsS83.far ?_ NB624_623.out _ | refine IsS83.far ?_ NB624_630.out _) | exact HI624.out)); (case side2 => repeat (first | (with_reducible first | exact HB.out | apply below_alloc | apply pw_below_drewN | apply below_drew1 | refine below_set ?_ (IsS83.ge HI624.out) | refine below_set ?_ GE622.out | refine below_set ?_ GE623.out | refine below_set ?_ GE630.out) | exact HB.out)); rintro e w44 ⟨rfl, hi, hb, hk⟩; refine ⟨_, rfl, ?_⟩; have n0_ := am (KeepBut.blk hk (g' := gb622) (o := .cells #[.string ⟨#[]⟩, .string ⟨#[]⟩, .int .i64 0] 42 (0, 0)) zq119 NB622_624.out zq176); have n1_ := am (KeepBut.blk hk (g' := gb623) (o := .cells #[.string ⟨#[]⟩, .string ⟨#[]⟩] 38 (0, 0)) zq120 NB623_624.out zq176); have n2_ := am (KeepBut.blk hk (g' := gb630) (o := .cells #[.string t625, .string t626, .int .i64 t627] 42 (0, 0)) zq127 NB630_624.out zq176); have n3_ := am (hb); have n4_ := am (hi); clear BK622; clear BK623; clear BK630; clear HB; clear HI624; have BK622 := n0_; have BK623 := n1_; have BK630 := n2_; have HB := n3_; have HI624 := n4_; clear n0_ n1_ n2_ n3_ n4_; (try clear hb); (try clear hb2); (try clear hk); (try clear hi)))
  have n0_ := am (blk_drew BK622.out)
  have n1_ := am (blk_drew BK623.out)
  have n2_ := am (blk_drew BK630.out)
  have n3_ := am (IsS83.drew HI624.out)
  have n4_ := am (below_drew1 HB.out)
  clear BK622
  clear BK623
  clear BK630
  clear HI624
  clear HB
  have BK622 := n0_
  have BK623 := n1_
  have BK630 := n2_
  have HI624 := n3_
  have HB := n4_
  clear n0_ n1_ n2_ n3_ n4_
  refine start_ (n := 5) (S := fun w' => w'.cell? ⟨gb630, 0, none⟩ = some (.string t625) ∧ w'.cell? ⟨gb630, 1, none⟩ = some (.string t626) ∧ w'.cell? ⟨gb630, 2, none⟩ = some (.int .i64 t627)) (ds := []) #[false, false, false, false, false] zq21 rfl rfl ⟨(blk_cell BK630.out 0).trans rfl, (blk_cell BK630.out 1).trans rfl, (blk_cell BK630.out 2).trans rfl⟩ (fun hHeld => ?_)
  generalize w44.drew = w45 at BK622 BK623 BK630 HI624 HB hHeld ⊢
  refine pure_ (i := 1) (N := some 29) (v := ?_) (a' := ?_) #[false, true, false, false, false] rfl rfl zq21 (fun _ _ _ h => h) (Or.inl ⟨by rfl, ?_⟩) ?_ ?_
  rotate_left
  ·intro w'
   go_simp
   with_reducible rfl
  rotate_left
  ·simp only [Act.put, List.setIfInBounds_toArray, List.set_cons_zero, List.set_cons_succ, i64_w, i32_w]
   rfl
  refine take_ (i := 0) (N := some 28) (v := ?_) (a' := ?_) #[true, true, false, false, false] rfl rfl zq21 (fun _ _ _ h => h) (Or.inl ⟨by rfl, ?_⟩) hHeld ?_ ?_
  rotate_left
  ·rintro w' ⟨s0, s1, s2⟩
   go_simp
   with_reducible rfl
  rotate_left
  ·simp only [Act.put, List.setIfInBounds_toArray, List.set_cons_zero, List.set_cons_succ, i64_w, i32_w]
   rfl
  refine one_ (i := 2) (N := some 30) #[true, true, true, false, false] rfl rfl zq21 zq173 (fun K hK => ?_)
  refine goes_ Tryd.func85 zq21 rfl #[.pointer (some ⟨gb624, 0, none⟩)] (by rfl) rfl rfl zq5 ?_
  with_reducible refine (spec_l1Cur_logRecord.calls gb624 l0 t632 t633 t645 t646 t647 t648 w _ ?side1 ?side2 A34.out).mono ?_
  (case side1 => repeat (first | (with_reducible first | exact HI624.out | apply IsS83.alloc | apply IsS83.drewN | apply IsS83.drew | apply IsS83.set_1 | apply IsS83.set_2 | refine IsS83.far ?_ NB624_622.out _ | refine IsS83.far ?_ NB624_623.out _ | refine IsS83.far ?_ NB624_630.out _) | exact HI624.out))
  (case side2 => repeat (first | (with_reducible first | exact HB.out | apply below_alloc | apply pw_below_drewN | apply below_drew1 | refine below_set ?_ (IsS83.ge HI624.out) | refine below_set ?_ GE622.out | refine below_set ?_ GE623.out | refine below_set ?_ GE630.out) | exact HB.out))
  rintro e w46 ⟨rfl, hi, hb, hk⟩
  refine ⟨_, rfl, ?_⟩
  have n0_ := am (KeepBut.blk hk (g' := gb622) (o := .cells #[.string ⟨#[]⟩, .string ⟨#[]⟩, .int .i64 0] 42 (0, 0)) zq117 NB622_624.out zq176)
  have n1_ := am (KeepBut.blk hk (g' := gb623) (o := .cells #[.string ⟨#[]⟩, .string ⟨#[]⟩] 38 (0, 0)) zq118 NB623_624.out zq176)
  have n2_ := am (KeepBut.blk hk (g' := gb630) (o := .cells #[.string t625, .string t626, .int .i64 t627] 42 (0, 0)) zq132 NB630_624.out zq176)
  have n3_ := am (hb)
  have n4_ := am (hi)
  clear BK622
  clear BK623
  clear BK630
  clear HB
  clear HI624
  have BK622 := n0_
  have BK623 := n1_
  have BK630 := n2_
  have HB := n3_
  have HI624 := n4_
  clear n0_ n1_ n2_ n3_ n4_
  (try clear hb)
  (try clear hb2)
  (try clear hk)
  (try clear hi)
  refine hK.out _ _ ⟨(blk_cell BK630.out 0).trans rfl, (blk_cell BK630.out 1).trans rfl, (blk_cell BK630.out 2).trans rfl⟩ (fun hHeld => ?_)
  clear hK K
  refine norm_ (a' := ?_) ?_ ?_
  rotate_left
  ·show Act.put _ (some 30) _ = _
   simp only [Act.put, List.setIfInBounds_toArray, List.set_cons_zero, List.set_cons_succ, i64_w, i32_w]
   rfl
  refine one_ (i := 3) (N := none) #[true, true, true, true, false] rfl rfl zq21 zq173 (fun K hK => ?_)
  have hs47 : w46.cell? ⟨gb622, 0, none⟩ = some (.string ⟨#[]⟩) := (blk_cell BK622.out 0).trans rfl
  have hfs47 := blk_frozen BK622.out 0
  have hns47_1 := NB623_622.out
  have hns47_2 := NB630_622.out
  have hms47_1 := NB622_623.out
  have hms47_2 := NB622_630.out
  have hs48 : w46.cell? ⟨gb622, 1, none⟩ = some (.string ⟨#[]⟩) := (blk_cell BK622.out 1).trans rfl
  have hfs48 := blk_frozen BK622.out 1
  have hns48_1 := NB623_622.out
  have hns48_2 := NB630_622.out
  have hms48_1 := NB622_623.out
  have hms48_2 := NB622_630.out
  have hs49 : w46.cell? ⟨gb622, 2, none⟩ = some (.int .i64 0) := (blk_cell BK622.out 2).trans rfl
  have hfs49 := blk_frozen BK622.out 2
  have hns49_1 := NB623_622.out
  have hns49_2 := NB630_622.out
  have hms49_1 := NB622_623.out
  have hms49_2 := NB622_630.out
  refine skip_ (w1 := ?_) (by rfl) rfl ?_ ?_
  rotate_left
  ·go_simp
   rfl
  refine hK.out _ _ ⟨((cell_far (p := ⟨gb622, _, none⟩) NB630_622.out _).trans (((cell_far (p := ⟨gb622, _, none⟩) NB630_622.out _).trans (((cell_far (p := ⟨gb622, _, none⟩) NB630_622.out _).trans (hHeld.1)))))), ((cell_far (p := ⟨gb622, _, none⟩) NB630_622.out _).trans (((cell_far (p := ⟨gb622, _, none⟩) NB630_622.out _).trans (((cell_far (p := ⟨gb622, _, none⟩) NB630_622.out _).trans (hHeld.2.1)))))), ((cell_far (p := ⟨gb622, _, none⟩) NB630_622.out _).trans (((cell_far (p := ⟨gb622, _, none⟩) NB630_622.out _).trans (((cell_far (p := ⟨gb622, _, none⟩) NB630_622.out _).trans (hHeld.2.2))))))⟩ (fun hHeld => ?_)
  clear hK K
  refine one_ (i := 4) (N := none) #[true, true, true, true, true] rfl rfl zq21 zq173 (fun K hK => ?_)
  have hs50 : w46.cell? ⟨gb623, 0, none⟩ = some (.string ⟨#[]⟩) := (blk_cell BK623.out 0).trans rfl
  have hfs50 := blk_frozen BK623.out 0
  have hns50_0 := NB622_623.out
  have hns50_2 := NB630_623.out
  have hms50_0 := NB623_622.out
  have hms50_2 := NB623_630.out
  have hs51 : w46.cell? ⟨gb623, 1, none⟩ = some (.string ⟨#[]⟩) := (blk_cell BK623.out 1).trans rfl
  have hfs51 := blk_frozen BK623.out 1
  have hns51_0 := NB622_623.out
  have hns51_2 := NB630_623.out
  have hms51_0 := NB623_622.out
  have hms51_2 := NB623_630.out
  refine skip_ (w1 := ?_) (by rfl) rfl ?_ ?_
  rotate_left
  ·go_simp
   rfl
  refine hK.out _ _ ⟨((cell_far (p := ⟨gb623, _, none⟩) NB630_623.out _).trans (((cell_far (p := ⟨gb623, _, none⟩) NB630_623.out _).trans (hHeld.1)))), ((cell_far (p := ⟨gb623, _, none⟩) NB630_623.out _).trans (((cell_far (p := ⟨gb623, _, none⟩) NB630_623.out _).trans (hHeld.2.1)))), ((cell_far (p := ⟨gb623, _, none⟩) NB630_623.out _).trans (((cell_far (p := ⟨gb623, _, none⟩) NB630_623.out _).trans (hHeld.2.2))))⟩ (fun hHeld => ?_)
  clear hK K
  refine done_ zq21 ?_
  try go_wp2
  refine bodyPost_ret (results_cc rfl _ _ gb622 gb623 42 38 #[.string t625, .string t626, .int .i64 t627] #[.string t645, .string t646] (0, 0) (0, 0) _ _ rfl (by (with_reducible repeat (first | refine blk_drewN ?_ _ | refine blk_drew ?_ | refine blk_alloc ?_ _)); refine blk_far ?_ NB622_623.out _; (with_reducible repeat (first | refine blk_drewN ?_ _ | refine blk_drew ?_ | refine blk_alloc ?_ _)); refine blk_far ?_ NB622_623.out _; (with_reducible repeat (first | refine blk_drewN ?_ _ | refine blk_drew ?_ | refine blk_alloc ?_ _)); refine blk_put (cs := #[.string t625, .string t626, .int .i64 0]) ?_ 2 _ rfl; (with_reducible repeat (first | refine blk_drewN ?_ _ | refine blk_drew ?_ | refine blk_alloc ?_ _)); refine blk_put (cs := #[.string t625, .string ⟨#[]⟩, .int .i64 0]) ?_ 1 _ rfl; (with_reducible repeat (first | refine blk_drewN ?_ _ | refine blk_drew ?_ | refine blk_alloc ?_ _)); refine blk_put (cs := #[.string ⟨#[]⟩, .string ⟨#[]⟩, .int .i64 0]) ?_ 0 _ rfl; (with_reducible repeat (first | refine blk_drewN ?_ _ | refine blk_drew ?_ | refine blk_alloc ?_ _)); exact BK622.out) Tryd.underlying42 rfl zq21 rfl (by (with_reducible repeat (first | refine blk_drewN ?_ _ | refine blk_drew ?_ | refine blk_alloc ?_ _)); refine blk_put (cs := #[.string t645, .string ⟨#[]⟩]) ?_ 1 _ rfl; (with_reducible repeat (first | refine blk_drewN ?_ _ | refine blk_drew ?_ | refine blk_alloc ?_ _)); refine blk_put (cs := #[.string ⟨#[]⟩, .string ⟨#[]⟩]) ?_ 0 _ rfl; (with_reducible repeat (first | refine blk_drewN ?_ _ | refine blk_drew ?_ | refine blk_alloc ?_ _)); refine blk_far ?_ NB623_622.out _; (with_reducible repeat (first | refine blk_drewN ?_ _ | refine blk_drew ?_ | refine blk_alloc ?_ _)); refine blk_far ?_ NB623_622.out _; (with_reducible repeat (first | refine blk_drewN ?_ _ | refine blk_drew ?_ | refine blk_alloc ?_ _)); refine blk_far ?_ NB623_622.out _; (with_reducible repeat (first | refine blk_drewN ?_ _ | refine blk_drew ?_ | refine blk_alloc ?_ _)); exact BK623.out) Tryd.underlying38 rfl zq21) rfl ?_
  exact ⟨zq7, zq123⟩
end Go.Proofs.YtgclcjohnnpejaaDoor.Pr
end

section
namespace Go.Proofs.YtgclcjohnnpejaaDoor.Pr
open Go.RowKit Go.Proofs.YtgclcjohnnpejaaDoorW.PrintWords Go.Proofs.YtgclcjohnnpejaaDoorW.PrintLast Go.Proofs.YtgclcjohnnpejaaDoorW.PrintMore
attribute [local go_sem] max2_int min2_int max_two min_two max_three min_three max_four min_four
set_option linter.unusedVariables false
set_option linter.unusedSimpArgs false
attribute [local go_sem high] eqA38
def spec_IsValidRecord.f (k : Nat) (a0_0 : ByteArray) (a0_1 : ByteArray) : Option (Bool) := (spec_l12Record.f k a0_0 a0_1).bind fun t650 => (some t650)
set_option maxHeartbeats 8000000 in
set_option maxRecDepth 100000 in
theorem spec_IsValidRecord.calls (k : Nat) (a0_0 : ByteArray) (a0_1 : ByteArray) (r : Bool) (w : World) (h : spec_IsValidRecord.f k a0_0 a0_1 = some r) :
  Calls Tryd.prog 51 #[.agg #[.string a0_0, .string a0_1]] w fun e w' => e = .returned (.bool r) ∧ Below w.heap.size w w' := by
 have hu38 := Tryd.underlying38
 have HB := am (Below.refl w.heap.size w)
 have H : ((spec_l12Record.f k a0_0 a0_1).bind fun t650 => (some t650)) = some r := h
 clear h
 replace H := bem H
 obtain ⟨t650, A20, H⟩ := H
 replace H : (some t650) = some r := H
 have A2 := am A20
 clear A20
 obtain rfl := Option.some.inj H
 go_enter Tryd.func51, Tryd.ntmps51
 go_wp2_with (first | ((with_reducible refine gate_dst (N := 1) rfl ?_); refine box_event ?hg (N := 1) ?hd (cs := #[.string a0_0, .string a0_1]) (t := 38) ?hr ?_; (case hd => rfl); (case hg => rfl); (case hr => first | (go_simp; done) | (go_simp; rfl)); intro gb649 hg w3 hbox hb; have n0_ := am (below_step zq0 hb); have n1_ := am (hbox); have n2_ := am ((zq8 : w.heap.size ≤ gb649)); have n3_ := am ((zq8 : w.heap.size ≤ gb649)); clear HB; have HB := n0_; have BK649 := n1_; have GW649 := n2_; have GE649 := n3_; clear n0_ n1_ n2_ n3_; clear hb hbox hg; have hcz4_0 : w3.cell? ⟨gb649, 0, none⟩ = some (.string a0_0) := (blk_cell BK649.out 0).trans rfl; have hcz4_1 : w3.cell? ⟨gb649, 1, none⟩ = some (.string a0_1) := (blk_cell BK649.out 1).trans rfl; have hfz4_0 := blk_frozen BK649.out 0; have hfz4_1 := blk_frozen BK649.out 1) | ((with_reducible refine gate_callee (f := 75) rfl ?_); refine goesL_ (some 4) rfl rfl Tryd.func75 zq21 rfl #[.agg #[.string a0_0, .string a0_1]] rfl zq5 ?_; (with_reducible refine (spec_l12Record.calls k a0_0 a0_1 t650 _ A2.out).mono ?_); rintro e w5 ⟨rfl, hb⟩; refine ⟨_, rfl, ?_⟩; have n0_ := am (blk_below (g := gb649) (o := .cells #[.string a0_0, .string a0_1] 38 (0, 0)) (by (with_reducible repeat (first | refine blk_drewN ?_ _ | refine blk_drew ?_ | refine blk_alloc ?_ _)); exact BK649.out) hb); have n1_ := am (below_step zq184 hb); clear BK649; clear HB; have BK649 := n0_; have HB := n1_; clear n0_ n1_; (try clear hb); (try clear hb2); (try clear hk); (try clear hi)))
 go_ret
 exact ⟨zq7, zq184⟩
def laws_vRecords.l0 : Nat → List (S38) → List (S38) → Int → Option (Bool)
 | 0, _, _, _ => none
 | k + 1, x0, x1, x5 => if x5 < (x0.length : Int) then (if 0 ≤ x5 then (if x5 < (x1.length : Int) then (if (!((((rd_T38 x0 x5).f0).toList) == (((rd_T38 x1 x5).f0).toList)) || (!((((rd_T38 x0 x5).f1).toList) == (((rd_T38 x1 x5).f1).toList)))) = true then (some false) else (laws_vRecords.l0 k x0 x1 (wrap64 (x5 + 1)))) else (none)) else (none)) else (some true)
def laws_vRecords.f (k : Nat) (l0 : List (S38)) (l1 : List (S38)) : Option (Bool) := if (l0.length : Int) = (l1.length : Int) then (laws_vRecords.l0 k l0 l1 0) else (some false)
set_option maxHeartbeats 8000000 in
set_option maxRecDepth 100000 in
theorem laws_vRecords.calls (k : Nat) (A0 : Option Addr) (c0 : Nat) (l0 : List (S38)) (A1 : Option Addr) (c1 : Nat) (l1 : List (S38)) (r : Bool) (w : World) (hr0 : Kd.C k38 w A0 l0.length l0) (hc0 : l0.length ≤ c0) (hr1 : Kd.C k38 w A1 l1.length l1) (hc1 : l1.length ≤ c1) (h : laws_vRecords.f k l0 l1 = some r) :
  Calls Tryd.prog 52 #[.slice A0 l0.length c0, .slice A1 l1.length c1] w fun e w' => e = .returned (.bool r) ∧ Drawn0 w w' := by
 have hu38 := Tryd.underlying38
 have HR0 := am hr0
 have HC0 := am hc0
 clear hr0 hc0
 have HR1 := am hr1
 have HC1 := am hc1
 clear hr1 hc1
 have H : (if (l0.length : Int) = (l1.length : Int) then (laws_vRecords.l0 k l0 l1 0) else (some false)) = some r := h
 clear h
 by_cases c3 : (l0.length : Int) = (l1.length : Int)
 ·rw [if_pos c3] at H
  have c3b0 : ((l0.length : Int) == (l1.length : Int)) = true := beq_iff_eq.mpr c3
  have c3b1 : ((l0.length : Int) != (l1.length : Int)) = false := bne_eq_false_iff_eq.mpr c3
  have c3b2 : (l0.length == l1.length) = true := by first | simpa using c3 | (simp at c3 ⊢; omega)
  clear c3
  have H' := am H
  clear H
  go_enter Tryd.func52, Tryd.ntmps52
  go_wp2
  repeat (go_quiet (fail); try go_wp2)
  go_loopg [5] k (fun kq v5 w' => ∃ (x5_1 : Int), v5 = .int .i64 x5_1 ∧ Aside0 (laws_vRecords.l0 kq l0 l1 x5_1 = some r) ∧ Aside0 (kq ≤ k) ∧ Drawn0 w w')
  case atStart => exact ⟨(0), zq1, H', ⟨Nat.le_refl _⟩, zq4⟩
  case round =>
   clear H'
   try clear c1
   try clear p2
   try clear c3
   try clear c3b0
   try clear c3b1
   try clear c3b2
   obtain ⟨x5_1, rfl, HA, HK1, ⟨m1, rfl⟩⟩ := hrel
   cases gk with
   | zero => exact absurd HA.out (by simp [laws_vRecords.l0])
   | succ k1 =>
    have H := HA.out
    clear HA
    simp only [laws_vRecords.l0] at H
    by_cases c4 : x5_1 < (l0.length : Int)
    ·rw [if_pos c4] at H
     have c4b0 : decide (x5_1 < (l0.length : Int)) = true := decide_eq_true c4
     clear c4
     by_cases c5 : 0 ≤ x5_1
     ·rw [if_pos c5] at H
      have c5b0 : decide (0 ≤ x5_1) = true := decide_eq_true c5
      clear c5
      by_cases c6 : x5_1 < (l1.length : Int)
      ·rw [if_pos c6] at H
       have c6b0 : decide (x5_1 < (l1.length : Int)) = true := decide_eq_true c6
       clear c6
       by_cases c7 : (!((((rd_T38 l0 x5_1).f0).toList) == (((rd_T38 l1 x5_1).f0).toList)) || (!((((rd_T38 l0 x5_1).f1).toList) == (((rd_T38 l1 x5_1).f1).toList)))) = true
       ·rw [if_pos c7] at H
        have c7b0 : (!((((rd_T38 l0 x5_1).f0).toList) == (((rd_T38 l1 x5_1).f0).toList)) || (!((((rd_T38 l0 x5_1).f1).toList) == (((rd_T38 l1 x5_1).f1).toList)))) = true := c7
        clear c7
        obtain rfl := Option.some.inj H
        have p651 : 0 ≤ (x5_1 : Int) := of_decide_eq_true zq3
        have q651 : x5_1 < (l0.length : Int) := of_decide_eq_true zq3
        obtain ⟨ad651, e651, hx651_0, hx651_1⟩ := at_T38 HR0.out x5_1 p651 q651
        cases e651
        replace p651 := eq_true p651
        replace q651 := eq_true q651
        have p652 : 0 ≤ (x5_1 : Int) := of_decide_eq_true zq3
        have q652 : x5_1 < (l1.length : Int) := of_decide_eq_true zq3
        obtain ⟨ad652, e652, hx652_0, hx652_1⟩ := at_T38 HR1.out x5_1 p652 q652
        cases e652
        replace p652 := eq_true p652
        replace q652 := eq_true q652
        go_wp2
        repeat (go_quiet (fail); try go_wp2)
        go_ret
        exact ⟨zq1, zq4⟩
       ·rw [if_neg c7] at H
        have c7b0 : (!((((rd_T38 l0 x5_1).f0).toList) == (((rd_T38 l1 x5_1).f0).toList)) || (!((((rd_T38 l0 x5_1).f1).toList) == (((rd_T38 l1 x5_1).f1).toList)))) = false := by simpa using c7
        clear c7
        have H' := am H
        clear H
        have p651 : 0 ≤ (x5_1 : Int) := of_decide_eq_true zq3
        have q651 : x5_1 < (l0.length : Int) := of_decide_eq_true zq3
        obtain ⟨ad651, e651, hx651_0, hx651_1⟩ := at_T38 HR0.out x5_1 p651 q651
        cases e651
        replace p651 := eq_true p651
        replace q651 := eq_true q651
        have p652 : 0 ≤ (x5_1 : Int) := of_decide_eq_true zq3
        have q652 : x5_1 < (l1.length : Int) := of_decide_eq_true zq3
        obtain ⟨ad652, e652, hx652_0, hx652_1⟩ := at_T38 HR1.out x5_1 p652 q652
        cases e652
        replace p652 := eq_true p652
        replace q652 := eq_true q652
        go_wp2
        repeat (go_quiet (fail); try go_wp2)
        go_roundg k1
        case measure => have := HK1.out; omega
        case rel => exact ⟨(wrap64 (x5_1 + 1)), zq1, H', ⟨zq175⟩, zq4⟩
      ·rw [if_neg c6] at H
       exact absurd H zq176
     ·rw [if_neg c5] at H
      exact absurd H zq176
    ·rw [if_neg c4] at H
     have c4b0 : decide (x5_1 < (l0.length : Int)) = false := decide_eq_false c4
     clear c4
     obtain rfl := Option.some.inj H
     go_wp2
     repeat (go_quiet (fail); try go_wp2)
     go_ret
     exact ⟨zq1, zq4⟩
 ·rw [if_neg c3] at H
  have c3b0 : ((l0.length : Int) == (l1.length : Int)) = false := beq_eq_false_iff_ne.mpr c3
  have c3b1 : ((l0.length : Int) != (l1.length : Int)) = true := bne_iff_ne.mpr c3
  have c3b2 : (l0.length == l1.length) = false := by first | simpa using c3 | (simp at c3 ⊢; omega)
  obtain rfl := Option.some.inj H
  go_enter Tryd.func52, Tryd.ntmps52
  go_wp2
  repeat (go_quiet (fail); try go_wp2)
  go_ret
  exact ⟨zq1, zq4⟩
end Go.Proofs.YtgclcjohnnpejaaDoor.Pr
end
