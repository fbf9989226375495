-- texts of this session, and of the kit's print, cut to what the claim leans on
import Derived.Test.YthdhhpcbagpmgaaMh1
import Derived.Test.YthdhhpcbagpmgaaMh0
import Derived.Shelf.Abstract
import Derived.Lib.Overlaps
import Derived.Shelf.RegionOpenPlain
section
namespace Go.Proofs.Ythdhhpcbagpmgaa.Pr
open Go.RowKit Go.Proofs.YthdhhpcbagpmgaaW.PrintWords Go.Proofs.YthdhhpcbagpmgaaW.PrintLast Go.Proofs.YthdhhpcbagpmgaaW.PrintMore
attribute [local go_sem] max2_int min2_int max_two min_two max_three min_three max_four min_four
set_option linter.unusedVariables false
set_option linter.unusedSimpArgs false
def impl_Program_copied.l0 : Nat → List (List (S72)) → Int → Int → List (List (S72)) → Option ((List (List (S72))))
 | 0, _, _, _, _ => none
 | k + 1, x8, x9, x10, x193000 => if x10 < x9 then (if 0 ≤ x10 then (if x10 < (x8.length : Int) then ((slices_CloneStep.f (rd_L4 x8 x10)).bind fun t194 => (if x193000.length < 5864062014805 then (impl_Program_copied.l0 k x8 x9 (wrap64 (x10 + 1)) (x193000 ++ [t194])) else (none))) else (none)) else (none)) else (some x193000)
def impl_Program_copied.f (k : Nat) (l0_0 : List (List (S72))) : Option ((List (List (S72)))) := impl_Program_copied.l0 k l0_0 (l0_0.length : Int) 0 ([] : List (List (S72)))
def impl_Program_copied.T5 : Bool × List (List Nat × List Nat) := (true, [([], []), ([0], [0]), ([], []), ([2], [2]), ([3], [3]), ([1, 4, 3], [1, 4]), ([0, 1, 2, 3, 4, 5], []), ([6, 5, 5, 0, 1, 2, 3, 4, 5], [5, 6])])
def impl_Program_copied.B5 : List Nat := [0, 1, 0, 4, 12, 31, 63, 127]
theorem impl_Program_copied.tab5 : rtab .any (opsOf Try.f99 5) = impl_Program_copied.T5 := by kernel_rfl
theorem impl_Program_copied.bits5 : waitsOk impl_Program_copied.T5.2 impl_Program_copied.B5 = true := by kernel_rfl
set_option maxHeartbeats 8000000 in
set_option maxRecDepth 100000 in
theorem impl_Program_copied.calls (k : Nat) (A0_0 : Option Addr) (c0_0 : Nat) (l0_0 : List (List (S72))) (r : List (List (S72))) (w : World) (hr0_0 : Kd.C (Kd.slice 72 k72) w A0_0 l0_0.length l0_0) (hc0_0 : l0_0.length ≤ c0_0) (h : impl_Program_copied.f k l0_0 = some r) :
  Calls Try.prog 99 #[.agg #[.slice A0_0 l0_0.length c0_0]] w fun e w' => ∃ v0_ : Value, e = .returned (.agg #[v0_]) ∧ Kd.S (Kd.slice 72 k72) 108 w' w.heap.size (fun _ => True) v0_ r ∧ Below w.heap.size w w' := by
 have hu28 := Try.underlying28
 have HR0_0 := am hr0_0
 have HC0_0 := am hc0_0
 clear hr0_0 hc0_0
 have HB := am (Below.refl w.heap.size w)
 have H : (impl_Program_copied.l0 k l0_0 (l0_0.length : Int) 0 ([] : List (List (S72)))) = some r := h
 clear h
 have H' := am H
 clear H
 go_enter Try.func99, Try.ntmps99
 go_wp2_with (first | ((with_reducible refine gate_dst (N := 1) rfl ?_); refine box_event ?hg (N := 1) ?hd (cs := #[.slice A0_0 l0_0.length c0_0]) (t := 28) ?hr ?_; (case hd => rfl); (case hg => rfl); (case hr => first | (go_simp; done) | (go_simp; rfl)); intro gb190 hg w2 hbox hb; have n0_ := am (below_step zq0 hb); have n1_ := am (hbox); have n2_ := am ((zq12 : w.heap.size ≤ gb190)); have n3_ := am ((zq12 : w.heap.size ≤ gb190)); clear HB; have HB := n0_; have BK190 := n1_; have GW190 := n2_; have GE190 := n3_; clear n0_ n1_ n2_ n3_; clear hb hbox hg) | ((with_reducible refine gate_dst (N := 2) rfl ?_); refine box_event ?hg (N := 2) ?hd (cs := #[.slice none 0 0]) (t := 28) ?hr ?_; (case hd => rfl); (case hg => rfl); (case hr => first | (go_simp; done) | (go_simp; rfl)); intro gb191 hg w3 hbox hb; have n0_ := am (blk_below (g := gb190) (o := .cells #[.slice A0_0 l0_0.length c0_0] 28 (0, 0)) zq38 hb); have n1_ := am (below_step zq41 hb); have n2_ := am (hbox); have n3_ := am ((by rw [hg]; exact (below_size zq41) : w.heap.size ≤ gb191)); have n4_ := am ((by rw [hg]; exact (below_size zq41) : w.heap.size ≤ gb191)); have n5_ := am ((zq124 : gb190 ≠ gb191)); have n6_ := am ((zq125 : gb191 ≠ gb190)); clear BK190; clear HB; have BK190 := n0_; have HB := n1_; have BK191 := n2_; have GW191 := n3_; have GE191 := n4_; have NB190_191 := n5_; have NB191_190 := n6_; clear n0_ n1_ n2_ n3_ n4_ n5_ n6_; clear hb hbox hg) | ((with_reducible refine gate_dst (N := 3) rfl ?_); refine box_event ?hg (N := 3) ?hd (cs := #[.slice none 0 0]) (t := 28) ?hr ?_; (case hd => rfl); (case hg => rfl); (case hr => first | (go_simp; done) | (go_simp; rfl)); intro gb192 hg w4 hbox hb; have n0_ := am (blk_below (g := gb190) (o := .cells #[.slice A0_0 l0_0.length c0_0] 28 (0, 0)) zq38 hb); have n1_ := am (blk_below (g := gb191) (o := .cells #[.slice none 0 0] 28 (0, 0)) zq39 hb); have n2_ := am (below_step zq40 hb); have n3_ := am (hbox); have n4_ := am ((by rw [hg]; exact (below_size zq40) : w.heap.size ≤ gb192)); have n5_ := am ((by rw [hg]; exact (below_size zq40) : w.heap.size ≤ gb192)); have n6_ := am ((zq124 : gb190 ≠ gb192)); have n7_ := am ((zq125 : gb192 ≠ gb190)); have n8_ := am ((by rw [hg]; exact Nat.ne_of_lt (blk_lt (g := gb191) (o := .cells #[.slice none 0 0] 28 (0, 0)) zq39) : gb191 ≠ gb192)); have n9_ := am ((by rw [hg]; exact Nat.ne_of_gt (blk_lt (g := gb191) (o := .cells #[.slice none 0 0] 28 (0, 0)) zq39) : gb192 ≠ gb191)); clear BK190; clear BK191; clear HB; have BK190 := n0_; have BK191 := n1_; have HB := n2_; have BK192 := n3_; have GW192 := n4_; have GE192 := n5_; have NB190_192 := n6_; have NB192_190 := n7_; have NB191_192 := n8_; have NB192_191 := n9_; clear n0_ n1_ n2_ n3_ n4_ n5_ n6_ n7_ n8_ n9_; clear hb hbox hg; have hnb5 := NB192_190.out; have hnc5 := NB190_192.out; have hnb6 := NB192_191.out; have hnc6 := NB191_192.out; have hcz7_0 : w4.cell? ⟨gb192, 0, none⟩ = some (.slice none 0 0) := (blk_cell BK192.out 0).trans rfl; have hfz7_0 := blk_frozen BK192.out 0; have hnb8 := NB190_191.out; have hnc8 := NB191_190.out; have hcz9_0 : w4.cell? ⟨gb190, 0, none⟩ = some (.slice A0_0 l0_0.length c0_0) := (blk_cell BK190.out 0).trans rfl; have hfz9_0 := blk_frozen BK190.out 0))
 go_loopg [10] k (fun kq v10 w' => ∃ (x10_1 : Int) (x193000_1 : List (List (S72))) (u193000 : Value), v10 = .int .i64 x10_1 ∧ Aside0 (impl_Program_copied.l0 kq l0_0 (l0_0.length : Int) x10_1 x193000_1 = some r) ∧ Aside0 (kq ≤ k) ∧ Aside0 (Kd.S (Kd.slice 72 k72) 108 w' w.heap.size (fun _ => True) u193000 x193000_1) ∧ Aside0 (w'.heap[gb190]? = some (.cells #[(.slice A0_0 l0_0.length c0_0)] 28 (0, 0))) ∧ Aside0 (w'.heap[gb191]? = some (.cells #[(.slice none 0 0)] 28 (0, 0))) ∧ Aside0 (w'.heap[gb192]? = some (.cells #[u193000] 28 (0, 0))) ∧ Aside0 (Below w.heap.size w w'))
 case atStart => exact ⟨(0), (([] : List (List (S72)))), (.slice none 0 0), zq3, H', ⟨Nat.le_refl _⟩, ⟨zq66⟩, ⟨zq42⟩, ⟨zq43⟩, ⟨by (with_reducible repeat (first | refine blk_drewN ?_ _ | refine blk_drew ?_ | refine blk_alloc ?_ _)); refine blk_put (cs := #[.slice none 0 0]) ?_ 0 _ rfl; (with_reducible repeat (first | refine blk_drewN ?_ _ | refine blk_drew ?_ | refine blk_alloc ?_ _)); exact BK192.out⟩, ⟨zq37⟩⟩
 case round =>
  clear H'
  try clear p2
  try clear c5
  try clear c6
  try clear c8
  try clear c9
  try clear hcz7_0
  try clear hcz9_0
  try clear hfz7_0
  try clear hfz9_0
  obtain ⟨x10_1, x193000_1, u193000, rfl, HA, HK1, HO_193000, BK190, BK191, BK192, HB⟩ := hrel
  cases gk with
  | zero => exact absurd HA.out (by simp [impl_Program_copied.l0])
  | succ k1 =>
   have H := HA.out
   clear HA
   simp only [impl_Program_copied.l0] at H
   by_cases c10 : x10_1 < (l0_0.length : Int)
   ·rw [if_pos c10] at H
    have c10b0 : decide (x10_1 < (l0_0.length : Int)) = true := decide_eq_true c10
    clear c10
    by_cases c11 : 0 ≤ x10_1
    ·rw [if_pos c11] at H
     have c11b0 : decide (0 ≤ x10_1) = true := decide_eq_true c11
     clear c11
     by_cases c12 : x10_1 < (l0_0.length : Int)
     ·rw [if_pos c12] at H
      have c12b0 : decide (x10_1 < (l0_0.length : Int)) = true := decide_eq_true c12
      clear c12
      replace H := bem H
      obtain ⟨t194, A130, H⟩ := H
      replace H : (if x193000_1.length < 5864062014805 then (impl_Program_copied.l0 k1 l0_0 (l0_0.length : Int) (wrap64 (x10_1 + 1)) (x193000_1 ++ [t194])) else (none)) = some r := H
      have A13 := am A130
      clear A130
      by_cases c14 : x193000_1.length < 5864062014805
      ·rw [if_pos c14] at H
       have LMc14 := am c14
       clear c14
       obtain ⟨y197, hy197⟩ : ∃ y_ : List (List (S72)), y_ = (x193000_1 ++ [t194]) := ⟨_, rfl⟩
       replace H : (impl_Program_copied.l0 k1 l0_0 (l0_0.length : Int) (wrap64 (x10_1 + 1)) y197) = some r := by first | (rw [hy197]; with_reducible exact H) | (have H2_ := (Option.bind_some _ _).symm.trans H; rw [hy197]; with_reducible exact H2_) | (have H2_ := (Option.bind_some _ _).symm.trans H; with_reducible exact H2_) | with_reducible exact H | (rw [hy197]; exact H) | exact H
       have Ny197 := am hy197
       clear hy197
       have H' := am H
       clear H
       have p193 : 0 ≤ (x10_1 : Int) := of_decide_eq_true zq15
       have q193 : x10_1 < (l0_0.length : Int) := of_decide_eq_true zq15
       obtain ⟨ad193, A193_0, c193_0, e193, hx193_0, hl193_0, hi193_0⟩ := at_L4 HR0_0.out x10_1 p193 q193
       cases e193
       replace hx193_0 := (HB.out.cell (World.block_lt_of_cell? w _ hx193_0)).trans hx193_0
       have HR193_0 := am hi193_0
       have HC193_0 := am hl193_0
       clear hi193_0 hl193_0
       replace p193 := eq_true p193
       replace q193 := eq_true q193
       try go_wp2
       have n0_ := am (Kd.S_drew HO_193000.out)
       have n1_ := am (blk_drew BK190.out)
       have n2_ := am (blk_drew BK191.out)
       have n3_ := am (blk_drew BK192.out)
       have n4_ := am (below_drew1 HB.out)
       clear HO_193000
       clear BK190
       clear BK191
       clear BK192
       clear HB
       have HO_193000 := n0_
       have BK190 := n1_
       have BK191 := n2_
       have BK192 := n3_
       have HB := n4_
       clear n0_ n1_ n2_ n3_ n4_
       refine start_ (n := 8) (S := fun w' => w'.cell? ⟨gb192, 0, none⟩ = some (u193000)) (ds := [7]) #[false, false, false, false, false, false, false, false] zq17 rfl rfl ((blk_cell BK192.out 0).trans rfl) (fun hHeld => ?_); refine with_tabW impl_Program_copied.tab5 impl_Program_copied.bits5 (fun HT_ HW_ => ?_)
       generalize wr.drew = w15 at HO_193000 BK190 BK191 BK192 HB hHeld ⊢
       refine pure_ (i := 0) (N := some 14) (v := ?_) (a' := ?_) #[true, false, false, false, false, false, false, false] rfl rfl (any_of HT_.out zq17) (fun _ _ _ h => h) (Or.inl ⟨by rfl, ?_⟩) ?_ ?_
       rotate_left
       ·intro w'
        go_simp
        with_reducible rfl
       rotate_left
       ·simp only [Act.put, List.setIfInBounds_toArray, List.set_cons_zero, List.set_cons_succ, i64_w, i32_w]
        rfl
       refine pure_ (i := 2) (N := some 16) (v := ?_) (a' := ?_) #[true, false, true, false, false, false, false, false] rfl rfl (any_of HT_.out zq17) (fun _ _ _ h => h) (Or.inl ⟨by rfl, ?_⟩) ?_ ?_
       rotate_left
       ·intro w'
        go_simp
        with_reducible rfl
       rotate_left
       ·simp only [Act.put, List.setIfInBounds_toArray, List.set_cons_zero, List.set_cons_succ, i64_w, i32_w]
        rfl
       refine take_ (i := 1) (N := some 15) (v := ?_) (a' := ?_) #[true, true, true, false, false, false, false, false] rfl rfl (take_ofW HT_.out HW_.out zq17) (fun _ _ _ h => h) (Or.inl ⟨by rfl, ?_⟩) hHeld ?_ ?_
       rotate_left
       ·intro w' s0
        go_simp
        with_reducible rfl
       rotate_left
       ·simp only [Act.put, List.setIfInBounds_toArray, List.set_cons_zero, List.set_cons_succ, i64_w, i32_w]
        rfl
       refine one_ (i := 3) (N := some 17) #[true, true, true, true, false, false, false, false] rfl rfl (one_of HT_.out zq17) zq107 (fun K hK => ?_)
       refine goes_ Try.func131 zq17 rfl #[.slice A193_0 (rd_L4 l0_0 x10_1).length c193_0] (by rfl) rfl rfl zq1 ?_
       with_reducible refine (slices_CloneStep.calls _ _ (rd_L4 l0_0 x10_1) t194 _ ?side1 ?side2 A13.out).mono ?_
       (case side1 => repeat (first | exact (Kd.C_below HR193_0.out HB.out) | (with_reducible refine Kd.C_alloc ?_ _) | (with_reducible refine Kd.C_drewN ?_ _) | (with_reducible refine Kd.C_drew ?_)))
       (case side2 => exact HC193_0.out)
       rintro e w16 ⟨v195, rfl, ho0, hb⟩
       refine ⟨_, rfl, ?_⟩
       have n0_ := am (Kd.S_elder' (by (with_reducible repeat (first | apply Kd.S_alloc | apply Kd.S_drewN | apply Kd.S_drew)); exact HO_193000.out) (Kd.R_base ho0) hb)
       have n1_ := am (Kd.R_lower ho0 (below_size zq37))
       have n2_ := am (blk_below (g := gb190) (o := .cells #[.slice (some ad193) l0_0.length c0_0] 28 (0, 0)) zq38 hb)
       have n3_ := am (blk_below (g := gb191) (o := .cells #[.slice none 0 0] 28 (0, 0)) zq39 hb)
       have n4_ := am (blk_below (g := gb192) (o := .cells #[u193000] 28 (0, 0)) zq115 hb)
       have n5_ := am (below_step zq37 hb)
       clear HO_193000
       clear BK190
       clear BK191
       clear BK192
       clear HB
       have HO_193000 := n0_
       have HO196 := n1_
       have BK190 := n2_
       have BK191 := n3_
       have BK192 := n4_
       have HB := n5_
       clear n0_ n1_ n2_ n3_ n4_ n5_
       (try clear hb)
       (try clear hb2)
       (try clear hk)
       (try clear hi)
       (try clear ho0)
       obtain ⟨Ao18, co18, eo18⟩ := Kd.R_slice HO196.out
       (first | subst eo18 | (injection eo18 with f1_ f2_ f3_; have f4_ := f1_.symm; have f5_ := f3_.symm; clear f1_ f2_ f3_; subst f4_; subst f5_))
       refine hK.out _ _ ((blk_cell BK192.out 0).trans rfl) (fun hHeld => ?_)
       clear hK K
       refine norm_ (a' := ?_) ?_ ?_
       rotate_left
       ·show Act.put _ (some 17) _ = _
        simp only [Act.put, List.setIfInBounds_toArray, List.set_cons_zero, List.set_cons_succ, i64_w, i32_w]
        rfl
       refine one_ (i := 4) (N := some 18) #[true, true, true, true, true, false, false, false] rfl rfl (one_of HT_.out zq17) zq107 (fun K hK => ?_)
       refine value_ (w1 := ?_) (v := ?_) (by rfl) rfl ?_ ?_
       rotate_left 2
       ·go_simp
        constructor
        ·rfl
        ·rfl
       refine hK.out _ _ ((blk_cell (blk_alloc BK192.out _) 0).trans rfl) (fun hHeld => ?_)
       clear hK K
       refine norm_ (a' := ?_) ?_ ?_
       rotate_left
       ·show Act.put _ (some 18) _ = _
        simp only [Act.put, List.setIfInBounds_toArray, List.set_cons_zero, List.set_cons_succ, i64_w, i32_w]
        rfl
       refine one_ (i := 5) (N := some 19) #[true, true, true, true, true, true, false, false] rfl rfl (one_of HT_.out zq17) zq107 (fun K hK => ?_)
       refine Kd.S_append_step (Kd.slice 72 k72) (w0 := w) w.heap.size (by rfl) (.tmp 15) (.tmp 18) 26 108 (.slice none 0 0) 24 rfl Try.underlying26 info108 rfl zq107 (by omega) u193000 x193000_1 t194 [.slice Ao18 t194.length co18] (fun _ => True) (fun k_ => some k_ = (.slice Ao18 t194.length co18 : Value).ownBlock) rfl rfl ?aP (fun k_ hk_ => ((Kd.R_mono (ok' := fun k_ => ((fun _ => True)) k_ ∧ some k_ ≠ (u193000 : Value).ownBlock) (Kd.R_apart' (HO196.out) (Kd.S_typed HO_193000.out) zq107) (fun k_ hk => ⟨trivial, hk.2⟩))).1 k_ hk_.symm) ?aF ?aO ?aB ?aS ?aL ?_
       (case aP => exact Kd.M_row (Kd.R_mono (Kd.R_tight rfl (Kd.R_mono (ok' := fun k_ => ((fun _ => True)) k_ ∧ some k_ ≠ (u193000 : Value).ownBlock) (Kd.R_apart' (HO196.out) (Kd.S_typed HO_193000.out) zq107) (fun k_ hk => ⟨trivial, hk.2⟩))) (fun _ h_ => h_)))
       (case aB => exact zq37)
       (case aF => exact (fun _ _ => trivial))
       (case aO => exact (by (with_reducible repeat (first | apply Kd.S_alloc | apply Kd.S_drewN | apply Kd.S_drew)); exact Kd.S_mono HO_193000.out (fun k_ hk => ⟨trivial, fun e_ => hk.2 e_⟩)))
       (case aS => exact (below_size zq37))
       (case aL => have := LMc14.out; omega)
       intro v198 w17 ho hb hg hat
       rw [← Ny197.out] at ho
       have n0_ := am (blk_grown (g := gb190) (o := .cells #[.slice (some ad193) l0_0.length c0_0] 28 (0, 0)) zq38 hg (Kd.S_ne HO_193000.out BK190.out zq107))
       have n1_ := am (blk_grown (g := gb191) (o := .cells #[.slice none 0 0] 28 (0, 0)) zq39 hg (Kd.S_ne HO_193000.out BK191.out zq107))
       have n2_ := am (blk_grown (g := gb192) (o := .cells #[u193000] 28 (0, 0)) zq115 hg (Kd.S_ne HO_193000.out BK192.out zq107))
       have n3_ := am (hb)
       have n4_ := am (ho)
       clear BK190
       clear BK191
       clear BK192
       clear HB
       clear HO_193000
       clear HO196
       have BK190 := n0_
       have BK191 := n1_
       have BK192 := n2_
       have HB := n3_
       have HO199 := n4_
       clear n0_ n1_ n2_ n3_ n4_
       clear ho hb hg hat
       obtain ⟨Ao19, co19, eo19⟩ := Kd.S_slice HO199.out
       (first | subst eo19 | (injection eo19 with f1_ f2_ f3_; have f4_ := f1_.symm; have f5_ := f3_.symm; clear f1_ f2_ f3_; subst f4_; subst f5_))
       refine hK.out _ _ ((blk_cell BK192.out 0).trans rfl) (fun hHeld => ?_)
       clear hK K
       refine norm_ (a' := ?_) ?_ ?_
       rotate_left
       ·show Act.put _ (some 19) _ = _
        simp only [Act.put, List.setIfInBounds_toArray, List.set_cons_zero, List.set_cons_succ, i64_w, i32_w]
        rfl
       refine pure_ (i := 6) (N := some 20) (v := ?_) (a' := ?_) #[true, true, true, true, true, true, true, false] rfl rfl (any_of HT_.out zq17) (fun _ _ _ h => h) (Or.inl ⟨by rfl, ?_⟩) ?_ ?_
       rotate_left
       ·intro w'
        go_simp
        with_reducible rfl
       rotate_left
       ·simp only [Act.put, List.setIfInBounds_toArray, List.set_cons_zero, List.set_cons_succ, i64_w, i32_w]
        rfl
       refine last_ (i := 7) (N := none) #[true, true, true, true, true, true, true, true] rfl rfl (one_of HT_.out zq17) zq107 (fun K hK => ?_)
       have hs20 : w17.cell? ⟨gb192, 0, none⟩ = some (u193000) := (blk_cell BK192.out 0).trans rfl
       have hfs20 := blk_frozen BK192.out 0
       have hns20_0 := NB190_192.out
       have hns20_1 := NB191_192.out
       have hms20_0 := NB192_190.out
       have hms20_1 := NB192_191.out
       refine skip_ (w1 := ?_) (by rfl) rfl ?_ ?_
       rotate_left
       ·go_simp
        rfl
       refine hK.out _ _ ?_
       clear hK K
       refine done_ (done_of HT_.out zq17) ?_
       try go_wp2
       go_roundg k1
       case measure => have := HK1.out; omega
       case rel => exact ⟨(wrap64 (x10_1 + 1)), (y197), (.slice Ao19 y197.length co19), zq3, H', ⟨zq108⟩, ⟨by (with_reducible repeat (first | apply Kd.S_alloc | apply Kd.S_drewN | apply Kd.S_drew)); exact Kd.S_mono (Kd.S_far (p := ⟨gb192, 0, none⟩) (Kd.S_types HO199.out BK192.out zq107) (fun _ hk => hk.2) (.slice Ao19 y197.length co19)) (fun _ hk => trivial)⟩, ⟨zq42⟩, ⟨zq43⟩, ⟨by (with_reducible repeat (first | refine blk_drewN ?_ _ | refine blk_drew ?_ | refine blk_alloc ?_ _)); refine blk_put (cs := #[u193000]) ?_ 0 _ rfl; (with_reducible repeat (first | refine blk_drewN ?_ _ | refine blk_drew ?_ | refine blk_alloc ?_ _)); exact BK192.out⟩, ⟨zq37⟩⟩
      ·rw [if_neg c14] at H
       exact absurd H (by simp)
     ·rw [if_neg c12] at H
      exact absurd H (by simp)
    ·rw [if_neg c11] at H
     exact absurd H (by simp)
   ·rw [if_neg c10] at H
    have c10b0 : decide (x10_1 < (l0_0.length : Int)) = false := decide_eq_false c10
    clear c10
    obtain rfl := Option.some.inj H
    have hnb21 := NB192_190.out
    have hnc21 := NB190_192.out
    have hnb22 := NB192_191.out
    have hnc22 := NB191_192.out
    have hcz23_0 : wr.cell? ⟨gb192, 0, none⟩ = some (u193000) := (blk_cell BK192.out 0).trans rfl
    have hfz23_0 := blk_frozen BK192.out 0
    obtain ⟨Ao24, co24, eo24⟩ := Kd.S_slice HO_193000.out
    subst eo24
    have hnb25 := NB191_190.out
    have hnc25 := NB190_191.out
    have hcz26_0 : wr.cell? ⟨gb191, 0, none⟩ = some (.slice none 0 0) := (blk_cell BK191.out 0).trans rfl
    have hfz26_0 := blk_frozen BK191.out 0
    go_wp2
    refine bodyPost_ret (results_cell_row rfl _ _ gb191 28 #[.slice Ao24 x193000_1.length co24] (0, 0) _ rfl (by (with_reducible repeat (first | refine blk_drewN ?_ _ | refine blk_drew ?_ | refine blk_alloc ?_ _)); refine blk_put (cs := #[.slice none 0 0]) ?_ 0 _ rfl; (with_reducible repeat (first | refine blk_drewN ?_ _ | refine blk_drew ?_ | refine blk_alloc ?_ _)); exact BK191.out) Try.underlying28 rfl zq17) rfl ?_
    exact ⟨_, zq8, by (with_reducible repeat (first | apply Kd.S_alloc | apply Kd.S_drewN | apply Kd.S_drew)); exact Kd.S_mono (Kd.S_far (p := ⟨gb191, 0, none⟩) (Kd.S_types HO_193000.out BK191.out zq107) (fun _ hk => hk.2) (.slice Ao24 x193000_1.length co24)) (fun _ hk => trivial), zq37⟩
def laws_eqStep.f (a0_0 : Int) (a0_1 : Int) (a0_2 : Int) (a1_0 : Int) (a1_1 : Int) (a1_2 : Int) : Option (Bool) := if a0_0 = a1_0 then (if a0_1 = a1_1 then (if a0_2 = a1_2 then (some true) else (some false)) else (some false)) else (some false)
set_option maxHeartbeats 8000000 in
set_option maxRecDepth 100000 in
theorem laws_eqStep.calls (a0_0 : Int) (a0_1 : Int) (a0_2 : Int) (a1_0 : Int) (a1_1 : Int) (a1_2 : Int) (r : Bool) (w : World) (h : laws_eqStep.f a0_0 a0_1 a0_2 a1_0 a1_1 a1_2 = some r) :
  Calls Try.prog 145 #[.agg #[.int .i64 a0_0, .int .i64 a0_1, .int .i64 a0_2], .agg #[.int .i64 a1_0, .int .i64 a1_1, .int .i64 a1_2]] w fun e w' => e = .returned (.bool r) ∧ Below w.heap.size w w' := by
 have hu72 := Try.underlying72
 have HB := am (Below.refl w.heap.size w)
 have H : (if a0_0 = a1_0 then (if a0_1 = a1_1 then (if a0_2 = a1_2 then (some true) else (some false)) else (some false)) else (some false)) = some r := h
 clear h
 by_cases c3 : a0_0 = a1_0
 ·rw [if_pos c3] at H
  have c3b0 : (a0_0 == a1_0) = true := beq_iff_eq.mpr c3
  have c3b1 : (a0_0 != a1_0) = false := bne_eq_false_iff_eq.mpr c3
  clear c3
  by_cases c4 : a0_1 = a1_1
  ·rw [if_pos c4] at H
   have c4b0 : (a0_1 == a1_1) = true := beq_iff_eq.mpr c4
   have c4b1 : (a0_1 != a1_1) = false := bne_eq_false_iff_eq.mpr c4
   clear c4
   by_cases c5 : a0_2 = a1_2
   ·rw [if_pos c5] at H
    have c5b0 : (a0_2 == a1_2) = true := beq_iff_eq.mpr c5
    have c5b1 : (a0_2 != a1_2) = false := bne_eq_false_iff_eq.mpr c5
    clear c5
    obtain rfl := Option.some.inj H
    go_enter Try.func145, Try.ntmps145
    go_wp2_with (first | ((with_reducible refine gate_dst (N := 2) rfl ?_); refine box_event ?hg (N := 2) ?hd (cs := #[.int .i64 a0_0, .int .i64 a0_1, .int .i64 a0_2]) (t := 72) ?hr ?_; (case hd => rfl); (case hg => rfl); (case hr => first | (go_simp; done) | (go_simp; rfl)); intro gb214 hg w6 hbox hb; have n0_ := am (below_step zq0 hb); have n1_ := am (hbox); have n2_ := am ((zq12 : w.heap.size ≤ gb214)); have n3_ := am ((zq12 : w.heap.size ≤ gb214)); clear HB; have HB := n0_; have BK214 := n1_; have GW214 := n2_; have GE214 := n3_; clear n0_ n1_ n2_ n3_; clear hb hbox hg) | ((with_reducible refine gate_dst (N := 3) rfl ?_); refine box_event ?hg (N := 3) ?hd (cs := #[.int .i64 a1_0, .int .i64 a1_1, .int .i64 a1_2]) (t := 72) ?hr ?_; (case hd => rfl); (case hg => rfl); (case hr => first | (go_simp; done) | (go_simp; rfl)); intro gb215 hg w7 hbox hb; have n0_ := am (blk_below (g := gb214) (o := .cells #[.int .i64 a0_0, .int .i64 a0_1, .int .i64 a0_2] 72 (0, 0)) zq45 hb); have n1_ := am (below_step zq44 hb); have n2_ := am (hbox); have n3_ := am ((zq49 : w.heap.size ≤ gb215)); have n4_ := am ((zq49 : w.heap.size ≤ gb215)); have n5_ := am ((zq47 : gb214 ≠ gb215)); have n6_ := am ((zq48 : gb215 ≠ gb214)); clear BK214; clear HB; have BK214 := n0_; have HB := n1_; have BK215 := n2_; have GW215 := n3_; have GE215 := n4_; have NB214_215 := n5_; have NB215_214 := n6_; clear n0_ n1_ n2_ n3_ n4_ n5_ n6_; clear hb hbox hg; have hnb8 := NB214_215.out; have hnc8 := NB215_214.out; have hcz9_0 : w7.cell? ⟨gb214, 0, none⟩ = some (.int .i64 a0_0) := (blk_cell BK214.out 0).trans rfl; have hcz9_1 : w7.cell? ⟨gb214, 1, none⟩ = some (.int .i64 a0_1) := (blk_cell BK214.out 1).trans rfl; have hcz9_2 : w7.cell? ⟨gb214, 2, none⟩ = some (.int .i64 a0_2) := (blk_cell BK214.out 2).trans rfl; have hfz9_0 := blk_frozen BK214.out 0; have hfz9_1 := blk_frozen BK214.out 1; have hfz9_2 := blk_frozen BK214.out 2; have hcz10_0 : w7.cell? ⟨gb215, 0, none⟩ = some (.int .i64 a1_0) := (blk_cell BK215.out 0).trans rfl; have hcz10_1 : w7.cell? ⟨gb215, 1, none⟩ = some (.int .i64 a1_1) := (blk_cell BK215.out 1).trans rfl; have hcz10_2 : w7.cell? ⟨gb215, 2, none⟩ = some (.int .i64 a1_2) := (blk_cell BK215.out 2).trans rfl; have hfz10_0 := blk_frozen BK215.out 0; have hfz10_1 := blk_frozen BK215.out 1; have hfz10_2 := blk_frozen BK215.out 2))
    go_ret
    exact ⟨zq8, zq46⟩
   ·rw [if_neg c5] at H
    have c5b0 : (a0_2 == a1_2) = false := beq_eq_false_iff_ne.mpr c5
    have c5b1 : (a0_2 != a1_2) = true := bne_iff_ne.mpr c5
    obtain rfl := Option.some.inj H
    go_enter Try.func145, Try.ntmps145
    go_wp2_with (first | ((with_reducible refine gate_dst (N := 2) rfl ?_); refine box_event ?hg (N := 2) ?hd (cs := #[.int .i64 a0_0, .int .i64 a0_1, .int .i64 a0_2]) (t := 72) ?hr ?_; (case hd => rfl); (case hg => rfl); (case hr => first | (go_simp; done) | (go_simp; rfl)); intro gb214 hg w11 hbox hb; have n0_ := am (below_step zq0 hb); have n1_ := am (hbox); have n2_ := am ((zq12 : w.heap.size ≤ gb214)); have n3_ := am ((zq12 : w.heap.size ≤ gb214)); clear HB; have HB := n0_; have BK214 := n1_; have GW214 := n2_; have GE214 := n3_; clear n0_ n1_ n2_ n3_; clear hb hbox hg) | ((with_reducible refine gate_dst (N := 3) rfl ?_); refine box_event ?hg (N := 3) ?hd (cs := #[.int .i64 a1_0, .int .i64 a1_1, .int .i64 a1_2]) (t := 72) ?hr ?_; (case hd => rfl); (case hg => rfl); (case hr => first | (go_simp; done) | (go_simp; rfl)); intro gb215 hg w12 hbox hb; have n0_ := am (blk_below (g := gb214) (o := .cells #[.int .i64 a0_0, .int .i64 a0_1, .int .i64 a0_2] 72 (0, 0)) zq45 hb); have n1_ := am (below_step zq44 hb); have n2_ := am (hbox); have n3_ := am ((zq49 : w.heap.size ≤ gb215)); have n4_ := am ((zq49 : w.heap.size ≤ gb215)); have n5_ := am ((zq47 : gb214 ≠ gb215)); have n6_ := am ((zq48 : gb215 ≠ gb214)); clear BK214; clear HB; have BK214 := n0_; have HB := n1_; have BK215 := n2_; have GW215 := n3_; have GE215 := n4_; have NB214_215 := n5_; have NB215_214 := n6_; clear n0_ n1_ n2_ n3_ n4_ n5_ n6_; clear hb hbox hg; have hnb13 := NB214_215.out; have hnc13 := NB215_214.out; have hcz14_0 : w12.cell? ⟨gb214, 0, none⟩ = some (.int .i64 a0_0) := (blk_cell BK214.out 0).trans rfl; have hcz14_1 : w12.cell? ⟨gb214, 1, none⟩ = some (.int .i64 a0_1) := (blk_cell BK214.out 1).trans rfl; have hcz14_2 : w12.cell? ⟨gb214, 2, none⟩ = some (.int .i64 a0_2) := (blk_cell BK214.out 2).trans rfl; have hfz14_0 := blk_frozen BK214.out 0; have hfz14_1 := blk_frozen BK214.out 1; have hfz14_2 := blk_frozen BK214.out 2; have hcz15_0 : w12.cell? ⟨gb215, 0, none⟩ = some (.int .i64 a1_0) := (blk_cell BK215.out 0).trans rfl; have hcz15_1 : w12.cell? ⟨gb215, 1, none⟩ = some (.int .i64 a1_1) := (blk_cell BK215.out 1).trans rfl; have hcz15_2 : w12.cell? ⟨gb215, 2, none⟩ = some (.int .i64 a1_2) := (blk_cell BK215.out 2).trans rfl; have hfz15_0 := blk_frozen BK215.out 0; have hfz15_1 := blk_frozen BK215.out 1; have hfz15_2 := blk_frozen BK215.out 2))
    go_ret
    exact ⟨zq8, zq46⟩
  ·rw [if_neg c4] at H
   have c4b0 : (a0_1 == a1_1) = false := beq_eq_false_iff_ne.mpr c4
   have c4b1 : (a0_1 != a1_1) = true := bne_iff_ne.mpr c4
   obtain rfl := Option.some.inj H
   go_enter Try.func145, Try.ntmps145
   go_wp2_with (first | ((with_reducible refine gate_dst (N := 2) rfl ?_); refine box_event ?hg (N := 2) ?hd (cs := #[.int .i64 a0_0, .int .i64 a0_1, .int .i64 a0_2]) (t := 72) ?hr ?_; (case hd => rfl); (case hg => rfl); (case hr => first | (go_simp; done) | (go_simp; rfl)); intro gb214 hg w16 hbox hb; have n0_ := am (below_step zq0 hb); have n1_ := am (hbox); have n2_ := am ((zq12 : w.heap.size ≤ gb214)); have n3_ := am ((zq12 : w.heap.size ≤ gb214)); clear HB; have HB := n0_; have BK214 := n1_; have GW214 := n2_; have GE214 := n3_; clear n0_ n1_ n2_ n3_; clear hb hbox hg) | ((with_reducible refine gate_dst (N := 3) rfl ?_); refine box_event ?hg (N := 3) ?hd (cs := #[.int .i64 a1_0, .int .i64 a1_1, .int .i64 a1_2]) (t := 72) ?hr ?_; (case hd => rfl); (case hg => rfl); (case hr => first | (go_simp; done) | (go_simp; rfl)); intro gb215 hg w17 hbox hb; have n0_ := am (blk_below (g := gb214) (o := .cells #[.int .i64 a0_0, .int .i64 a0_1, .int .i64 a0_2] 72 (0, 0)) zq45 hb); have n1_ := am (below_step zq44 hb); have n2_ := am (hbox); have n3_ := am ((zq49 : w.heap.size ≤ gb215)); have n4_ := am ((zq49 : w.heap.size ≤ gb215)); have n5_ := am ((zq47 : gb214 ≠ gb215)); have n6_ := am ((zq48 : gb215 ≠ gb214)); clear BK214; clear HB; have BK214 := n0_; have HB := n1_; have BK215 := n2_; have GW215 := n3_; have GE215 := n4_; have NB214_215 := n5_; have NB215_214 := n6_; clear n0_ n1_ n2_ n3_ n4_ n5_ n6_; clear hb hbox hg; have hnb18 := NB214_215.out; have hnc18 := NB215_214.out; have hcz19_0 : w17.cell? ⟨gb214, 0, none⟩ = some (.int .i64 a0_0) := (blk_cell BK214.out 0).trans rfl; have hcz19_1 : w17.cell? ⟨gb214, 1, none⟩ = some (.int .i64 a0_1) := (blk_cell BK214.out 1).trans rfl; have hcz19_2 : w17.cell? ⟨gb214, 2, none⟩ = some (.int .i64 a0_2) := (blk_cell BK214.out 2).trans rfl; have hfz19_0 := blk_frozen BK214.out 0; have hfz19_1 := blk_frozen BK214.out 1; have hfz19_2 := blk_frozen BK214.out 2; have hcz20_0 : w17.cell? ⟨gb215, 0, none⟩ = some (.int .i64 a1_0) := (blk_cell BK215.out 0).trans rfl; have hcz20_1 : w17.cell? ⟨gb215, 1, none⟩ = some (.int .i64 a1_1) := (blk_cell BK215.out 1).trans rfl; have hcz20_2 : w17.cell? ⟨gb215, 2, none⟩ = some (.int .i64 a1_2) := (blk_cell BK215.out 2).trans rfl; have hfz20_0 := blk_frozen BK215.out 0; have hfz20_1 := blk_frozen BK215.out 1; have hfz20_2 := blk_frozen BK215.out 2))
   go_ret
   exact ⟨zq8, zq46⟩
 ·rw [if_neg c3] at H
  have c3b0 : (a0_0 == a1_0) = false := beq_eq_false_iff_ne.mpr c3
  have c3b1 : (a0_0 != a1_0) = true := bne_iff_ne.mpr c3
  obtain rfl := Option.some.inj H
  go_enter Try.func145, Try.ntmps145
  go_wp2_with (first | ((with_reducible refine gate_dst (N := 2) rfl ?_); refine box_event ?hg (N := 2) ?hd (cs := #[.int .i64 a0_0, .int .i64 a0_1, .int .i64 a0_2]) (t := 72) ?hr ?_; (case hd => rfl); (case hg => rfl); (case hr => first | (go_simp; done) | (go_simp; rfl)); intro gb214 hg w21 hbox hb; have n0_ := am (below_step zq0 hb); have n1_ := am (hbox); have n2_ := am ((zq12 : w.heap.size ≤ gb214)); have n3_ := am ((zq12 : w.heap.size ≤ gb214)); clear HB; have HB := n0_; have BK214 := n1_; have GW214 := n2_; have GE214 := n3_; clear n0_ n1_ n2_ n3_; clear hb hbox hg) | ((with_reducible refine gate_dst (N := 3) rfl ?_); refine box_event ?hg (N := 3) ?hd (cs := #[.int .i64 a1_0, .int .i64 a1_1, .int .i64 a1_2]) (t := 72) ?hr ?_; (case hd => rfl); (case hg => rfl); (case hr => first | (go_simp; done) | (go_simp; rfl)); intro gb215 hg w22 hbox hb; have n0_ := am (blk_below (g := gb214) (o := .cells #[.int .i64 a0_0, .int .i64 a0_1, .int .i64 a0_2] 72 (0, 0)) zq45 hb); have n1_ := am (below_step zq44 hb); have n2_ := am (hbox); have n3_ := am ((zq49 : w.heap.size ≤ gb215)); have n4_ := am ((zq49 : w.heap.size ≤ gb215)); have n5_ := am ((zq47 : gb214 ≠ gb215)); have n6_ := am ((zq48 : gb215 ≠ gb214)); clear BK214; clear HB; have BK214 := n0_; have HB := n1_; have BK215 := n2_; have GW215 := n3_; have GE215 := n4_; have NB214_215 := n5_; have NB215_214 := n6_; clear n0_ n1_ n2_ n3_ n4_ n5_ n6_; clear hb hbox hg; have hnb23 := NB214_215.out; have hnc23 := NB215_214.out; have hcz24_0 : w22.cell? ⟨gb214, 0, none⟩ = some (.int .i64 a0_0) := (blk_cell BK214.out 0).trans rfl; have hcz24_1 : w22.cell? ⟨gb214, 1, none⟩ = some (.int .i64 a0_1) := (blk_cell BK214.out 1).trans rfl; have hcz24_2 : w22.cell? ⟨gb214, 2, none⟩ = some (.int .i64 a0_2) := (blk_cell BK214.out 2).trans rfl; have hfz24_0 := blk_frozen BK214.out 0; have hfz24_1 := blk_frozen BK214.out 1; have hfz24_2 := blk_frozen BK214.out 2; have hcz25_0 : w22.cell? ⟨gb215, 0, none⟩ = some (.int .i64 a1_0) := (blk_cell BK215.out 0).trans rfl; have hcz25_1 : w22.cell? ⟨gb215, 1, none⟩ = some (.int .i64 a1_1) := (blk_cell BK215.out 1).trans rfl; have hcz25_2 : w22.cell? ⟨gb215, 2, none⟩ = some (.int .i64 a1_2) := (blk_cell BK215.out 2).trans rfl; have hfz25_0 := blk_frozen BK215.out 0; have hfz25_1 := blk_frozen BK215.out 1; have hfz25_2 := blk_frozen BK215.out 2))
  go_ret
  exact ⟨zq8, zq46⟩
def laws_eqStepS.l0 : Nat → List (S72) → List (S72) → Int → Option (Bool)
 | 0, _, _, _ => none
 | k + 1, x0, x1, x5 => if x5 < (x0.length : Int) then (if 0 ≤ x5 then (if x5 < (x1.length : Int) then ((laws_eqStep.f ((rd_T72 x0 x5).f0) ((rd_T72 x0 x5).f1) ((rd_T72 x0 x5).f2) ((rd_T72 x1 x5).f0) ((rd_T72 x1 x5).f1) ((rd_T72 x1 x5).f2)).bind fun t218 => (if t218 = true then (laws_eqStepS.l0 k x0 x1 (wrap64 (x5 + 1))) else (some false))) else (none)) else (none)) else (some true)
def laws_eqStepS.f (k : Nat) (l0 : List (S72)) (l1 : List (S72)) : Option (Bool) := if (l0.length : Int) = (l1.length : Int) then (laws_eqStepS.l0 k l0 l1 0) else (some false)
def laws_eqStepS.T6 : Bool × List (List Nat × List Nat) := (true, [([], []), ([], []), ([0, 1], [0, 1]), ([2], [2]), ([], []), ([], []), ([4, 5], [4, 5]), ([6], [6]), ([3, 7], [3, 7]), ([8], [8])])
def laws_eqStepS.B6 : List Nat := [0, 0, 3, 7, 0, 0, 48, 112, 255, 511]
theorem laws_eqStepS.tab6 : rtab .any (opsOf Try.f116 6) = laws_eqStepS.T6 := by kernel_rfl
theorem laws_eqStepS.bits6 : waitsOk laws_eqStepS.T6.2 laws_eqStepS.B6 = true := by kernel_rfl
set_option maxHeartbeats 8000000 in
set_option maxRecDepth 100000 in
theorem laws_eqStepS.calls (k : Nat) (A0 : Option Addr) (c0 : Nat) (l0 : List (S72)) (A1 : Option Addr) (c1 : Nat) (l1 : List (S72)) (r : Bool) (w : World) (hr0 : Kd.C k72 w A0 l0.length l0) (hc0 : l0.length ≤ c0) (hr1 : Kd.C k72 w A1 l1.length l1) (hc1 : l1.length ≤ c1) (h : laws_eqStepS.f k l0 l1 = some r) :
  Calls Try.prog 116 #[.slice A0 l0.length c0, .slice A1 l1.length c1] w fun e w' => e = .returned (.bool r) ∧ Below w.heap.size w w' := by
 have hu72 := Try.underlying72
 have HR0 := am hr0
 have HC0 := am hc0
 clear hr0 hc0
 have HR1 := am hr1
 have HC1 := am hc1
 clear hr1 hc1
 have HB := am (Below.refl w.heap.size w)
 have H : (if (l0.length : Int) = (l1.length : Int) then (laws_eqStepS.l0 k l0 l1 0) else (some false)) = some r := h
 clear h
 by_cases c3 : (l0.length : Int) = (l1.length : Int)
 ·rw [if_pos c3] at H
  have c3b0 : ((l0.length : Int) == (l1.length : Int)) = true := beq_iff_eq.mpr c3
  have c3b1 : ((l0.length : Int) != (l1.length : Int)) = false := bne_eq_false_iff_eq.mpr c3
  have c3b2 : (l0.length == l1.length) = true := by first | simpa using c3 | (simp at c3 ⊢; omega)
  clear c3
  have H' := am H
  clear H
  go_enter Try.func116, Try.ntmps116
  go_wp2
  go_loopg [5] k (fun kq v5 w' => ∃ (x5_1 : Int), v5 = .int .i64 x5_1 ∧ Aside0 (laws_eqStepS.l0 kq l0 l1 x5_1 = some r) ∧ Aside0 (kq ≤ k) ∧ Aside0 (Below w.heap.size w w'))
  case atStart => exact ⟨(0), zq3, H', ⟨Nat.le_refl _⟩, ⟨zq0⟩⟩
  case round =>
   clear H'
   try clear c1
   try clear p2
   try clear c3
   try clear c3b0
   try clear c3b1
   try clear c3b2
   obtain ⟨x5_1, rfl, HA, HK1, HB⟩ := hrel
   cases gk with
   | zero => exact absurd HA.out (by simp [laws_eqStepS.l0])
   | succ k1 =>
    have H := HA.out
    clear HA
    simp only [laws_eqStepS.l0] at H
    by_cases c4 : x5_1 < (l0.length : Int)
    ·rw [if_pos c4] at H
     have c4b0 : decide (x5_1 < (l0.length : Int)) = true := decide_eq_true c4
     clear c4
     by_cases c5 : 0 ≤ x5_1
     ·rw [if_pos c5] at H
      have c5b0 : decide (0 ≤ x5_1) = true := decide_eq_true c5
      clear c5
      by_cases c6 : x5_1 < (l1.length : Int)
      ·rw [if_pos c6] at H
       have c6b0 : decide (x5_1 < (l1.length : Int)) = true := decide_eq_true c6
       clear c6
       replace H := bem H
       obtain ⟨t218, A70, H⟩ := H
       replace H : (if t218 = true then (laws_eqStepS.l0 k1 l0 l1 (wrap64 (x5_1 + 1))) else (some false)) = some r := H
       have A7 := am A70
       clear A70
       by_cases c8 : t218 = true
       ·subst c8
        have H1 : (laws_eqStepS.l0 k1 l0 l1 (wrap64 (x5_1 + 1))) = some r := by rw [if_pos rfl] at H; exact H
        clear H
        have H := H1
        clear H1
        have H' := am H
        clear H
        try go_wp2
        have n0_ := am (below_drew1 HB.out)
        clear HB
        have HB := n0_
        clear n0_
        have p216 : 0 ≤ (x5_1 : Int) := of_decide_eq_true zq15
        have q216 : x5_1 < (l0.length : Int) := of_decide_eq_true zq15
        obtain ⟨ad216, e216, hx216_0, hx216_1, hx216_2⟩ := at_T72 HR0.out x5_1 p216 q216
        have hw216_2 := hx216_2
        have hw216_1 := hx216_1
        have hw216_0 := hx216_0
        cases e216
        replace hx216_0 := (HB.out.cell (World.block_lt_of_cell? w _ hx216_0)).trans hx216_0
        replace hx216_1 := (HB.out.cell (World.block_lt_of_cell? w _ hx216_1)).trans hx216_1
        replace hx216_2 := (HB.out.cell (World.block_lt_of_cell? w _ hx216_2)).trans hx216_2
        replace p216 := eq_true p216
        replace q216 := eq_true q216
        have p217 : 0 ≤ (x5_1 : Int) := of_decide_eq_true zq15
        have q217 : x5_1 < (l1.length : Int) := of_decide_eq_true zq15
        obtain ⟨ad217, e217, hx217_0, hx217_1, hx217_2⟩ := at_T72 HR1.out x5_1 p217 q217
        have hw217_2 := hx217_2
        have hw217_1 := hx217_1
        have hw217_0 := hx217_0
        cases e217
        replace hx217_0 := (HB.out.cell (World.block_lt_of_cell? w _ hx217_0)).trans hx217_0
        replace hx217_1 := (HB.out.cell (World.block_lt_of_cell? w _ hx217_1)).trans hx217_1
        replace hx217_2 := (HB.out.cell (World.block_lt_of_cell? w _ hx217_2)).trans hx217_2
        replace p217 := eq_true p217
        replace q217 := eq_true q217
        refine start_ (n := 10) (S := fun w' => w'.cell? (ad216.add ((x5_1).toNat * 3)) = some (.int .i64 ((rd_T72 l0 x5_1).f0)) ∧ w'.cell? ⟨(ad216.add ((x5_1).toNat * 3)).block, (ad216.add ((x5_1).toNat * 3)).off + 1, none⟩ = some (.int .i64 ((rd_T72 l0 x5_1).f1)) ∧ w'.cell? ⟨(ad216.add ((x5_1).toNat * 3)).block, (ad216.add ((x5_1).toNat * 3)).off + 2, none⟩ = some (.int .i64 ((rd_T72 l0 x5_1).f2)) ∧ w'.cell? (ad217.add ((x5_1).toNat * 3)) = some (.int .i64 ((rd_T72 l1 x5_1).f0)) ∧ w'.cell? ⟨(ad217.add ((x5_1).toNat * 3)).block, (ad217.add ((x5_1).toNat * 3)).off + 1, none⟩ = some (.int .i64 ((rd_T72 l1 x5_1).f1)) ∧ w'.cell? ⟨(ad217.add ((x5_1).toNat * 3)).block, (ad217.add ((x5_1).toNat * 3)).off + 2, none⟩ = some (.int .i64 ((rd_T72 l1 x5_1).f2))) (ds := []) #[false, false, false, false, false, false, false, false, false, false] zq17 rfl rfl ⟨((HB.out.cell (World.block_lt_of_cell? w _ hw216_0)).trans hw216_0), ((HB.out.cell (World.block_lt_of_cell? w _ hw216_1)).trans hw216_1), ((HB.out.cell (World.block_lt_of_cell? w _ hw216_2)).trans hw216_2), ((HB.out.cell (World.block_lt_of_cell? w _ hw217_0)).trans hw217_0), ((HB.out.cell (World.block_lt_of_cell? w _ hw217_1)).trans hw217_1), ((HB.out.cell (World.block_lt_of_cell? w _ hw217_2)).trans hw217_2)⟩ (fun hHeld => ?_); refine with_tabW laws_eqStepS.tab6 laws_eqStepS.bits6 (fun HT_ HW_ => ?_)
        generalize wr.drew = w9 at HB hx216_0 hx216_1 hx216_2 hx217_0 hx217_1 hx217_2 hHeld ⊢
        refine pure_ (i := 0) (N := some 17) (v := ?_) (a' := ?_) #[true, false, false, false, false, false, false, false, false, false] rfl rfl (any_of HT_.out zq17) (fun _ _ _ h => h) (Or.inl ⟨by rfl, ?_⟩) ?_ ?_
        rotate_left
        ·intro w'
         go_simp
         with_reducible rfl
        rotate_left
        ·simp only [Act.put, List.setIfInBounds_toArray, List.set_cons_zero, List.set_cons_succ, i64_w, i32_w]
         rfl
        refine pure_ (i := 1) (N := some 18) (v := ?_) (a' := ?_) #[true, true, false, false, false, false, false, false, false, false] rfl rfl (any_of HT_.out zq17) (fun _ _ _ h => h) (Or.inl ⟨by rfl, ?_⟩) ?_ ?_
        rotate_left
        ·intro w'
         go_simp
         with_reducible rfl
        rotate_left
        ·simp only [Act.put, List.setIfInBounds_toArray, List.set_cons_zero, List.set_cons_succ, i64_w, i32_w]
         rfl
        refine pure_ (i := 2) (N := some 19) (v := ?_) (a' := ?_) #[true, true, true, false, false, false, false, false, false, false] rfl rfl (any_of HT_.out zq17) (fun _ _ _ h => h) (Or.inl ⟨by rfl, ?_⟩) ?_ ?_
        rotate_left
        ·intro w'
         go_simp
         with_reducible rfl
        rotate_left
        ·simp only [Act.put, List.setIfInBounds_toArray, List.set_cons_zero, List.set_cons_succ, i64_w, i32_w]
         rfl
        refine pure_ (i := 4) (N := some 21) (v := ?_) (a' := ?_) #[true, true, true, false, true, false, false, false, false, false] rfl rfl (any_of HT_.out zq17) (fun _ _ _ h => h) (Or.inl ⟨by rfl, ?_⟩) ?_ ?_
        rotate_left
        ·intro w'
         go_simp
         with_reducible rfl
        rotate_left
        ·simp only [Act.put, List.setIfInBounds_toArray, List.set_cons_zero, List.set_cons_succ, i64_w, i32_w]
         rfl
        refine pure_ (i := 5) (N := some 22) (v := ?_) (a' := ?_) #[true, true, true, false, true, true, false, false, false, false] rfl rfl (any_of HT_.out zq17) (fun _ _ _ h => h) (Or.inl ⟨by rfl, ?_⟩) ?_ ?_
        rotate_left
        ·intro w'
         go_simp
         with_reducible rfl
        rotate_left
        ·simp only [Act.put, List.setIfInBounds_toArray, List.set_cons_zero, List.set_cons_succ, i64_w, i32_w]
         rfl
        refine pure_ (i := 6) (N := some 23) (v := ?_) (a' := ?_) #[true, true, true, false, true, true, true, false, false, false] rfl rfl (any_of HT_.out zq17) (fun _ _ _ h => h) (Or.inl ⟨by rfl, ?_⟩) ?_ ?_
        rotate_left
        ·intro w'
         go_simp
         with_reducible rfl
        rotate_left
        ·simp only [Act.put, List.setIfInBounds_toArray, List.set_cons_zero, List.set_cons_succ, i64_w, i32_w]
         rfl
        refine take_ (i := 3) (N := some 20) (v := ?_) (a' := ?_) #[true, true, true, true, true, true, true, false, false, false] rfl rfl (take_ofW HT_.out HW_.out zq17) (fun _ _ _ h => h) (Or.inl ⟨by rfl, ?_⟩) hHeld ?_ ?_
        rotate_left
        ·rintro w' ⟨s0, s1, s2, s3, s4, s5⟩
         go_simp
         with_reducible rfl
        rotate_left
        ·simp only [Act.put, List.setIfInBounds_toArray, List.set_cons_zero, List.set_cons_succ, i64_w, i32_w]
         rfl
        refine take_ (i := 7) (N := some 24) (v := ?_) (a' := ?_) #[true, true, true, true, true, true, true, true, false, false] rfl rfl (take_ofW HT_.out HW_.out zq17) (fun _ _ _ h => h) (Or.inl ⟨by rfl, ?_⟩) hHeld ?_ ?_
        rotate_left
        ·rintro w' ⟨s0, s1, s2, s3, s4, s5⟩
         go_simp
         with_reducible rfl
        rotate_left
        ·simp only [Act.put, List.setIfInBounds_toArray, List.set_cons_zero, List.set_cons_succ, i64_w, i32_w]
         rfl
        refine one_ (i := 8) (N := some 25) #[true, true, true, true, true, true, true, true, true, false] rfl rfl (one_of HT_.out zq17) zq107 (fun K hK => ?_)
        refine goes_ Try.func145 zq17 rfl #[.agg #[.int .i64 ((rd_T72 l0 x5_1).f0), .int .i64 ((rd_T72 l0 x5_1).f1), .int .i64 ((rd_T72 l0 x5_1).f2)], .agg #[.int .i64 ((rd_T72 l1 x5_1).f0), .int .i64 ((rd_T72 l1 x5_1).f1), .int .i64 ((rd_T72 l1 x5_1).f2)]] (by rfl) rfl rfl zq1 ?_
        with_reducible refine (laws_eqStep.calls ((rd_T72 l0 x5_1).f0) ((rd_T72 l0 x5_1).f1) ((rd_T72 l0 x5_1).f2) ((rd_T72 l1 x5_1).f0) ((rd_T72 l1 x5_1).f1) ((rd_T72 l1 x5_1).f2) true _ A7.out).mono ?_
        rintro e w10 ⟨rfl, hb⟩
        refine ⟨_, rfl, ?_⟩
        have n0_ := am (below_step zq0 hb)
        clear HB
        have HB := n0_
        clear n0_
        (try clear hb)
        (try clear hb2)
        (try clear hk)
        (try clear hi)
        refine hK.out _ _ ⟨((HB.out.cell (World.block_lt_of_cell? w _ hw216_0)).trans hw216_0), ((HB.out.cell (World.block_lt_of_cell? w _ hw216_1)).trans hw216_1), ((HB.out.cell (World.block_lt_of_cell? w _ hw216_2)).trans hw216_2), ((HB.out.cell (World.block_lt_of_cell? w _ hw217_0)).trans hw217_0), ((HB.out.cell (World.block_lt_of_cell? w _ hw217_1)).trans hw217_1), ((HB.out.cell (World.block_lt_of_cell? w _ hw217_2)).trans hw217_2)⟩ (fun hHeld => ?_)
        clear hK K
        refine norm_ (a' := ?_) ?_ ?_
        rotate_left
        ·show Act.put _ (some 25) _ = _
         simp only [Act.put, List.setIfInBounds_toArray, List.set_cons_zero, List.set_cons_succ, i64_w, i32_w]
         rfl
        refine pure_ (i := 9) (N := some 26) (v := ?_) (a' := ?_) #[true, true, true, true, true, true, true, true, true, true] rfl rfl (any_of HT_.out zq17) (fun _ _ _ h => h) (Or.inl ⟨by rfl, ?_⟩) ?_ ?_
        rotate_left
        ·intro w'
         go_simp
         with_reducible rfl
        rotate_left
        ·simp only [Act.put, List.setIfInBounds_toArray, List.set_cons_zero, List.set_cons_succ, i64_w, i32_w]
         rfl
        refine done_ (done_of HT_.out zq17) ?_
        try go_wp2
        go_roundg k1
        case measure => have := HK1.out; omega
        case rel => exact ⟨(wrap64 (x5_1 + 1)), zq3, H', ⟨zq108⟩, ⟨zq0⟩⟩
       ·replace c8 := Bool.eq_false_iff.mpr c8
        subst c8
        have H1 : (some false) = some r := by rw [if_neg (show ¬ (false = true) by decide)] at H; exact H
        clear H
        have H := H1
        clear H1
        obtain rfl := Option.some.inj H
        try go_wp2
        have n0_ := am (below_drew1 HB.out)
        clear HB
        have HB := n0_
        clear n0_
        have p216 : 0 ≤ (x5_1 : Int) := of_decide_eq_true zq15
        have q216 : x5_1 < (l0.length : Int) := of_decide_eq_true zq15
        obtain ⟨ad216, e216, hx216_0, hx216_1, hx216_2⟩ := at_T72 HR0.out x5_1 p216 q216
        have hw216_2 := hx216_2
        have hw216_1 := hx216_1
        have hw216_0 := hx216_0
        cases e216
        replace hx216_0 := (HB.out.cell (World.block_lt_of_cell? w _ hx216_0)).trans hx216_0
        replace hx216_1 := (HB.out.cell (World.block_lt_of_cell? w _ hx216_1)).trans hx216_1
        replace hx216_2 := (HB.out.cell (World.block_lt_of_cell? w _ hx216_2)).trans hx216_2
        replace p216 := eq_true p216
        replace q216 := eq_true q216
        have p217 : 0 ≤ (x5_1 : Int) := of_decide_eq_true zq15
        have q217 : x5_1 < (l1.length : Int) := of_decide_eq_true zq15
        obtain ⟨ad217, e217, hx217_0, hx217_1, hx217_2⟩ := at_T72 HR1.out x5_1 p217 q217
        have hw217_2 := hx217_2
        have hw217_1 := hx217_1
        have hw217_0 := hx217_0
        cases e217
        replace hx217_0 := (HB.out.cell (World.block_lt_of_cell? w _ hx217_0)).trans hx217_0
        replace hx217_1 := (HB.out.cell (World.block_lt_of_cell? w _ hx217_1)).trans hx217_1
        replace hx217_2 := (HB.out.cell (World.block_lt_of_cell? w _ hx217_2)).trans hx217_2
        replace p217 := eq_true p217
        replace q217 := eq_true q217
        refine start_ (n := 10) (S := fun w' => w'.cell? (ad216.add ((x5_1).toNat * 3)) = some (.int .i64 ((rd_T72 l0 x5_1).f0)) ∧ w'.cell? ⟨(ad216.add ((x5_1).toNat * 3)).block, (ad216.add ((x5_1).toNat * 3)).off + 1, none⟩ = some (.int .i64 ((rd_T72 l0 x5_1).f1)) ∧ w'.cell? ⟨(ad216.add ((x5_1).toNat * 3)).block, (ad216.add ((x5_1).toNat * 3)).off + 2, none⟩ = some (.int .i64 ((rd_T72 l0 x5_1).f2)) ∧ w'.cell? (ad217.add ((x5_1).toNat * 3)) = some (.int .i64 ((rd_T72 l1 x5_1).f0)) ∧ w'.cell? ⟨(ad217.add ((x5_1).toNat * 3)).block, (ad217.add ((x5_1).toNat * 3)).off + 1, none⟩ = some (.int .i64 ((rd_T72 l1 x5_1).f1)) ∧ w'.cell? ⟨(ad217.add ((x5_1).toNat * 3)).block, (ad217.add ((x5_1).toNat * 3)).off + 2, none⟩ = some (.int .i64 ((rd_T72 l1 x5_1).f2))) (ds := []) #[false, false, false, false, false, false, false, false, false, false] zq17 rfl rfl ⟨((HB.out.cell (World.block_lt_of_cell? w _ hw216_0)).trans hw216_0), ((HB.out.cell (World.block_lt_of_cell? w _ hw216_1)).trans hw216_1), ((HB.out.cell (World.block_lt_of_cell? w _ hw216_2)).trans hw216_2), ((HB.out.cell (World.block_lt_of_cell? w _ hw217_0)).trans hw217_0), ((HB.out.cell (World.block_lt_of_cell? w _ hw217_1)).trans hw217_1), ((HB.out.cell (World.block_lt_of_cell? w _ hw217_2)).trans hw217_2)⟩ (fun hHeld => ?_); refine with_tabW laws_eqStepS.tab6 laws_eqStepS.bits6 (fun HT_ HW_ => ?_)
        generalize wr.drew = w11 at HB hx216_0 hx216_1 hx216_2 hx217_0 hx217_1 hx217_2 hHeld ⊢
        refine pure_ (i := 0) (N := some 17) (v := ?_) (a' := ?_) #[true, false, false, false, false, false, false, false, false, false] rfl rfl (any_of HT_.out zq17) (fun _ _ _ h => h) (Or.inl ⟨by rfl, ?_⟩) ?_ ?_
        rotate_left
        ·intro w'
         go_simp
         with_reducible rfl
        rotate_left
        ·simp only [Act.put, List.setIfInBounds_toArray, List.set_cons_zero, List.set_cons_succ, i64_w, i32_w]
         rfl
        refine pure_ (i := 1) (N := some 18) (v := ?_) (a' := ?_) #[true, true, false, false, false, false, false, false, false, false] rfl rfl (any_of HT_.out zq17) (fun _ _ _ h => h) (Or.inl ⟨by rfl, ?_⟩) ?_ ?_
        rotate_left
        ·intro w'
         go_simp
         with_reducible rfl
        rotate_left
        ·simp only [Act.put, List.setIfInBounds_toArray, List.set_cons_zero, List.set_cons_succ, i64_w, i32_w]
         rfl
        refine pure_ (i := 2) (N := some 19) (v := ?_) (a' := ?_) #[true, true, true, false, false, false, false, false, false, false] rfl rfl (any_of HT_.out zq17) (fun _ _ _ h => h) (Or.inl ⟨by rfl, ?_⟩) ?_ ?_
        rotate_left
        ·intro w'
         go_simp
         with_reducible rfl
        rotate_left
        ·simp only [Act.put, List.setIfInBounds_toArray, List.set_cons_zero, List.set_cons_succ, i64_w, i32_w]
         rfl
        refine pure_ (i := 4) (N := some 21) (v := ?_) (a' := ?_) #[true, true, true, false, true, false, false, false, false, false] rfl rfl (any_of HT_.out zq17) (fun _ _ _ h => h) (Or.inl ⟨by rfl, ?_⟩) ?_ ?_
        rotate_left
        ·intro w'
         go_simp
         with_reducible rfl
        rotate_left
        ·simp only [Act.put, List.setIfInBounds_toArray, List.set_cons_zero, List.set_cons_succ, i64_w, i32_w]
         rfl
        refine pure_ (i := 5) (N := some 22) (v := ?_) (a' := ?_) #[true, true, true, false, true, true, false, false, false, false] rfl rfl (any_of HT_.out zq17) (fun _ _ _ h => h) (Or.inl ⟨by rfl, ?_⟩) ?_ ?_
        rotate_left
        ·intro w'
         go_simp
         with_reducible rfl
        rotate_left
        ·simp only [Act.put, List.setIfInBounds_toArray, List.set_cons_zero, List.set_cons_succ, i64_w, i32_w]
         rfl
        refine pure_ (i := 6) (N := some 23) (v := ?_) (a' := ?_) #[true, true, true, false, true, true, true, false, false, false] rfl rfl (any_of HT_.out zq17) (fun _ _ _ h => h) (Or.inl ⟨by rfl, ?_⟩) ?_ ?_
        rotate_left
        ·intro w'
         go_simp
         with_reducible rfl
        rotate_left
        ·simp only [Act.put, List.setIfInBounds_toArray, List.set_cons_zero, List.set_cons_succ, i64_w, i32_w]
         rfl
        refine take_ (i := 3) (N := some 20) (v := ?_) (a' := ?_) #[true, true, true, true, true, true, true, false, false, false] rfl rfl (take_ofW HT_.out HW_.out zq17) (fun _ _ _ h => h) (Or.inl ⟨by rfl, ?_⟩) hHeld ?_ ?_
        rotate_left
        ·rintro w' ⟨s0, s1, s2, s3, s4, s5⟩
         go_simp
         with_reducible rfl
        rotate_left
        ·simp only [Act.put, List.setIfInBounds_toArray, List.set_cons_zero, List.set_cons_succ, i64_w, i32_w]
         rfl
        refine take_ (i := 7) (N := some 24) (v := ?_) (a' := ?_) #[true, true, true, true, true, true, true, true, false, false] rfl rfl (take_ofW HT_.out HW_.out zq17) (fun _ _ _ h => h) (Or.inl ⟨by rfl, ?_⟩) hHeld ?_ ?_
        rotate_left
        ·rintro w' ⟨s0, s1, s2, s3, s4, s5⟩
         go_simp
         with_reducible rfl
        rotate_left
        ·simp only [Act.put, List.setIfInBounds_toArray, List.set_cons_zero, List.set_cons_succ, i64_w, i32_w]
         rfl
        refine one_ (i := 8) (N := some 25) #[true, true, true, true, true, true, true, true, true, false] rfl rfl (one_of HT_.out zq17) zq107 (fun K hK => ?_)
        refine goes_ Try.func145 zq17 rfl #[.agg #[.int .i64 ((rd_T72 l0 x5_1).f0), .int .i64 ((rd_T72 l0 x5_1).f1), .int .i64 ((rd_T72 l0 x5_1).f2)], .agg #[.int .i64 ((rd_T72 l1 x5_1).f0), .int .i64 ((rd_T72 l1 x5_1).f1), .int .i64 ((rd_T72 l1 x5_1).f2)]] (by rfl) rfl rfl zq1 ?_
        with_reducible refine (laws_eqStep.calls ((rd_T72 l0 x5_1).f0) ((rd_T72 l0 x5_1).f1) ((rd_T72 l0 x5_1).f2) ((rd_T72 l1 x5_1).f0) ((rd_T72 l1 x5_1).f1) ((rd_T72 l1 x5_1).f2) false _ A7.out).mono ?_
        rintro e w12 ⟨rfl, hb⟩
        refine ⟨_, rfl, ?_⟩
        have n0_ := am (below_step zq0 hb)
        clear HB
        have HB := n0_
        clear n0_
        (try clear hb)
        (try clear hb2)
        (try clear hk)
        (try clear hi)
        refine hK.out _ _ ⟨((HB.out.cell (World.block_lt_of_cell? w _ hw216_0)).trans hw216_0), ((HB.out.cell (World.block_lt_of_cell? w _ hw216_1)).trans hw216_1), ((HB.out.cell (World.block_lt_of_cell? w _ hw216_2)).trans hw216_2), ((HB.out.cell (World.block_lt_of_cell? w _ hw217_0)).trans hw217_0), ((HB.out.cell (World.block_lt_of_cell? w _ hw217_1)).trans hw217_1), ((HB.out.cell (World.block_lt_of_cell? w _ hw217_2)).trans hw217_2)⟩ (fun hHeld => ?_)
        clear hK K
        refine norm_ (a' := ?_) ?_ ?_
        rotate_left
        ·show Act.put _ (some 25) _ = _
         simp only [Act.put, List.setIfInBounds_toArray, List.set_cons_zero, List.set_cons_succ, i64_w, i32_w]
         rfl
        refine pure_ (i := 9) (N := some 26) (v := ?_) (a' := ?_) #[true, true, true, true, true, true, true, true, true, true] rfl rfl (any_of HT_.out zq17) (fun _ _ _ h => h) (Or.inl ⟨by rfl, ?_⟩) ?_ ?_
        rotate_left
        ·intro w'
         go_simp
         with_reducible rfl
        rotate_left
        ·simp only [Act.put, List.setIfInBounds_toArray, List.set_cons_zero, List.set_cons_succ, i64_w, i32_w]
         rfl
        refine done_ (done_of HT_.out zq17) ?_
        try go_wp2
        go_ret
        exact ⟨zq8, zq0⟩
      ·rw [if_neg c6] at H
       exact absurd H (by simp)
     ·rw [if_neg c5] at H
      exact absurd H (by simp)
    ·rw [if_neg c4] at H
     have c4b0 : decide (x5_1 < (l0.length : Int)) = false := decide_eq_false c4
     clear c4
     obtain rfl := Option.some.inj H
     go_wp2
     go_ret
     exact ⟨zq8, zq0⟩
 ·rw [if_neg c3] at H
  have c3b0 : ((l0.length : Int) == (l1.length : Int)) = false := beq_eq_false_iff_ne.mpr c3
  have c3b1 : ((l0.length : Int) != (l1.length : Int)) = true := bne_iff_ne.mpr c3
  have c3b2 : (l0.length == l1.length) = false := by first | simpa using c3 | (simp at c3 ⊢; omega)
  obtain rfl := Option.some.inj H
  go_enter Try.func116, Try.ntmps116
  go_wp2
  go_ret
  exact ⟨zq8, zq0⟩
def laws_eqStepSS.l0 : Nat → List (List (S72)) → List (List (S72)) → Int → Option (Bool)
 | 0, _, _, _ => none
 | k + 1, x0, x1, x5 => if x5 < (x0.length : Int) then (if 0 ≤ x5 then (if x5 < (x1.length : Int) then ((laws_eqStepS.f k (rd_L4 x0 x5) (rd_L4 x1 x5)).bind fun t221 => (if t221 = true then (laws_eqStepSS.l0 k x0 x1 (wrap64 (x5 + 1))) else (some false))) else (none)) else (none)) else (some true)
def laws_eqStepSS.f (k : Nat) (l0 : List (List (S72))) (l1 : List (List (S72))) : Option (Bool) := if (l0.length : Int) = (l1.length : Int) then (laws_eqStepSS.l0 k l0 l1 0) else (some false)
def laws_eqStepSS.T6 : Bool × List (List Nat × List Nat) := (true, [([], []), ([], []), ([0, 1], [0, 1]), ([2], [2]), ([], []), ([], []), ([4, 5], [4, 5]), ([6], [6]), ([3, 7], [3, 7]), ([8], [8])])
def laws_eqStepSS.B6 : List Nat := [0, 0, 3, 7, 0, 0, 48, 112, 255, 511]
theorem laws_eqStepSS.tab6 : rtab .any (opsOf Try.f72 6) = laws_eqStepSS.T6 := by kernel_rfl
theorem laws_eqStepSS.bits6 : waitsOk laws_eqStepSS.T6.2 laws_eqStepSS.B6 = true := by kernel_rfl
set_option maxHeartbeats 8000000 in
set_option maxRecDepth 100000 in
theorem laws_eqStepSS.calls (k : Nat) (A0 : Option Addr) (c0 : Nat) (l0 : List (List (S72))) (A1 : Option Addr) (c1 : Nat) (l1 : List (List (S72))) (r : Bool) (w : World) (hr0 : Kd.C (Kd.slice 72 k72) w A0 l0.length l0) (hc0 : l0.length ≤ c0) (hr1 : Kd.C (Kd.slice 72 k72) w A1 l1.length l1) (hc1 : l1.length ≤ c1) (h : laws_eqStepSS.f k l0 l1 = some r) :
  Calls Try.prog 72 #[.slice A0 l0.length c0, .slice A1 l1.length c1] w fun e w' => e = .returned (.bool r) ∧ Below w.heap.size w w' := by
 have HR0 := am hr0
 have HC0 := am hc0
 clear hr0 hc0
 have HR1 := am hr1
 have HC1 := am hc1
 clear hr1 hc1
 have HB := am (Below.refl w.heap.size w)
 have H : (if (l0.length : Int) = (l1.length : Int) then (laws_eqStepSS.l0 k l0 l1 0) else (some false)) = some r := h
 clear h
 by_cases c3 : (l0.length : Int) = (l1.length : Int)
 ·rw [if_pos c3] at H
  have c3b0 : ((l0.length : Int) == (l1.length : Int)) = true := beq_iff_eq.mpr c3
  have c3b1 : ((l0.length : Int) != (l1.length : Int)) = false := bne_eq_false_iff_eq.mpr c3
  have c3b2 : (l0.length == l1.length) = true := by first | simpa using c3 | (simp at c3 ⊢; omega)
  clear c3
  have H' := am H
  clear H
  go_enter Try.func72, Try.ntmps72
  go_wp2
  go_loopg [5] k (fun kq v5 w' => ∃ (x5_1 : Int), v5 = .int .i64 x5_1 ∧ Aside0 (laws_eqStepSS.l0 kq l0 l1 x5_1 = some r) ∧ Aside0 (kq ≤ k) ∧ Aside0 (Below w.heap.size w w'))
  case atStart => exact ⟨(0), zq3, H', ⟨Nat.le_refl _⟩, ⟨zq0⟩⟩
  case round =>
   clear H'
   try clear c1
   try clear p2
   try clear c3
   try clear c3b0
   try clear c3b1
   try clear c3b2
   obtain ⟨x5_1, rfl, HA, HK1, HB⟩ := hrel
   cases gk with
   | zero => exact absurd HA.out (by simp [laws_eqStepSS.l0])
   | succ k1 =>
    have H := HA.out
    clear HA
    simp only [laws_eqStepSS.l0] at H
    by_cases c4 : x5_1 < (l0.length : Int)
    ·rw [if_pos c4] at H
     have c4b0 : decide (x5_1 < (l0.length : Int)) = true := decide_eq_true c4
     clear c4
     by_cases c5 : 0 ≤ x5_1
     ·rw [if_pos c5] at H
      have c5b0 : decide (0 ≤ x5_1) = true := decide_eq_true c5
      clear c5
      by_cases c6 : x5_1 < (l1.length : Int)
      ·rw [if_pos c6] at H
       have c6b0 : decide (x5_1 < (l1.length : Int)) = true := decide_eq_true c6
       clear c6
       replace H := bem H
       obtain ⟨t221, A70, H⟩ := H
       replace H : (if t221 = true then (laws_eqStepSS.l0 k1 l0 l1 (wrap64 (x5_1 + 1))) else (some false)) = some r := H
       have A7 := am A70
       clear A70
       by_cases c8 : t221 = true
       ·subst c8
        have H1 : (laws_eqStepSS.l0 k1 l0 l1 (wrap64 (x5_1 + 1))) = some r := by rw [if_pos rfl] at H; exact H
        clear H
        have H := H1
        clear H1
        have H' := am H
        clear H
        try go_wp2
        have n0_ := am (below_drew1 HB.out)
        clear HB
        have HB := n0_
        clear n0_
        have p219 : 0 ≤ (x5_1 : Int) := of_decide_eq_true zq15
        have q219 : x5_1 < (l0.length : Int) := of_decide_eq_true zq15
        obtain ⟨ad219, A219_0, c219_0, e219, hx219_0, hl219_0, hi219_0⟩ := at_L4 HR0.out x5_1 p219 q219
        have hw219_0 := hx219_0
        cases e219
        replace hx219_0 := (HB.out.cell (World.block_lt_of_cell? w _ hx219_0)).trans hx219_0
        have HR219_0 := am hi219_0
        have HC219_0 := am hl219_0
        clear hi219_0 hl219_0
        replace p219 := eq_true p219
        replace q219 := eq_true q219
        have p220 : 0 ≤ (x5_1 : Int) := of_decide_eq_true zq15
        have q220 : x5_1 < (l1.length : Int) := of_decide_eq_true zq15
        obtain ⟨ad220, A220_0, c220_0, e220, hx220_0, hl220_0, hi220_0⟩ := at_L4 HR1.out x5_1 p220 q220
        have hw220_0 := hx220_0
        cases e220
        replace hx220_0 := (HB.out.cell (World.block_lt_of_cell? w _ hx220_0)).trans hx220_0
        have HR220_0 := am hi220_0
        have HC220_0 := am hl220_0
        clear hi220_0 hl220_0
        replace p220 := eq_true p220
        replace q220 := eq_true q220
        refine start_ (n := 10) (S := fun w' => w'.cell? (ad219.add (x5_1).toNat) = some (.slice A219_0 (rd_L4 l0 x5_1).length c219_0) ∧ w'.cell? (ad220.add (x5_1).toNat) = some (.slice A220_0 (rd_L4 l1 x5_1).length c220_0)) (ds := []) #[false, false, false, false, false, false, false, false, false, false] zq17 rfl rfl ⟨((HB.out.cell (World.block_lt_of_cell? w _ hw219_0)).trans hw219_0), ((HB.out.cell (World.block_lt_of_cell? w _ hw220_0)).trans hw220_0)⟩ (fun hHeld => ?_); refine with_tabW laws_eqStepSS.tab6 laws_eqStepSS.bits6 (fun HT_ HW_ => ?_)
        generalize wr.drew = w9 at HB HR219_0 HR220_0 hx219_0 hx220_0 hHeld ⊢
        refine pure_ (i := 0) (N := some 17) (v := ?_) (a' := ?_) #[true, false, false, false, false, false, false, false, false, false] rfl rfl (any_of HT_.out zq17) (fun _ _ _ h => h) (Or.inl ⟨by rfl, ?_⟩) ?_ ?_
        rotate_left
        ·intro w'
         go_simp
         with_reducible rfl
        rotate_left
        ·simp only [Act.put, List.setIfInBounds_toArray, List.set_cons_zero, List.set_cons_succ, i64_w, i32_w]
         rfl
        refine pure_ (i := 1) (N := some 18) (v := ?_) (a' := ?_) #[true, true, false, false, false, false, false, false, false, false] rfl rfl (any_of HT_.out zq17) (fun _ _ _ h => h) (Or.inl ⟨by rfl, ?_⟩) ?_ ?_
        rotate_left
        ·intro w'
         go_simp
         with_reducible rfl
        rotate_left
        ·simp only [Act.put, List.setIfInBounds_toArray, List.set_cons_zero, List.set_cons_succ, i64_w, i32_w]
         rfl
        refine pure_ (i := 2) (N := some 19) (v := ?_) (a' := ?_) #[true, true, true, false, false, false, false, false, false, false] rfl rfl (any_of HT_.out zq17) (fun _ _ _ h => h) (Or.inl ⟨by rfl, ?_⟩) ?_ ?_
        rotate_left
        ·intro w'
         go_simp
         with_reducible rfl
        rotate_left
        ·simp only [Act.put, List.setIfInBounds_toArray, List.set_cons_zero, List.set_cons_succ, i64_w, i32_w]
         rfl
        refine pure_ (i := 4) (N := some 21) (v := ?_) (a' := ?_) #[true, true, true, false, true, false, false, false, false, false] rfl rfl (any_of HT_.out zq17) (fun _ _ _ h => h) (Or.inl ⟨by rfl, ?_⟩) ?_ ?_
        rotate_left
        ·intro w'
         go_simp
         with_reducible rfl
        rotate_left
        ·simp only [Act.put, List.setIfInBounds_toArray, List.set_cons_zero, List.set_cons_succ, i64_w, i32_w]
         rfl
        refine pure_ (i := 5) (N := some 22) (v := ?_) (a' := ?_) #[true, true, true, false, true, true, false, false, false, false] rfl rfl (any_of HT_.out zq17) (fun _ _ _ h => h) (Or.inl ⟨by rfl, ?_⟩) ?_ ?_
        rotate_left
        ·intro w'
         go_simp
         with_reducible rfl
        rotate_left
        ·simp only [Act.put, List.setIfInBounds_toArray, List.set_cons_zero, List.set_cons_succ, i64_w, i32_w]
         rfl
        refine pure_ (i := 6) (N := some 23) (v := ?_) (a' := ?_) #[true, true, true, false, true, true, true, false, false, false] rfl rfl (any_of HT_.out zq17) (fun _ _ _ h => h) (Or.inl ⟨by rfl, ?_⟩) ?_ ?_
        rotate_left
        ·intro w'
         go_simp
         with_reducible rfl
        rotate_left
        ·simp only [Act.put, List.setIfInBounds_toArray, List.set_cons_zero, List.set_cons_succ, i64_w, i32_w]
         rfl
        refine take_ (i := 3) (N := some 20) (v := ?_) (a' := ?_) #[true, true, true, true, true, true, true, false, false, false] rfl rfl (take_ofW HT_.out HW_.out zq17) (fun _ _ _ h => h) (Or.inl ⟨by rfl, ?_⟩) hHeld ?_ ?_
        rotate_left
        ·rintro w' ⟨s0, s1⟩
         go_simp
         with_reducible rfl
        rotate_left
        ·simp only [Act.put, List.setIfInBounds_toArray, List.set_cons_zero, List.set_cons_succ, i64_w, i32_w]
         rfl
        refine take_ (i := 7) (N := some 24) (v := ?_) (a' := ?_) #[true, true, true, true, true, true, true, true, false, false] rfl rfl (take_ofW HT_.out HW_.out zq17) (fun _ _ _ h => h) (Or.inl ⟨by rfl, ?_⟩) hHeld ?_ ?_
        rotate_left
        ·rintro w' ⟨s0, s1⟩
         go_simp
         with_reducible rfl
        rotate_left
        ·simp only [Act.put, List.setIfInBounds_toArray, List.set_cons_zero, List.set_cons_succ, i64_w, i32_w]
         rfl
        refine one_ (i := 8) (N := some 25) #[true, true, true, true, true, true, true, true, true, false] rfl rfl (one_of HT_.out zq17) zq107 (fun K hK => ?_)
        refine goes_ Try.func116 zq17 rfl #[.slice A219_0 (rd_L4 l0 x5_1).length c219_0, .slice A220_0 (rd_L4 l1 x5_1).length c220_0] (by rfl) rfl rfl zq1 ?_
        with_reducible refine (laws_eqStepS.calls k1 _ _ (rd_L4 l0 x5_1) _ _ (rd_L4 l1 x5_1) true _ ?side1 ?side2 ?side3 ?side4 A7.out).mono ?_
        (case side1 => repeat (first | exact (Kd.C_below HR219_0.out HB.out) | (with_reducible refine Kd.C_alloc ?_ _) | (with_reducible refine Kd.C_drewN ?_ _) | (with_reducible refine Kd.C_drew ?_)))
        (case side2 => exact HC219_0.out)
        (case side3 => repeat (first | exact (Kd.C_below HR220_0.out HB.out) | (with_reducible refine Kd.C_alloc ?_ _) | (with_reducible refine Kd.C_drewN ?_ _) | (with_reducible refine Kd.C_drew ?_)))
        (case side4 => exact HC220_0.out)
        rintro e w10 ⟨rfl, hb⟩
        refine ⟨_, rfl, ?_⟩
        have n0_ := am (below_step zq0 hb)
        clear HB
        have HB := n0_
        clear n0_
        (try clear hb)
        (try clear hb2)
        (try clear hk)
        (try clear hi)
        refine hK.out _ _ ⟨((HB.out.cell (World.block_lt_of_cell? w _ hw219_0)).trans hw219_0), ((HB.out.cell (World.block_lt_of_cell? w _ hw220_0)).trans hw220_0)⟩ (fun hHeld => ?_)
        clear hK K
        refine norm_ (a' := ?_) ?_ ?_
        rotate_left
        ·show Act.put _ (some 25) _ = _
         simp only [Act.put, List.setIfInBounds_toArray, List.set_cons_zero, List.set_cons_succ, i64_w, i32_w]
         rfl
        refine pure_ (i := 9) (N := some 26) (v := ?_) (a' := ?_) #[true, true, true, true, true, true, true, true, true, true] rfl rfl (any_of HT_.out zq17) (fun _ _ _ h => h) (Or.inl ⟨by rfl, ?_⟩) ?_ ?_
        rotate_left
        ·intro w'
         go_simp
         with_reducible rfl
        rotate_left
        ·simp only [Act.put, List.setIfInBounds_toArray, List.set_cons_zero, List.set_cons_succ, i64_w, i32_w]
         rfl
        refine done_ (done_of HT_.out zq17) ?_
        try go_wp2
        go_roundg k1
        case measure => have := HK1.out; omega
        case rel => exact ⟨(wrap64 (x5_1 + 1)), zq3, H', ⟨zq108⟩, ⟨zq0⟩⟩
       ·replace c8 := Bool.eq_false_iff.mpr c8
        subst c8
        have H1 : (some false) = some r := by rw [if_neg (show ¬ (false = true) by decide)] at H; exact H
        clear H
        have H := H1
        clear H1
        obtain rfl := Option.some.inj H
        try go_wp2
        have n0_ := am (below_drew1 HB.out)
        clear HB
        have HB := n0_
        clear n0_
        have p219 : 0 ≤ (x5_1 : Int) := of_decide_eq_true zq15
        have q219 : x5_1 < (l0.length : Int) := of_decide_eq_true zq15
        obtain ⟨ad219, A219_0, c219_0, e219, hx219_0, hl219_0, hi219_0⟩ := at_L4 HR0.out x5_1 p219 q219
        have hw219_0 := hx219_0
        cases e219
        replace hx219_0 := (HB.out.cell (World.block_lt_of_cell? w _ hx219_0)).trans hx219_0
        have HR219_0 := am hi219_0
        have HC219_0 := am hl219_0
        clear hi219_0 hl219_0
        replace p219 := eq_true p219
        replace q219 := eq_true q219
        have p220 : 0 ≤ (x5_1 : Int) := of_decide_eq_true zq15
        have q220 : x5_1 < (l1.length : Int) := of_decide_eq_true zq15
        obtain ⟨ad220, A220_0, c220_0, e220, hx220_0, hl220_0, hi220_0⟩ := at_L4 HR1.out x5_1 p220 q220
        have hw220_0 := hx220_0
        cases e220
        replace hx220_0 := (HB.out.cell (World.block_lt_of_cell? w _ hx220_0)).trans hx220_0
        have HR220_0 := am hi220_0
        have HC220_0 := am hl220_0
        clear hi220_0 hl220_0
        replace p220 := eq_true p220
        replace q220 := eq_true q220
        refine start_ (n := 10) (S := fun w' => w'.cell? (ad219.add (x5_1).toNat) = some (.slice A219_0 (rd_L4 l0 x5_1).length c219_0) ∧ w'.cell? (ad220.add (x5_1).toNat) = some (.slice A220_0 (rd_L4 l1 x5_1).length c220_0)) (ds := []) #[false, false, false, false, false, false, false, false, false, false] zq17 rfl rfl ⟨((HB.out.cell (World.block_lt_of_cell? w _ hw219_0)).trans hw219_0), ((HB.out.cell (World.block_lt_of_cell? w _ hw220_0)).trans hw220_0)⟩ (fun hHeld => ?_); refine with_tabW laws_eqStepSS.tab6 laws_eqStepSS.bits6 (fun HT_ HW_ => ?_)
        generalize wr.drew = w11 at HB HR219_0 HR220_0 hx219_0 hx220_0 hHeld ⊢
        refine pure_ (i := 0) (N := some 17) (v := ?_) (a' := ?_) #[true, false, false, false, false, false, false, false, false, false] rfl rfl (any_of HT_.out zq17) (fun _ _ _ h => h) (Or.inl ⟨by rfl, ?_⟩) ?_ ?_
        rotate_left
        ·intro w'
         go_simp
         with_reducible rfl
        rotate_left
        ·simp only [Act.put, List.setIfInBounds_toArray, List.set_cons_zero, List.set_cons_succ, i64_w, i32_w]
         rfl
        refine pure_ (i := 1) (N := some 18) (v := ?_) (a' := ?_) #[true, true, false, false, false, false, false, false, false, false] rfl rfl (any_of HT_.out zq17) (fun _ _ _ h => h) (Or.inl ⟨by rfl, ?_⟩) ?_ ?_
        rotate_left
        ·intro w'
         go_simp
         with_reducible rfl
        rotate_left
        ·simp only [Act.put, List.setIfInBounds_toArray, List.set_cons_zero, List.set_cons_succ, i64_w, i32_w]
         rfl
        refine pure_ (i := 2) (N := some 19) (v := ?_) (a' := ?_) #[true, true, true, false, false, false, false, false, false, false] rfl rfl (any_of HT_.out zq17) (fun _ _ _ h => h) (Or.inl ⟨by rfl, ?_⟩) ?_ ?_
        rotate_left
        ·intro w'
         go_simp
         with_reducible rfl
        rotate_left
        ·simp only [Act.put, List.setIfInBounds_toArray, List.set_cons_zero, List.set_cons_succ, i64_w, i32_w]
         rfl
        refine pure_ (i := 4) (N := some 21) (v := ?_) (a' := ?_) #[true, true, true, false, true, false, false, false, false, false] rfl rfl (any_of HT_.out zq17) (fun _ _ _ h => h) (Or.inl ⟨by rfl, ?_⟩) ?_ ?_
        rotate_left
        ·intro w'
         go_simp
         with_reducible rfl
        rotate_left
        ·simp only [Act.put, List.setIfInBounds_toArray, List.set_cons_zero, List.set_cons_succ, i64_w, i32_w]
         rfl
        refine pure_ (i := 5) (N := some 22) (v := ?_) (a' := ?_) #[true, true, true, false, true, true, false, false, false, false] rfl rfl (any_of HT_.out zq17) (fun _ _ _ h => h) (Or.inl ⟨by rfl, ?_⟩) ?_ ?_
        rotate_left
        ·intro w'
         go_simp
         with_reducible rfl
        rotate_left
        ·simp only [Act.put, List.setIfInBounds_toArray, List.set_cons_zero, List.set_cons_succ, i64_w, i32_w]
         rfl
        refine pure_ (i := 6) (N := some 23) (v := ?_) (a' := ?_) #[true, true, true, false, true, true, true, false, false, false] rfl rfl (any_of HT_.out zq17) (fun _ _ _ h => h) (Or.inl ⟨by rfl, ?_⟩) ?_ ?_
        rotate_left
        ·intro w'
         go_simp
         with_reducible rfl
        rotate_left
        ·simp only [Act.put, List.setIfInBounds_toArray, List.set_cons_zero, List.set_cons_succ, i64_w, i32_w]
         rfl
        refine take_ (i := 3) (N := some 20) (v := ?_) (a' := ?_) #[true, true, true, true, true, true, true, false, false, false] rfl rfl (take_ofW HT_.out HW_.out zq17) (fun _ _ _ h => h) (Or.inl ⟨by rfl, ?_⟩) hHeld ?_ ?_
        rotate_left
        ·rintro w' ⟨s0, s1⟩
         go_simp
         with_reducible rfl
        rotate_left
        ·simp only [Act.put, List.setIfInBounds_toArray, List.set_cons_zero, List.set_cons_succ, i64_w, i32_w]
         rfl
        refine take_ (i := 7) (N := some 24) (v := ?_) (a' := ?_) #[true, true, true, true, true, true, true, true, false, false] rfl rfl (take_ofW HT_.out HW_.out zq17) (fun _ _ _ h => h) (Or.inl ⟨by rfl, ?_⟩) hHeld ?_ ?_
        rotate_left
        ·rintro w' ⟨s0, s1⟩
         go_simp
         with_reducible rfl
        rotate_left
        ·simp only [Act.put, List.setIfInBounds_toArray, List.set_cons_zero, List.set_cons_succ, i64_w, i32_w]
         rfl
        refine one_ (i := 8) (N := some 25) #[true, true, true, true, true, true, true, true, true, false] rfl rfl (one_of HT_.out zq17) zq107 (fun K hK => ?_)
        refine goes_ Try.func116 zq17 rfl #[.slice A219_0 (rd_L4 l0 x5_1).length c219_0, .slice A220_0 (rd_L4 l1 x5_1).length c220_0] (by rfl) rfl rfl zq1 ?_
        with_reducible refine (laws_eqStepS.calls k1 _ _ (rd_L4 l0 x5_1) _ _ (rd_L4 l1 x5_1) false _ ?side1 ?side2 ?side3 ?side4 A7.out).mono ?_
        (case side1 => repeat (first | exact (Kd.C_below HR219_0.out HB.out) | (with_reducible refine Kd.C_alloc ?_ _) | (with_reducible refine Kd.C_drewN ?_ _) | (with_reducible refine Kd.C_drew ?_)))
        (case side2 => exact HC219_0.out)
        (case side3 => repeat (first | exact (Kd.C_below HR220_0.out HB.out) | (with_reducible refine Kd.C_alloc ?_ _) | (with_reducible refine Kd.C_drewN ?_ _) | (with_reducible refine Kd.C_drew ?_)))
        (case side4 => exact HC220_0.out)
        rintro e w12 ⟨rfl, hb⟩
        refine ⟨_, rfl, ?_⟩
        have n0_ := am (below_step zq0 hb)
        clear HB
        have HB := n0_
        clear n0_
        (try clear hb)
        (try clear hb2)
        (try clear hk)
        (try clear hi)
        refine hK.out _ _ ⟨((HB.out.cell (World.block_lt_of_cell? w _ hw219_0)).trans hw219_0), ((HB.out.cell (World.block_lt_of_cell? w _ hw220_0)).trans hw220_0)⟩ (fun hHeld => ?_)
        clear hK K
        refine norm_ (a' := ?_) ?_ ?_
        rotate_left
        ·show Act.put _ (some 25) _ = _
         simp only [Act.put, List.setIfInBounds_toArray, List.set_cons_zero, List.set_cons_succ, i64_w, i32_w]
         rfl
        refine pure_ (i := 9) (N := some 26) (v := ?_) (a' := ?_) #[true, true, true, true, true, true, true, true, true, true] rfl rfl (any_of HT_.out zq17) (fun _ _ _ h => h) (Or.inl ⟨by rfl, ?_⟩) ?_ ?_
        rotate_left
        ·intro w'
         go_simp
         with_reducible rfl
        rotate_left
        ·simp only [Act.put, List.setIfInBounds_toArray, List.set_cons_zero, List.set_cons_succ, i64_w, i32_w]
         rfl
        refine done_ (done_of HT_.out zq17) ?_
        try go_wp2
        go_ret
        exact ⟨zq8, zq0⟩
      ·rw [if_neg c6] at H
       exact absurd H (by simp)
     ·rw [if_neg c5] at H
      exact absurd H (by simp)
    ·rw [if_neg c4] at H
     have c4b0 : decide (x5_1 < (l0.length : Int)) = false := decide_eq_false c4
     clear c4
     obtain rfl := Option.some.inj H
     go_wp2
     go_ret
     exact ⟨zq8, zq0⟩
 ·rw [if_neg c3] at H
  have c3b0 : ((l0.length : Int) == (l1.length : Int)) = false := beq_eq_false_iff_ne.mpr c3
  have c3b1 : ((l0.length : Int) != (l1.length : Int)) = true := bne_iff_ne.mpr c3
  have c3b2 : (l0.length == l1.length) = false := by first | simpa using c3 | (simp at c3 ⊢; omega)
  obtain rfl := Option.some.inj H
  go_enter Try.func72, Try.ntmps72
  go_wp2
  go_ret
  exact ⟨zq8, zq0⟩
def laws_eqProgram.f (k : Nat) (l0_0 : List (List (S72))) (l1_0 : List (List (S72))) : Option (Bool) := (laws_eqStepSS.f k l0_0 l1_0).bind fun t224 => (if t224 = true then (some true) else (some false))
set_option maxHeartbeats 8000000 in
set_option maxRecDepth 100000 in
theorem laws_eqProgram.calls (k : Nat) (A0_0 : Option Addr) (c0_0 : Nat) (l0_0 : List (List (S72))) (A1_0 : Option Addr) (c1_0 : Nat) (l1_0 : List (List (S72))) (r : Bool) (w : World) (hr0_0 : Kd.C (Kd.slice 72 k72) w A0_0 l0_0.length l0_0) (hc0_0 : l0_0.length ≤ c0_0) (hr1_0 : Kd.C (Kd.slice 72 k72) w A1_0 l1_0.length l1_0) (hc1_0 : l1_0.length ≤ c1_0) (h : laws_eqProgram.f k l0_0 l1_0 = some r) :
  Calls Try.prog 18 #[.agg #[.slice A0_0 l0_0.length c0_0], .agg #[.slice A1_0 l1_0.length c1_0]] w fun e w' => e = .returned (.bool r) ∧ Below w.heap.size w w' := by
 have hu28 := Try.underlying28
 have HR0_0 := am hr0_0
 have HC0_0 := am hc0_0
 clear hr0_0 hc0_0
 have HR1_0 := am hr1_0
 have HC1_0 := am hc1_0
 clear hr1_0 hc1_0
 have HB := am (Below.refl w.heap.size w)
 have H : ((laws_eqStepSS.f k l0_0 l1_0).bind fun t224 => (if t224 = true then (some true) else (some false))) = some r := h
 clear h
 replace H := bem H
 obtain ⟨t224, A30, H⟩ := H
 replace H : (if t224 = true then (some true) else (some false)) = some r := H
 have A3 := am A30
 clear A30
 by_cases c4 : t224 = true
 ·subst c4
  have H1 : (some true) = some r := by rw [if_pos rfl] at H; exact H
  clear H
  have H := H1
  clear H1
  obtain rfl := Option.some.inj H
  go_enter Try.func18, Try.ntmps18
  go_wp2_with (first | ((with_reducible refine gate_dst (N := 2) rfl ?_); refine box_event ?hg (N := 2) ?hd (cs := #[.slice A0_0 l0_0.length c0_0]) (t := 28) ?hr ?_; (case hd => rfl); (case hg => rfl); (case hr => first | (go_simp; done) | (go_simp; rfl)); intro gb222 hg w5 hbox hb; have n0_ := am (below_step zq0 hb); have n1_ := am (hbox); have n2_ := am ((zq12 : w.heap.size ≤ gb222)); have n3_ := am ((zq12 : w.heap.size ≤ gb222)); clear HB; have HB := n0_; have BK222 := n1_; have GW222 := n2_; have GE222 := n3_; clear n0_ n1_ n2_ n3_; clear hb hbox hg) | ((with_reducible refine gate_dst (N := 3) rfl ?_); refine box_event ?hg (N := 3) ?hd (cs := #[.slice A1_0 l1_0.length c1_0]) (t := 28) ?hr ?_; (case hd => rfl); (case hg => rfl); (case hr => first | (go_simp; done) | (go_simp; rfl)); intro gb223 hg w6 hbox hb; have n0_ := am (blk_below (g := gb222) (o := .cells #[.slice A0_0 l0_0.length c0_0] 28 (0, 0)) zq51 hb); have n1_ := am (below_step zq50 hb); have n2_ := am (hbox); have n3_ := am ((by rw [hg]; exact (below_size zq50) : w.heap.size ≤ gb223)); have n4_ := am ((by rw [hg]; exact (below_size zq50) : w.heap.size ≤ gb223)); have n5_ := am ((zq126 : gb222 ≠ gb223)); have n6_ := am ((zq127 : gb223 ≠ gb222)); clear BK222; clear HB; have BK222 := n0_; have HB := n1_; have BK223 := n2_; have GW223 := n3_; have GE223 := n4_; have NB222_223 := n5_; have NB223_222 := n6_; clear n0_ n1_ n2_ n3_ n4_ n5_ n6_; clear hb hbox hg; have hnb7 := NB222_223.out; have hnc7 := NB223_222.out; have hcz8_0 : w6.cell? ⟨gb222, 0, none⟩ = some (.slice A0_0 l0_0.length c0_0) := (blk_cell BK222.out 0).trans rfl; have hfz8_0 := blk_frozen BK222.out 0; have hcz9_0 : w6.cell? ⟨gb223, 0, none⟩ = some (.slice A1_0 l1_0.length c1_0) := (blk_cell BK223.out 0).trans rfl; have hfz9_0 := blk_frozen BK223.out 0) | ((with_reducible refine gate_callee (f := 72) rfl ?_); refine goesL_ (some 9) rfl rfl Try.func72 zq17 rfl #[.slice A0_0 l0_0.length c0_0, .slice A1_0 l1_0.length c1_0] rfl zq1 ?_; (with_reducible refine (laws_eqStepSS.calls k _ _ l0_0 _ _ l1_0 true _ ?side1 ?side2 ?side3 ?side4 A3.out).mono ?_); (case side1 => repeat (first | exact (Kd.C_below HR0_0.out HB.out) | (with_reducible refine Kd.C_alloc ?_ _) | (with_reducible refine Kd.C_drewN ?_ _) | (with_reducible refine Kd.C_drew ?_))); (case side2 => exact HC0_0.out); (case side3 => repeat (first | exact (Kd.C_below HR1_0.out HB.out) | (with_reducible refine Kd.C_alloc ?_ _) | (with_reducible refine Kd.C_drewN ?_ _) | (with_reducible refine Kd.C_drew ?_))); (case side4 => exact HC1_0.out); rintro e w10 ⟨rfl, hb⟩; refine ⟨_, rfl, ?_⟩; have n0_ := am (blk_below (g := gb222) (o := .cells #[.slice A0_0 l0_0.length c0_0] 28 (0, 0)) zq51 hb); have n1_ := am (blk_below (g := gb223) (o := .cells #[.slice A1_0 l1_0.length c1_0] 28 (0, 0)) zq116 hb); have n2_ := am (below_step zq53 hb); clear BK222; clear BK223; clear HB; have BK222 := n0_; have BK223 := n1_; have HB := n2_; clear n0_ n1_ n2_; (try clear hb); (try clear hb2); (try clear hk); (try clear hi)))
  go_ret
  exact ⟨zq8, zq53⟩
 ·replace c4 := Bool.eq_false_iff.mpr c4
  subst c4
  have H1 : (some false) = some r := by rw [if_neg (show ¬ (false = true) by decide)] at H; exact H
  clear H
  have H := H1
  clear H1
  obtain rfl := Option.some.inj H
  go_enter Try.func18, Try.ntmps18
  go_wp2_with (first | ((with_reducible refine gate_dst (N := 2) rfl ?_); refine box_event ?hg (N := 2) ?hd (cs := #[.slice A0_0 l0_0.length c0_0]) (t := 28) ?hr ?_; (case hd => rfl); (case hg => rfl); (case hr => first | (go_simp; done) | (go_simp; rfl)); intro gb222 hg w11 hbox hb; have n0_ := am (below_step zq0 hb); have n1_ := am (hbox); have n2_ := am ((zq12 : w.heap.size ≤ gb222)); have n3_ := am ((zq12 : w.heap.size ≤ gb222)); clear HB; have HB := n0_; have BK222 := n1_; have GW222 := n2_; have GE222 := n3_; clear n0_ n1_ n2_ n3_; clear hb hbox hg) | ((with_reducible refine gate_dst (N := 3) rfl ?_); refine box_event ?hg (N := 3) ?hd (cs := #[.slice A1_0 l1_0.length c1_0]) (t := 28) ?hr ?_; (case hd => rfl); (case hg => rfl); (case hr => first | (go_simp; done) | (go_simp; rfl)); intro gb223 hg w12 hbox hb; have n0_ := am (blk_below (g := gb222) (o := .cells #[.slice A0_0 l0_0.length c0_0] 28 (0, 0)) zq51 hb); have n1_ := am (below_step zq50 hb); have n2_ := am (hbox); have n3_ := am ((by rw [hg]; exact (below_size zq50) : w.heap.size ≤ gb223)); have n4_ := am ((by rw [hg]; exact (below_size zq50) : w.heap.size ≤ gb223)); have n5_ := am ((zq126 : gb222 ≠ gb223)); have n6_ := am ((zq127 : gb223 ≠ gb222)); clear BK222; clear HB; have BK222 := n0_; have HB := n1_; have BK223 := n2_; have GW223 := n3_; have GE223 := n4_; have NB222_223 := n5_; have NB223_222 := n6_; clear n0_ n1_ n2_ n3_ n4_ n5_ n6_; clear hb hbox hg; have hnb13 := NB222_223.out; have hnc13 := NB223_222.out; have hcz14_0 : w12.cell? ⟨gb222, 0, none⟩ = some (.slice A0_0 l0_0.length c0_0) := (blk_cell BK222.out 0).trans rfl; have hfz14_0 := blk_frozen BK222.out 0; have hcz15_0 : w12.cell? ⟨gb223, 0, none⟩ = some (.slice A1_0 l1_0.length c1_0) := (blk_cell BK223.out 0).trans rfl; have hfz15_0 := blk_frozen BK223.out 0) | ((with_reducible refine gate_callee (f := 72) rfl ?_); refine goesL_ (some 9) rfl rfl Try.func72 zq17 rfl #[.slice A0_0 l0_0.length c0_0, .slice A1_0 l1_0.length c1_0] rfl zq1 ?_; (with_reducible refine (laws_eqStepSS.calls k _ _ l0_0 _ _ l1_0 false _ ?side1 ?side2 ?side3 ?side4 A3.out).mono ?_); (case side1 => repeat (first | exact (Kd.C_below HR0_0.out HB.out) | (with_reducible refine Kd.C_alloc ?_ _) | (with_reducible refine Kd.C_drewN ?_ _) | (with_reducible refine Kd.C_drew ?_))); (case side2 => exact HC0_0.out); (case side3 => repeat (first | exact (Kd.C_below HR1_0.out HB.out) | (with_reducible refine Kd.C_alloc ?_ _) | (with_reducible refine Kd.C_drewN ?_ _) | (with_reducible refine Kd.C_drew ?_))); (case side4 => exact HC1_0.out); rintro e w16 ⟨rfl, hb⟩; refine ⟨_, rfl, ?_⟩; have n0_ := am (blk_below (g := gb222) (o := .cells #[.slice A0_0 l0_0.length c0_0] 28 (0, 0)) zq51 hb); have n1_ := am (blk_below (g := gb223) (o := .cells #[.slice A1_0 l1_0.length c1_0] 28 (0, 0)) zq116 hb); have n2_ := am (below_step zq53 hb); clear BK222; clear BK223; clear HB; have BK222 := n0_; have BK223 := n1_; have HB := n2_; clear n0_ n1_ n2_; (try clear hb); (try clear hb2); (try clear hk); (try clear hi)))
  go_ret
  exact ⟨zq8, zq53⟩
def laws_markStepS.l0 : Nat → List (S72) → Int → Int → Option (Int × (List (S72)))
 | 0, _, _, _ => none
 | k + 1, x0, x1, x5 => if x5 < (x0.length : Int) then (if 0 ≤ x5 then ((some (x0.set (x5 : Int).toNat (⟨x1, (rd_T72 x0 x5).f1, (rd_T72 x0 x5).f2⟩ : S72) : List (S72))).bind fun y228 => ((some (y228.set (x5 : Int).toNat (⟨(rd_T72 y228 x5).f0, wrap64 (x1 + 1), (rd_T72 y228 x5).f2⟩ : S72) : List (S72))).bind fun y229 => (laws_markStepS.l0 k (y229.set (x5 : Int).toNat (⟨(rd_T72 y229 x5).f0, (rd_T72 y229 x5).f1, wrap64 ((wrap64 (x1 + 1)) + 1)⟩ : S72)) (wrap64 ((wrap64 ((wrap64 (x1 + 1)) + 1)) + 1)) (wrap64 (x5 + 1))))) else (none)) else (some (x1, x0))
def laws_markStepS.f (k : Nat) (l0 : List (S72)) (a1 : Int) : Option (Int × (List (S72))) := laws_markStepS.l0 k l0 a1 0
set_option maxHeartbeats 8000000 in
set_option maxRecDepth 100000 in
theorem laws_markStepS.calls (k : Nat) (P0_ : Nat → Prop) (u9000_ : Value) (l0 : List (S72)) (a1 : Int) (r1 : Int) (r2 : List (S72)) (w0 w : World) (hB : Below w0.heap.size w0 w) (ho0 : Kd.R k72 72 w w0.heap.size P0_ u9000_ l0) (h : laws_markStepS.f k l0 a1 = some (r1, r2)) :
  Calls Try.prog 117 #[u9000_, .int .i64 a1] w fun e w' => e = .returned (.int .i64 r1) ∧ Kd.R k72 72 w' w0.heap.size (fun k_ => (P0_ k_ ∨ w.heap.size ≤ k_)) u9000_ r2 ∧ Below w0.heap.size w0 w' ∧ Kept w w' (fun k_ => P0_ k_) := by
 have HO0 := am (show Kd.R k72 72 w w0.heap.size (fun k_ => (P0_ k_ ∨ w.heap.size ≤ k_)) u9000_ l0 from Kd.R_mono ho0 (fun k_ hk => (.inl hk)))
 have HK := am (Kept.refl w (fun k_ => P0_ k_))
 have HW0 := am hB.size
 have HB := am hB
 clear hB
 have H : (laws_markStepS.l0 k l0 a1 0) = some (r1, r2) := h
 clear h
 have H' := am H
 clear H
 go_enter Try.func117, Try.ntmps117
 go_wp2
 go_loopg [1, 5] k (fun kq v1 v5 w' => ∃ (x0_1 : List (S72)) (x1_1 : Int) (x5_1 : Int), v1 = .int .i64 x1_1 ∧ v5 = .int .i64 x5_1 ∧ Aside0 (laws_markStepS.l0 kq x0_1 x1_1 x5_1 = some (r1, r2)) ∧ Aside0 (kq ≤ k) ∧ Aside0 (Kd.R k72 72 w' w0.heap.size (fun k_ => (P0_ k_ ∨ w.heap.size ≤ k_)) u9000_ x0_1) ∧ Aside0 (Kept w w' (fun k_ => P0_ k_)) ∧ Aside0 (Below w0.heap.size w0 w'))
 case atStart => exact ⟨(l0), (a1), (0), zq3, zq3, H', ⟨Nat.le_refl _⟩, ⟨by (with_reducible repeat (first | apply Kd.R_alloc | apply Kd.R_drewN | apply Kd.R_drew)); exact HO0.out⟩, ⟨zq52⟩, ⟨zq0⟩⟩
 case round =>
  clear H'
  try clear c1
  try clear p2
  obtain ⟨x0_1, x1_1, x5_1, rfl, rfl, HA, HK1, HO_0, HK, HB⟩ := hrel
  cases gk with
  | zero => exact absurd HA.out (by simp [laws_markStepS.l0])
  | succ k1 =>
   have H := HA.out
   clear HA
   simp only [laws_markStepS.l0] at H
   by_cases c3 : x5_1 < (x0_1.length : Int)
   ·rw [if_pos c3] at H
    have c3b0 : decide (x5_1 < (x0_1.length : Int)) = true := decide_eq_true c3
    clear c3
    by_cases c4 : 0 ≤ x5_1
    ·rw [if_pos c4] at H
     have c4b0 : decide (0 ≤ x5_1) = true := decide_eq_true c4
     clear c4
     obtain ⟨y228, hy228⟩ : ∃ y_ : List (S72), y_ = (x0_1.set (x5_1 : Int).toNat (⟨x1_1, (rd_T72 x0_1 x5_1).f1, (rd_T72 x0_1 x5_1).f2⟩ : S72)) := ⟨_, rfl⟩
     replace H : ((some (y228.set (x5_1 : Int).toNat (⟨(rd_T72 y228 x5_1).f0, wrap64 (x1_1 + 1), (rd_T72 y228 x5_1).f2⟩ : S72) : List (S72))).bind fun y229 => (laws_markStepS.l0 k1 (y229.set (x5_1 : Int).toNat (⟨(rd_T72 y229 x5_1).f0, (rd_T72 y229 x5_1).f1, wrap64 ((wrap64 (x1_1 + 1)) + 1)⟩ : S72)) (wrap64 ((wrap64 ((wrap64 (x1_1 + 1)) + 1)) + 1)) (wrap64 (x5_1 + 1)))) = some (r1, r2) := by first | (rw [hy228]; with_reducible exact H) | (have H2_ := (Option.bind_some _ _).symm.trans H; rw [hy228]; with_reducible exact H2_) | (have H2_ := (Option.bind_some _ _).symm.trans H; with_reducible exact H2_) | with_reducible exact H | (rw [hy228]; exact H) | exact H
     have Ny228 := am hy228
     clear hy228
     obtain ⟨y229, hy229⟩ : ∃ y_ : List (S72), y_ = (y228.set (x5_1 : Int).toNat (⟨(rd_T72 y228 x5_1).f0, wrap64 (x1_1 + 1), (rd_T72 y228 x5_1).f2⟩ : S72)) := ⟨_, rfl⟩
     replace H : (laws_markStepS.l0 k1 (y229.set (x5_1 : Int).toNat (⟨(rd_T72 y229 x5_1).f0, (rd_T72 y229 x5_1).f1, wrap64 ((wrap64 (x1_1 + 1)) + 1)⟩ : S72)) (wrap64 ((wrap64 ((wrap64 (x1_1 + 1)) + 1)) + 1)) (wrap64 (x5_1 + 1))) = some (r1, r2) := by first | (rw [hy229]; with_reducible exact H) | (have H2_ := (Option.bind_some _ _).symm.trans H; rw [hy229]; with_reducible exact H2_) | (have H2_ := (Option.bind_some _ _).symm.trans H; with_reducible exact H2_) | with_reducible exact H | (rw [hy229]; exact H) | exact H
     have Ny229 := am hy229
     clear hy229
     obtain ⟨y230, hy230⟩ : ∃ y_ : List (S72), y_ = (y229.set (x5_1 : Int).toNat (⟨(rd_T72 y229 x5_1).f0, (rd_T72 y229 x5_1).f1, wrap64 ((wrap64 (x1_1 + 1)) + 1)⟩ : S72)) := ⟨_, rfl⟩
     replace H : (laws_markStepS.l0 k1 y230 (wrap64 ((wrap64 ((wrap64 (x1_1 + 1)) + 1)) + 1)) (wrap64 (x5_1 + 1))) = some (r1, r2) := by first | (rw [hy230]; with_reducible exact H) | (have H2_ := (Option.bind_some _ _).symm.trans H; rw [hy230]; with_reducible exact H2_) | (have H2_ := (Option.bind_some _ _).symm.trans H; with_reducible exact H2_) | with_reducible exact H | (rw [hy230]; exact H) | exact H
     have Ny230 := am hy230
     clear hy230
     have H' := am H
     clear H
     obtain ⟨Ao8, co8, eo8⟩ := Kd.R_slice HO_0.out
     subst eo8
     have p5 : 0 ≤ (x5_1 : Int) := of_decide_eq_true zq15
     have q5 : (x5_1 : Int) < ((x0_1.length : Int) : Int) := of_decide_eq_true zq15
     obtain ⟨go5, co5, eo5, gb5, gl5, cl5, HG5⟩ := Kd.R_form HO_0.out (by omega)
     (first | cases eo5 | (injection eo5 with ea_ en_ ec_; (first | subst ea_ | (injection ea_ with ea_; subst ea_)); subst ec_; clear en_))
     have GB5 := am gb5
     have GG5 := am HG5
     clear gb5 gl5 HG5
     have HMgo5 := am (show (P0_ go5 ∨ w.heap.size ≤ go5) from (HO_0.out.1 _ rfl))
     obtain ⟨ce5, hcl5, hM5, hcc5, hfr5⟩ := Kd.R_elem HO_0.out z72 (x5_1 : Int) p5 q5
     obtain rfl := k72_openM hM5
     have hx5_0 : wr.cell? ⟨go5, (x5_1 : Int).toNat * 3, none⟩ = some (.int .i64 ((rd_T72 x0_1 x5_1).f0)) := hcc5 0 _ rfl
     have hx5_1 : wr.cell? ⟨go5, (x5_1 : Int).toNat * 3 + 1, none⟩ = some (.int .i64 ((rd_T72 x0_1 x5_1).f1)) := hcc5 1 _ rfl
     have hx5_2 : wr.cell? ⟨go5, (x5_1 : Int).toNat * 3 + 2, none⟩ = some (.int .i64 ((rd_T72 x0_1 x5_1).f2)) := hcc5 2 _ rfl
     have hf5_0 : wr.frozen? ⟨go5, (x5_1 : Int).toNat * 3, none⟩ = false := hfr5 0
     have hf5_1 : wr.frozen? ⟨go5, (x5_1 : Int).toNat * 3 + 1, none⟩ = false := hfr5 1
     have hf5_2 : wr.frozen? ⟨go5, (x5_1 : Int).toNat * 3 + 2, none⟩ = false := hfr5 2
     clear hcl5 hcc5 hfr5; (try clear hM5)
     replace p5 := eq_true p5
     replace q5 := eq_true q5
     have HX9 := am (show Kd.R k72 72 wr w0.heap.size (fun k_ => (P0_ k_ ∨ w.heap.size ≤ k_)) (.slice (some ⟨go5, 0, none⟩) x0_1.length co8) x0_1 from zq54)
     obtain ⟨ce9, hcl9, hM9, hcc9, hfr9⟩ := Kd.R_elem HX9.out z72 (x5_1 : Int) (of_decide_eq_true zq15) (by have h_ : (x5_1 : Int) < ((x0_1.length : Int) : Int) := of_decide_eq_true zq15; first | exact h_ | (have e_ := (Kd.R_reads' HO_0.out).1; omega) | simpa using h_)
     obtain rfl := k72_openM hM9
     have HP9 := Kd.R_seg HX9.out (x5_1 : Int) (of_decide_eq_true zq15) (by have h_ : (x5_1 : Int) < ((x0_1.length : Int) : Int) := of_decide_eq_true zq15; first | exact h_ | (have e_ := (Kd.R_reads' HO_0.out).1; omega) | simpa using h_) (seg := [.int .i64 x1_1]) (j := 0) hcl9 hcc9 (show 1 ≤ 3 from by decide) (x' := (⟨x1_1, (rd_T72 x0_1 x5_1).f1, (rd_T72 x0_1 x5_1).f2⟩ : S72)) (k72_mkM _ _ _ (⟨x1_1, (rd_T72 x0_1 x5_1).f1, (rd_T72 x0_1 x5_1).f2⟩ : S72) ) (fun _ hk => hk)
     have hx9_0 := hcc9 0 _ rfl
     (try simp only [show (k72).sz = 3 from rfl, Nat.mul_one, Nat.add_zero] at hx9_0)
     have hf9_0 := hfr9 0
     (try simp only [show (k72).sz = 3 from rfl, Nat.mul_one, Nat.add_zero] at hf9_0)
     clear hcl9 hcc9 hfr9; (try clear hM9)
     go_wp2_with (first | ((with_reducible refine gate_store (t := 3) (p := 16) rfl ?_); refine store_event (t := 3) (p := 16) (v := ?vo_w10) (w1 := (wr.setCell ⟨go5, (x5_1 : Int).toNat * 3, none⟩ (.int .i64 x1_1))) ?hg ?ho ?hn ?hr ?_; (case ho => rfl); (case hg => rfl); (case hn => rfl); (case hr => first | (go_simp; done) | (go_simp; rfl)); intro w10 hw; have hg : wr.grownBy w10 (some go5) := (by rw [hw]; exact HP9.2); have hp_ : Kd.R k72 72 w10 w0.heap.size (fun k_ => (P0_ k_ ∨ w.heap.size ≤ k_)) (.slice (some ⟨go5, 0, none⟩) x0_1.length co8) y228 := (by rw [hw, Ny228.out]; exact HP9.1); clear HP9; have n0_ := am (hp_); have n1_ := am ((by rw [hw]; exact below_set (HB.out) GB5.out : Below w0.heap.size w0 w10)); have n2_ := am (Kept.of_grown (S := (fun k_ => P0_ k_)) hg zq52 (fun k_ e_ => (HO_0.out.1 k_ e_))); clear HO_0; clear HB; clear HK; have HO_0 := n0_; have HB := n1_; have HK := n2_; clear n0_ n1_ n2_; clear hg hw hp_; have p6 : 0 ≤ (x5_1 : Int) := of_decide_eq_true zq15; have q6 : (x5_1 : Int) < ((x0_1.length : Int) : Int) := of_decide_eq_true zq15; obtain ⟨ce6, hcl6, hM6, hcc6, hfr6⟩ := Kd.R_elem HO_0.out z72 (x5_1 : Int) p6 q6; obtain rfl := k72_openM hM6; have hx6_0 : w10.cell? ⟨go5, (x5_1 : Int).toNat * 3, none⟩ = some (.int .i64 ((rd_T72 y228 x5_1).f0)) := hcc6 0 _ rfl; have hx6_1 : w10.cell? ⟨go5, (x5_1 : Int).toNat * 3 + 1, none⟩ = some (.int .i64 ((rd_T72 y228 x5_1).f1)) := hcc6 1 _ rfl; have hx6_2 : w10.cell? ⟨go5, (x5_1 : Int).toNat * 3 + 2, none⟩ = some (.int .i64 ((rd_T72 y228 x5_1).f2)) := hcc6 2 _ rfl; have hf6_0 : w10.frozen? ⟨go5, (x5_1 : Int).toNat * 3, none⟩ = false := hfr6 0; have hf6_1 : w10.frozen? ⟨go5, (x5_1 : Int).toNat * 3 + 1, none⟩ = false := hfr6 1; have hf6_2 : w10.frozen? ⟨go5, (x5_1 : Int).toNat * 3 + 2, none⟩ = false := hfr6 2; clear hcl6 hcc6 hfr6; (try clear hM6); replace p6 := eq_true p6; replace q6 := eq_true q6; have HX11 := am (show Kd.R k72 72 w10 w0.heap.size (fun k_ => (P0_ k_ ∨ w.heap.size ≤ k_)) (.slice (some ⟨go5, 0, none⟩) x0_1.length co8) y228 from zq54); obtain ⟨ce11, hcl11, hM11, hcc11, hfr11⟩ := Kd.R_elem HX11.out z72 (x5_1 : Int) (of_decide_eq_true zq15) (by have h_ : (x5_1 : Int) < ((x0_1.length : Int) : Int) := of_decide_eq_true zq15; first | exact h_ | (have e_ := (Kd.R_reads' HO_0.out).1; omega) | simpa using h_); obtain rfl := k72_openM hM11; have HP11 := Kd.R_seg HX11.out (x5_1 : Int) (of_decide_eq_true zq15) (by have h_ : (x5_1 : Int) < ((x0_1.length : Int) : Int) := of_decide_eq_true zq15; first | exact h_ | (have e_ := (Kd.R_reads' HO_0.out).1; omega) | simpa using h_) (seg := [.int .i64 (wrap64 (x1_1 + 1))]) (j := 1) hcl11 hcc11 (show 2 ≤ 3 from by decide) (x' := (⟨(rd_T72 y228 x5_1).f0, wrap64 (x1_1 + 1), (rd_T72 y228 x5_1).f2⟩ : S72)) (k72_mkM _ _ _ (⟨(rd_T72 y228 x5_1).f0, wrap64 (x1_1 + 1), (rd_T72 y228 x5_1).f2⟩ : S72) ) (fun _ hk => hk); have hx11_1 := hcc11 1 _ rfl; (try simp only [show (k72).sz = 3 from rfl, Nat.mul_one, Nat.add_zero] at hx11_1); have hf11_1 := hfr11 1; (try simp only [show (k72).sz = 3 from rfl, Nat.mul_one, Nat.add_zero] at hf11_1); clear hcl11 hcc11 hfr11; (try clear hM11)) | ((with_reducible refine gate_store (t := 3) (p := 23) rfl ?_); refine store_event (t := 3) (p := 23) (v := ?vo_w12) (w1 := (w10.setCell ⟨go5, (x5_1 : Int).toNat * 3 + 1, none⟩ (.int .i64 (wrap64 (x1_1 + 1))))) ?hg ?ho ?hn ?hr ?_; (case ho => rfl); (case hg => rfl); (case hn => rfl); (case hr => first | (go_simp; done) | (go_simp; rfl)); intro w12 hw; have hg : w10.grownBy w12 (some go5) := (by rw [hw]; exact HP11.2); have hp_ : Kd.R k72 72 w12 w0.heap.size (fun k_ => (P0_ k_ ∨ w.heap.size ≤ k_)) (.slice (some ⟨go5, 0, none⟩) x0_1.length co8) y229 := (by rw [hw, Ny229.out]; exact HP11.1); clear HP11; have n0_ := am (hp_); have n1_ := am ((by rw [hw]; exact below_set (HB.out) GB5.out : Below w0.heap.size w0 w12)); have n2_ := am (Kept.of_grown (S := (fun k_ => P0_ k_)) hg zq52 (fun k_ e_ => (HO_0.out.1 k_ e_))); clear HO_0; clear HB; clear HK; have HO_0 := n0_; have HB := n1_; have HK := n2_; clear n0_ n1_ n2_; clear hg hw hp_; have p7 : 0 ≤ (x5_1 : Int) := of_decide_eq_true zq15; have q7 : (x5_1 : Int) < ((x0_1.length : Int) : Int) := of_decide_eq_true zq15; obtain ⟨ce7, hcl7, hM7, hcc7, hfr7⟩ := Kd.R_elem HO_0.out z72 (x5_1 : Int) p7 q7; obtain rfl := k72_openM hM7; have hx7_0 : w12.cell? ⟨go5, (x5_1 : Int).toNat * 3, none⟩ = some (.int .i64 ((rd_T72 y229 x5_1).f0)) := hcc7 0 _ rfl; have hx7_1 : w12.cell? ⟨go5, (x5_1 : Int).toNat * 3 + 1, none⟩ = some (.int .i64 ((rd_T72 y229 x5_1).f1)) := hcc7 1 _ rfl; have hx7_2 : w12.cell? ⟨go5, (x5_1 : Int).toNat * 3 + 2, none⟩ = some (.int .i64 ((rd_T72 y229 x5_1).f2)) := hcc7 2 _ rfl; have hf7_0 : w12.frozen? ⟨go5, (x5_1 : Int).toNat * 3, none⟩ = false := hfr7 0; have hf7_1 : w12.frozen? ⟨go5, (x5_1 : Int).toNat * 3 + 1, none⟩ = false := hfr7 1; have hf7_2 : w12.frozen? ⟨go5, (x5_1 : Int).toNat * 3 + 2, none⟩ = false := hfr7 2; clear hcl7 hcc7 hfr7; (try clear hM7); replace p7 := eq_true p7; replace q7 := eq_true q7; have HX13 := am (show Kd.R k72 72 w12 w0.heap.size (fun k_ => (P0_ k_ ∨ w.heap.size ≤ k_)) (.slice (some ⟨go5, 0, none⟩) x0_1.length co8) y229 from zq54); obtain ⟨ce13, hcl13, hM13, hcc13, hfr13⟩ := Kd.R_elem HX13.out z72 (x5_1 : Int) (of_decide_eq_true zq15) (by have h_ : (x5_1 : Int) < ((x0_1.length : Int) : Int) := of_decide_eq_true zq15; first | exact h_ | (have e_ := (Kd.R_reads' HO_0.out).1; omega) | simpa using h_); obtain rfl := k72_openM hM13; have HP13 := Kd.R_seg HX13.out (x5_1 : Int) (of_decide_eq_true zq15) (by have h_ : (x5_1 : Int) < ((x0_1.length : Int) : Int) := of_decide_eq_true zq15; first | exact h_ | (have e_ := (Kd.R_reads' HO_0.out).1; omega) | simpa using h_) (seg := [.int .i64 (wrap64 ((wrap64 (x1_1 + 1)) + 1))]) (j := 2) hcl13 hcc13 (show 3 ≤ 3 from by decide) (x' := (⟨(rd_T72 y229 x5_1).f0, (rd_T72 y229 x5_1).f1, wrap64 ((wrap64 (x1_1 + 1)) + 1)⟩ : S72)) (k72_mkM _ _ _ (⟨(rd_T72 y229 x5_1).f0, (rd_T72 y229 x5_1).f1, wrap64 ((wrap64 (x1_1 + 1)) + 1)⟩ : S72) ) (fun _ hk => hk); have hx13_2 := hcc13 2 _ rfl; (try simp only [show (k72).sz = 3 from rfl, Nat.mul_one, Nat.add_zero] at hx13_2); have hf13_2 := hfr13 2; (try simp only [show (k72).sz = 3 from rfl, Nat.mul_one, Nat.add_zero] at hf13_2); clear hcl13 hcc13 hfr13; (try clear hM13)) | ((with_reducible refine gate_store (t := 3) (p := 30) rfl ?_); refine store_event (t := 3) (p := 30) (v := ?vo_w14) (w1 := (w12.setCell ⟨go5, (x5_1 : Int).toNat * 3 + 2, none⟩ (.int .i64 (wrap64 ((wrap64 (x1_1 + 1)) + 1))))) ?hg ?ho ?hn ?hr ?_; (case ho => rfl); (case hg => rfl); (case hn => rfl); (case hr => first | (go_simp; done) | (go_simp; rfl)); intro w14 hw; have hg : w12.grownBy w14 (some go5) := (by rw [hw]; exact HP13.2); have hp_ : Kd.R k72 72 w14 w0.heap.size (fun k_ => (P0_ k_ ∨ w.heap.size ≤ k_)) (.slice (some ⟨go5, 0, none⟩) x0_1.length co8) y230 := (by rw [hw, Ny230.out]; exact HP13.1); clear HP13; have n0_ := am (hp_); have n1_ := am ((by rw [hw]; exact below_set (HB.out) GB5.out : Below w0.heap.size w0 w14)); have n2_ := am (Kept.of_grown (S := (fun k_ => P0_ k_)) hg zq52 (fun k_ e_ => (HO_0.out.1 k_ e_))); clear HO_0; clear HB; clear HK; have HO_0 := n0_; have HB := n1_; have HK := n2_; clear n0_ n1_ n2_; clear hg hw hp_))
     go_roundg k1
     case measure => have := HK1.out; omega
     case rel => exact ⟨(y230), (wrap64 ((wrap64 ((wrap64 (x1_1 + 1)) + 1)) + 1)), (wrap64 (x5_1 + 1)), zq3, zq3, H', ⟨zq108⟩, ⟨zq54⟩, ⟨zq52⟩, ⟨zq0⟩⟩
    ·rw [if_neg c4] at H
     exact absurd H (by simp)
   ·rw [if_neg c3] at H
    have c3b0 : decide (x5_1 < (x0_1.length : Int)) = false := decide_eq_false c3
    clear c3
    simp only [Option.some.injEq, Prod.mk.injEq] at H
    obtain ⟨rfl, rfl⟩ := H
    obtain ⟨Ao15, co15, eo15⟩ := Kd.R_slice HO_0.out
    subst eo15
    go_wp2
    go_ret
    exact ⟨zq8, zq54, zq0, zq52⟩
end Go.Proofs.Ythdhhpcbagpmgaa.Pr
end

section
namespace Go.Proofs.Ythdhhpcbagpmgaa.Pr
open Go.RowKit Go.Proofs.YthdhhpcbagpmgaaW.PrintWords Go.Proofs.YthdhhpcbagpmgaaW.PrintLast Go.Proofs.YthdhhpcbagpmgaaW.PrintMore
set_option linter.unusedVariables false
set_option linter.unusedSimpArgs false
def laws_markStepSS.g (k : Nat) : List (List S72) → Int → Option (Int × List (List S72))
 | [], a => some (a, [])
 | x :: xs, a => (laws_markStepS.f k x a).bind fun p => (laws_markStepSS.g k xs p.1).bind fun q => some (q.1, p.2 :: q.2)
def laws_markStepSS.f (k : Nat) (l0 : List (List S72)) (a1 : Int) : Option (Int × List (List S72)) := laws_markStepSS.g k l0 a1
set_option maxHeartbeats 4000000 in
set_option maxRecDepth 100000 in
theorem laws_markStepSS.calls (k : Nat) (P0_ : Nat → Prop) (u9000_ : Value) (l0 : List (List S72)) (a1 : Int) (r1 : Int) (r2 : List (List S72)) (w0 w : World) (hB : Below w0.heap.size w0 w) (ho0 : Kd.S (Kd.slice 72 k72) 108 w w0.heap.size P0_ u9000_ l0) (h : laws_markStepSS.f k l0 a1 = some (r1, r2)) :
  Calls Try.prog 73 #[u9000_, .int .i64 a1] w fun e w' => e = .returned (.int .i64 r1) ∧ Kd.S (Kd.slice 72 k72) 108 w' w0.heap.size P0_ u9000_ r2 ∧ Below w0.heap.size w0 w' ∧ Kept w w' (fun k_ => P0_ k_) := by
 have e117 : ∀ args w, (callFunc 117 args).run Try.prog w = .ok (.enter 117 args) w := enters_of Try.func117 (by kernel_rfl) rfl
 obtain ⟨A, c, rfl⟩ := Kd.S_slice ho0
 have hmax : (l0.length : Int) ≤ 9223372036854775807 := by
  have := (Kd.S_reads' ho0).2.2.2.1
  omega
 have HB := Aside0.mk hB
 have HS := Aside0.mk ho0
 have HF := Aside0.mk h
 have HMX := Aside0.mk hmax
 clear hB ho0 h hmax
 go_enter Try.func73, Try.ntmps73
 go_wp2
 go_loopg [1, 5] l0.length (fun gg v1 v5 wr => ∃ (kk : Nat) (x1 : Int), v1 = .int .i64 x1 ∧ v5 = .int .i64 kk ∧ kk ≤ l0.length ∧ l0.length - kk ≤ gg ∧
  Aside0 (∃ d t t', d.length = kk ∧ (d ++ t).length = l0.length ∧ laws_markStepSS.g k t x1 = some (r1, t') ∧ r2 = d ++ t' ∧ Kd.S (Kd.slice 72 k72) 108 wr w0.heap.size P0_ (.slice A l0.length c) (d ++ t) ∧ Below w0.heap.size w0 wr ∧ Kept w wr (fun k_ => P0_ k_)))
 case atStart => exact ⟨0, a1, rfl, rfl, Nat.zero_le _, by omega, ⟨[], l0, r2, rfl, rfl, HF.out, rfl, HS.out, HB.out, Kept.refl _ _⟩⟩
 case round =>
  obtain ⟨kk, x1, rfl, rfl, hkk, hg, ⟨d, t, t', hd, hl, hG, hr2, hS, hb0, hK⟩⟩ := hrel
  cases t with
  | nil =>
   simp only [laws_markStepSS.g, Option.some.injEq, Prod.mk.injEq] at hG
   obtain ⟨rfl, rfl⟩ := hG
   have hz : ¬ ((kk : Int) < (l0.length : Int)) := by simp only [List.append_nil] at hl; omega
   have F := Aside0.mk (And.intro hr2 (And.intro hS (And.intro hb0 hK)))
   clear hr2 hS hb0 hK HF HS hg hl hd hkk
   go_wp2
   go_ret
   obtain ⟨hr2, hS, hb0, hK⟩ := F.out
   rw [hr2]
   exact ⟨rfl, hS, hb0, hK⟩
  | cons x t =>
   simp only [laws_markStepSS.g] at hG
   obtain ⟨⟨y1, x'⟩, h1, hG⟩ := Option.bind_eq_some_iff.1 hG
   obtain ⟨⟨z1, t2⟩, h2, hG⟩ := Option.bind_eq_some_iff.1 hG
   simp only [Option.some.injEq, Prod.mk.injEq] at hG
   obtain ⟨rfl, rfl⟩ := hG
   have hz : (kk : Int) < (l0.length : Int) := by simp only [List.length_append, List.length_cons] at hl; omega
   obtain ⟨go, co, eo, _⟩ := Kd.S_form hS (by simp only [List.length_append, List.length_cons]; omega)
   injection eo with ea e2 ec
   clear e2 ec
   subst ea
   have hS' := hS
   obtain ⟨oki, ce, hcl, hM, hcc, hfr, hoki, hH⟩ := Kd.S_elem hS' [] (kk : Int) (by omega) hz
   obtain ⟨vi, rfl, hR⟩ := hM
   have hx : (d ++ x :: t).getD (kk : Int).toNat [] = x := by
    rw [Int.toNat_natCast, List.getD_eq_getElem?_getD, List.getElem?_append_right (by omega), hd, Nat.sub_self]; rfl
   rw [hx] at hR
   obtain ⟨Ai, ci, rfl⟩ := Kd.R_slice hR
   have hx0 := hcc 0 _ rfl
   have hf0 := hfr 0
   simp only [show (Kd.slice 72 k72).sz = 1 from rfl, Nat.mul_one, Nat.add_zero, Int.toNat_natCast] at hx0 hf0
   have hcall := laws_markStepS.calls k (fun q => some q = (Value.slice Ai x.length ci).ownBlock) (.slice Ai x.length ci) x x1 y1 x' w0 wr hb0 (Kd.R_tight rfl hR) h1
   have F := Aside0.mk (And.intro hr2 (And.intro hH (And.intro hb0 (And.intro hK (And.intro hR (And.intro hoki (And.intro h2 (And.intro hd hl))))))))
   clear hr2 hS hS' hb0 hK HF HS hH hR hoki hfr hcc hcl h1 h2 hd hl hx hkk
   go_wp2_with (go_at_fn 117; refine hcall.mono ?_; rintro e w' ⟨rfl, hro, hb', hk'⟩)
   go_roundg (l0.length - (kk + 1))
   case measure => omega
   case rel =>
    obtain ⟨hr2, hH, hb0, hK, hR, hoki, h2, hd, hl⟩ := F.out
    have hl' : d.length + (t.length + 1) = l0.length := by simpa using hl
    have hmx := HMX.out
    have hkl : kk + 1 ≤ l0.length := by omega
    have hown : ∀ q, some q = (Value.slice Ai x.length ci).ownBlock → oki q := fun q hq => hR.1 q hq.symm
    refine ⟨kk + 1, y1, rfl, by rw [show wrap64 ((kk : Int) + 1) = ((kk + 1 : Nat) : Int) from by unfold wrap64; omega], by omega, by omega, ⟨d ++ [x'], t, t2, by simp [hd], by simp only [List.length_append, List.length_cons, List.length_nil] at hl ⊢; omega, h2, by rw [hr2]; simp, ?_, hb', hK.then_ hk' (fun q hq => .inl (hoki q (hown q hq)).1)⟩⟩
    have hH' := Kd.H_step hH (w1 := w') (fun q _ hn hlt => hk'.2 q hlt (fun hq => hn (hown q hq)))
    have hB2 := Kd.H_back hH' (x' := x') (okp := fun q => some q = (Value.slice Ai x.length ci).ownBlock) ⟨_, rfl, Kd.R_tight rfl hro⟩ hown
    rw [Int.toNat_natCast, List.set_append_right _ _ (by omega), hd, Nat.sub_self] at hB2
    simpa using hB2
theorem laws_markProgram.calls (k : Nat) (P0_ : Nat → Prop) (u9000_ : Value) (l0 : List (List S72)) (a1 : Int) (r1 : Int) (r2 : List (List S72)) (w0 w : World) (hB : Below w0.heap.size w0 w) (ho0 : Kd.S (Kd.slice 72 k72) 108 w w0.heap.size P0_ u9000_ l0) (h : laws_markStepSS.f k l0 a1 = some (r1, r2)) :
  Calls Try.prog 19 #[.agg #[u9000_], .int .i64 a1] w fun e w' => e = .returned (.int .i64 r1) ∧ Kd.S (Kd.slice 72 k72) 108 w' w0.heap.size P0_ u9000_ r2 ∧ Below w0.heap.size w0 w' ∧ Kept w w' (fun k_ => P0_ k_) := by
 have hu28 := Try.underlying28
 have e73 : ∀ args w, (callFunc 73 args).run Try.prog w = .ok (.enter 73 args) w := enters_of Try.func73 (by kernel_rfl) rfl
 obtain ⟨A, c, rfl⟩ := Kd.S_slice ho0
 have hcall := laws_markStepSS.calls k P0_ (.slice A l0.length c) l0 a1 r1 r2 w0 (w.alloc (.cells #[.slice A l0.length c] 28)) (below_alloc hB _) (Kd.S_alloc ho0 _) h
 clear ho0 h
 go_enter Try.func19, Try.ntmps19
 go_wp2_with (go_at_fn 73; refine hcall.mono ?_; rintro e w' ⟨rfl, h1, h2, h3⟩)
 go_ret
 exact ⟨rfl, h1, h2, (Kept.alloc (Kept.refl w _) _).then_ h3 (fun q hq => .inl hq)⟩
end Go.Proofs.Ythdhhpcbagpmgaa.Pr
end

section
namespace Go.Proofs.Ythdhhpcbagpmgaa.Pr
open Go.RowKit Go.Proofs.YthdhhpcbagpmgaaW.PrintWords Go.Proofs.YthdhhpcbagpmgaaW.PrintLast Go.Proofs.YthdhhpcbagpmgaaW.PrintMore
attribute [local go_sem] max2_int min2_int max_two min_two max_three min_three max_four min_four
set_option linter.unusedVariables false
set_option linter.unusedSimpArgs false
def laws_heldStepS.l0 : Nat → List (S72) → Int → Int → Option (Int)
 | 0, _, _, _ => none
 | k + 1, x0, x1, x5 => if x5 < (x0.length : Int) then (if 0 ≤ x5 then (if ((rd_T72 x0 x5).f0) = x1 then (if ((rd_T72 x0 x5).f1) = (wrap64 (x1 + 1)) then (if ((rd_T72 x0 x5).f2) = (wrap64 ((wrap64 (x1 + 1)) + 1)) then (laws_heldStepS.l0 k x0 (wrap64 ((wrap64 ((wrap64 (x1 + 1)) + 1)) + 1)) (wrap64 (x5 + 1))) else (some (-1))) else (some (-1))) else (some (-1))) else (none)) else (some x1)
def laws_heldStepS.f (k : Nat) (l0 : List (S72)) (a1 : Int) : Option (Int) := laws_heldStepS.l0 k l0 a1 0
set_option maxHeartbeats 8000000 in
set_option maxRecDepth 100000 in
theorem laws_heldStepS.calls (k : Nat) (A0 : Option Addr) (c0 : Nat) (l0 : List (S72)) (a1 : Int) (r : Int) (w : World) (hr0 : Kd.C k72 w A0 l0.length l0) (hc0 : l0.length ≤ c0) (h : laws_heldStepS.f k l0 a1 = some r) :
  Calls Try.prog 134 #[.slice A0 l0.length c0, .int .i64 a1] w fun e w' => e = .returned (.int .i64 r) ∧ Drawn0 w w' := by
 have HR0 := am hr0
 have HC0 := am hc0
 clear hr0 hc0
 have H : (laws_heldStepS.l0 k l0 a1 0) = some r := h
 clear h
 have H' := am H
 clear H
 go_enter Try.func134, Try.ntmps134
 go_wp2
 go_loopg [1, 5] k (fun kq v1 v5 w' => ∃ (x1_1 : Int) (x5_1 : Int), v1 = .int .i64 x1_1 ∧ v5 = .int .i64 x5_1 ∧ Aside0 (laws_heldStepS.l0 kq l0 x1_1 x5_1 = some r) ∧ Aside0 (kq ≤ k) ∧ Drawn0 w w')
 case atStart => exact ⟨(a1), (0), zq3, zq3, H', ⟨Nat.le_refl _⟩, zq2⟩
 case round =>
  clear H'
  try clear c1
  try clear p2
  obtain ⟨x1_1, x5_1, rfl, rfl, HA, HK1, ⟨m1, rfl⟩⟩ := hrel
  cases gk with
  | zero => exact absurd HA.out (by simp [laws_heldStepS.l0])
  | succ k1 =>
   have H := HA.out
   clear HA
   simp only [laws_heldStepS.l0] at H
   by_cases c3 : x5_1 < (l0.length : Int)
   ·rw [if_pos c3] at H
    have c3b0 : decide (x5_1 < (l0.length : Int)) = true := decide_eq_true c3
    clear c3
    by_cases c4 : 0 ≤ x5_1
    ·rw [if_pos c4] at H
     have c4b0 : decide (0 ≤ x5_1) = true := decide_eq_true c4
     clear c4
     by_cases c5 : ((rd_T72 l0 x5_1).f0) = x1_1
     ·rw [if_pos c5] at H
      have c5b0 : (((rd_T72 l0 x5_1).f0) == x1_1) = true := beq_iff_eq.mpr c5
      have c5b1 : (((rd_T72 l0 x5_1).f0) != x1_1) = false := bne_eq_false_iff_eq.mpr c5
      clear c5
      by_cases c6 : ((rd_T72 l0 x5_1).f1) = (wrap64 (x1_1 + 1))
      ·rw [if_pos c6] at H
       have c6b0 : (((rd_T72 l0 x5_1).f1) == (wrap64 (x1_1 + 1))) = true := beq_iff_eq.mpr c6
       have c6b1 : (((rd_T72 l0 x5_1).f1) != (wrap64 (x1_1 + 1))) = false := bne_eq_false_iff_eq.mpr c6
       clear c6
       by_cases c7 : ((rd_T72 l0 x5_1).f2) = (wrap64 ((wrap64 (x1_1 + 1)) + 1))
       ·rw [if_pos c7] at H
        have c7b0 : (((rd_T72 l0 x5_1).f2) == (wrap64 ((wrap64 (x1_1 + 1)) + 1))) = true := beq_iff_eq.mpr c7
        have c7b1 : (((rd_T72 l0 x5_1).f2) != (wrap64 ((wrap64 (x1_1 + 1)) + 1))) = false := bne_eq_false_iff_eq.mpr c7
        clear c7
        have H' := am H
        clear H
        have p234 : 0 ≤ (x5_1 : Int) := of_decide_eq_true zq15
        have q234 : x5_1 < (l0.length : Int) := of_decide_eq_true zq15
        obtain ⟨ad234, e234, hx234_0, hx234_1, hx234_2⟩ := at_T72 HR0.out x5_1 p234 q234
        cases e234
        replace p234 := eq_true p234
        replace q234 := eq_true q234
        have p235 : 0 ≤ (x5_1 : Int) := of_decide_eq_true zq15
        have q235 : x5_1 < (l0.length : Int) := of_decide_eq_true zq15
        obtain ⟨ad235, e235, hx235_0, hx235_1, hx235_2⟩ := at_T72 HR0.out x5_1 p235 q235
        obtain rfl : ad234 = ad235 := (by injection e235)
        replace p235 := eq_true p235
        replace q235 := eq_true q235
        have p236 : 0 ≤ (x5_1 : Int) := of_decide_eq_true zq15
        have q236 : x5_1 < (l0.length : Int) := of_decide_eq_true zq15
        obtain ⟨ad236, e236, hx236_0, hx236_1, hx236_2⟩ := at_T72 HR0.out x5_1 p236 q236
        obtain rfl : ad234 = ad236 := (by injection e236)
        replace p236 := eq_true p236
        replace q236 := eq_true q236
        go_wp2
        go_roundg k1
        case measure => have := HK1.out; omega
        case rel => exact ⟨(wrap64 ((wrap64 ((wrap64 (x1_1 + 1)) + 1)) + 1)), (wrap64 (x5_1 + 1)), zq3, zq3, H', ⟨zq108⟩, zq2⟩
       ·rw [if_neg c7] at H
        have c7b0 : (((rd_T72 l0 x5_1).f2) == (wrap64 ((wrap64 (x1_1 + 1)) + 1))) = false := beq_eq_false_iff_ne.mpr c7
        have c7b1 : (((rd_T72 l0 x5_1).f2) != (wrap64 ((wrap64 (x1_1 + 1)) + 1))) = true := bne_iff_ne.mpr c7
        obtain rfl := Option.some.inj H
        have p234 : 0 ≤ (x5_1 : Int) := of_decide_eq_true zq15
        have q234 : x5_1 < (l0.length : Int) := of_decide_eq_true zq15
        obtain ⟨ad234, e234, hx234_0, hx234_1, hx234_2⟩ := at_T72 HR0.out x5_1 p234 q234
        cases e234
        replace p234 := eq_true p234
        replace q234 := eq_true q234
        have p235 : 0 ≤ (x5_1 : Int) := of_decide_eq_true zq15
        have q235 : x5_1 < (l0.length : Int) := of_decide_eq_true zq15
        obtain ⟨ad235, e235, hx235_0, hx235_1, hx235_2⟩ := at_T72 HR0.out x5_1 p235 q235
        obtain rfl : ad234 = ad235 := (by injection e235)
        replace p235 := eq_true p235
        replace q235 := eq_true q235
        have p236 : 0 ≤ (x5_1 : Int) := of_decide_eq_true zq15
        have q236 : x5_1 < (l0.length : Int) := of_decide_eq_true zq15
        obtain ⟨ad236, e236, hx236_0, hx236_1, hx236_2⟩ := at_T72 HR0.out x5_1 p236 q236
        obtain rfl : ad234 = ad236 := (by injection e236)
        replace p236 := eq_true p236
        replace q236 := eq_true q236
        go_wp2
        go_ret
        exact ⟨zq3, zq2⟩
      ·rw [if_neg c6] at H
       have c6b0 : (((rd_T72 l0 x5_1).f1) == (wrap64 (x1_1 + 1))) = false := beq_eq_false_iff_ne.mpr c6
       have c6b1 : (((rd_T72 l0 x5_1).f1) != (wrap64 (x1_1 + 1))) = true := bne_iff_ne.mpr c6
       obtain rfl := Option.some.inj H
       have p234 : 0 ≤ (x5_1 : Int) := of_decide_eq_true zq15
       have q234 : x5_1 < (l0.length : Int) := of_decide_eq_true zq15
       obtain ⟨ad234, e234, hx234_0, hx234_1, hx234_2⟩ := at_T72 HR0.out x5_1 p234 q234
       cases e234
       replace p234 := eq_true p234
       replace q234 := eq_true q234
       have p235 : 0 ≤ (x5_1 : Int) := of_decide_eq_true zq15
       have q235 : x5_1 < (l0.length : Int) := of_decide_eq_true zq15
       obtain ⟨ad235, e235, hx235_0, hx235_1, hx235_2⟩ := at_T72 HR0.out x5_1 p235 q235
       obtain rfl : ad234 = ad235 := (by injection e235)
       replace p235 := eq_true p235
       replace q235 := eq_true q235
       go_wp2
       go_ret
       exact ⟨zq3, zq2⟩
     ·rw [if_neg c5] at H
      have c5b0 : (((rd_T72 l0 x5_1).f0) == x1_1) = false := beq_eq_false_iff_ne.mpr c5
      have c5b1 : (((rd_T72 l0 x5_1).f0) != x1_1) = true := bne_iff_ne.mpr c5
      obtain rfl := Option.some.inj H
      have p234 : 0 ≤ (x5_1 : Int) := of_decide_eq_true zq15
      have q234 : x5_1 < (l0.length : Int) := of_decide_eq_true zq15
      obtain ⟨ad234, e234, hx234_0, hx234_1, hx234_2⟩ := at_T72 HR0.out x5_1 p234 q234
      cases e234
      replace p234 := eq_true p234
      replace q234 := eq_true q234
      go_wp2
      go_ret
      exact ⟨zq3, zq2⟩
    ·rw [if_neg c4] at H
     exact absurd H (by simp)
   ·rw [if_neg c3] at H
    have c3b0 : decide (x5_1 < (l0.length : Int)) = false := decide_eq_false c3
    clear c3
    obtain rfl := Option.some.inj H
    go_wp2
    go_ret
    exact ⟨zq3, zq2⟩
def laws_heldStepSS.l0 : Nat → List (List (S72)) → Int → Int → Option (Int)
 | 0, _, _, _ => none
 | k + 1, x0, x1, x5 => if x5 < (x0.length : Int) then (if 0 ≤ x5 then ((laws_heldStepS.f k (rd_L4 x0 x5) x1).bind fun t238 => (if t238 < 0 then (some (-1)) else (laws_heldStepSS.l0 k x0 t238 (wrap64 (x5 + 1))))) else (none)) else (some x1)
def laws_heldStepSS.f (k : Nat) (l0 : List (List (S72))) (a1 : Int) : Option (Int) := laws_heldStepSS.l0 k l0 a1 0
set_option maxHeartbeats 8000000 in
set_option maxRecDepth 100000 in
theorem laws_heldStepSS.calls (k : Nat) (A0 : Option Addr) (c0 : Nat) (l0 : List (List (S72))) (a1 : Int) (r : Int) (w : World) (hr0 : Kd.C (Kd.slice 72 k72) w A0 l0.length l0) (hc0 : l0.length ≤ c0) (h : laws_heldStepSS.f k l0 a1 = some r) :
  Calls Try.prog 101 #[.slice A0 l0.length c0, .int .i64 a1] w fun e w' => e = .returned (.int .i64 r) ∧ Drawn0 w w' := by
 have HR0 := am hr0
 have HC0 := am hc0
 clear hr0 hc0
 have H : (laws_heldStepSS.l0 k l0 a1 0) = some r := h
 clear h
 have H' := am H
 clear H
 go_enter Try.func101, Try.ntmps101
 go_wp2
 go_loopg [1, 5] k (fun kq v1 v5 w' => ∃ (x1_1 : Int) (x5_1 : Int), v1 = .int .i64 x1_1 ∧ v5 = .int .i64 x5_1 ∧ Aside0 (laws_heldStepSS.l0 kq l0 x1_1 x5_1 = some r) ∧ Aside0 (kq ≤ k) ∧ Drawn0 w w')
 case atStart => exact ⟨(a1), (0), zq3, zq3, H', ⟨Nat.le_refl _⟩, zq2⟩
 case round =>
  clear H'
  try clear c1
  try clear p2
  obtain ⟨x1_1, x5_1, rfl, rfl, HA, HK1, ⟨m1, rfl⟩⟩ := hrel
  cases gk with
  | zero => exact absurd HA.out (by simp [laws_heldStepSS.l0])
  | succ k1 =>
   have H := HA.out
   clear HA
   simp only [laws_heldStepSS.l0] at H
   by_cases c3 : x5_1 < (l0.length : Int)
   ·rw [if_pos c3] at H
    have c3b0 : decide (x5_1 < (l0.length : Int)) = true := decide_eq_true c3
    clear c3
    by_cases c4 : 0 ≤ x5_1
    ·rw [if_pos c4] at H
     have c4b0 : decide (0 ≤ x5_1) = true := decide_eq_true c4
     clear c4
     replace H := bem H
     obtain ⟨t238, A50, H⟩ := H
     replace H : (if t238 < 0 then (some (-1)) else (laws_heldStepSS.l0 k1 l0 t238 (wrap64 (x5_1 + 1)))) = some r := H
     have A5 := am A50
     clear A50
     by_cases c6 : t238 < 0
     ·rw [if_pos c6] at H
      have c6b0 : decide (t238 < 0) = true := decide_eq_true c6
      clear c6
      obtain rfl := Option.some.inj H
      have p237 : 0 ≤ (x5_1 : Int) := of_decide_eq_true zq15
      have q237 : x5_1 < (l0.length : Int) := of_decide_eq_true zq15
      obtain ⟨ad237, A237_0, c237_0, e237, hx237_0, hl237_0, hi237_0⟩ := at_L4 HR0.out x5_1 p237 q237
      cases e237
      have HR237_0 := am hi237_0
      have HC237_0 := am hl237_0
      clear hi237_0 hl237_0
      replace p237 := eq_true p237
      replace q237 := eq_true q237
      go_wp2_with (first | ((with_reducible refine gate_callee (f := 134) rfl ?_); refine goesL_ (some 17) rfl rfl Try.func134 zq17 rfl #[.slice A237_0 (rd_L4 l0 x5_1).length c237_0, .int .i64 x1_1] rfl zq1 ?_; (with_reducible refine (laws_heldStepS.calls k1 _ _ (rd_L4 l0 x5_1) x1_1 t238 _ ?side1 ?side2 A5.out).mono ?_); (case side1 => repeat (first | exact HR237_0.out | (with_reducible refine Kd.C_alloc ?_ _) | (with_reducible refine Kd.C_drewN ?_ _) | (with_reducible refine Kd.C_drew ?_))); (case side2 => exact HC237_0.out); rintro e w' ⟨rfl, ⟨nd, rfl⟩⟩; refine ⟨_, rfl, ?_⟩))
      go_ret
      exact ⟨zq3, zq2⟩
     ·rw [if_neg c6] at H
      have c6b0 : decide (t238 < 0) = false := decide_eq_false c6
      clear c6
      have H' := am H
      clear H
      have p237 : 0 ≤ (x5_1 : Int) := of_decide_eq_true zq15
      have q237 : x5_1 < (l0.length : Int) := of_decide_eq_true zq15
      obtain ⟨ad237, A237_0, c237_0, e237, hx237_0, hl237_0, hi237_0⟩ := at_L4 HR0.out x5_1 p237 q237
      cases e237
      have HR237_0 := am hi237_0
      have HC237_0 := am hl237_0
      clear hi237_0 hl237_0
      replace p237 := eq_true p237
      replace q237 := eq_true q237
      go_wp2_with (first | ((with_reducible refine gate_callee (f := 134) rfl ?_); refine goesL_ (some 17) rfl rfl Try.func134 zq17 rfl #[.slice A237_0 (rd_L4 l0 x5_1).length c237_0, .int .i64 x1_1] rfl zq1 ?_; (with_reducible refine (laws_heldStepS.calls k1 _ _ (rd_L4 l0 x5_1) x1_1 t238 _ ?side1 ?side2 A5.out).mono ?_); (case side1 => repeat (first | exact HR237_0.out | (with_reducible refine Kd.C_alloc ?_ _) | (with_reducible refine Kd.C_drewN ?_ _) | (with_reducible refine Kd.C_drew ?_))); (case side2 => exact HC237_0.out); rintro e w' ⟨rfl, ⟨nd, rfl⟩⟩; refine ⟨_, rfl, ?_⟩))
      go_roundg k1
      case measure => have := HK1.out; omega
      case rel => exact ⟨(t238), (wrap64 (x5_1 + 1)), zq3, zq3, H', ⟨zq108⟩, zq2⟩
    ·rw [if_neg c4] at H
     exact absurd H (by simp)
   ·rw [if_neg c3] at H
    have c3b0 : decide (x5_1 < (l0.length : Int)) = false := decide_eq_false c3
    clear c3
    obtain rfl := Option.some.inj H
    go_wp2
    go_ret
    exact ⟨zq3, zq2⟩
def laws_heldProgram.f (k : Nat) (l0_0 : List (List (S72))) (a1 : Int) : Option (Int) := (laws_heldStepSS.f k l0_0 a1).bind fun t240 => (if t240 < 0 then (some (-1)) else (some t240))
set_option maxHeartbeats 8000000 in
set_option maxRecDepth 100000 in
theorem laws_heldProgram.calls (k : Nat) (A0_0 : Option Addr) (c0_0 : Nat) (l0_0 : List (List (S72))) (a1 : Int) (r : Int) (w : World) (hr0_0 : Kd.C (Kd.slice 72 k72) w A0_0 l0_0.length l0_0) (hc0_0 : l0_0.length ≤ c0_0) (h : laws_heldProgram.f k l0_0 a1 = some r) :
  Calls Try.prog 50 #[.agg #[.slice A0_0 l0_0.length c0_0], .int .i64 a1] w fun e w' => e = .returned (.int .i64 r) ∧ Below w.heap.size w w' := by
 have hu28 := Try.underlying28
 have HR0_0 := am hr0_0
 have HC0_0 := am hc0_0
 clear hr0_0 hc0_0
 have HB := am (Below.refl w.heap.size w)
 have H : ((laws_heldStepSS.f k l0_0 a1).bind fun t240 => (if t240 < 0 then (some (-1)) else (some t240))) = some r := h
 clear h
 replace H := bem H
 obtain ⟨t240, A30, H⟩ := H
 replace H : (if t240 < 0 then (some (-1)) else (some t240)) = some r := H
 have A3 := am A30
 clear A30
 by_cases c4 : t240 < 0
 ·rw [if_pos c4] at H
  have c4b0 : decide (t240 < 0) = true := decide_eq_true c4
  clear c4
  obtain rfl := Option.some.inj H
  go_enter Try.func50, Try.ntmps50
  go_wp2_with (first | ((with_reducible refine gate_dst (N := 2) rfl ?_); refine box_event ?hg (N := 2) ?hd (cs := #[.slice A0_0 l0_0.length c0_0]) (t := 28) ?hr ?_; (case hd => rfl); (case hg => rfl); (case hr => first | (go_simp; done) | (go_simp; rfl)); intro gb239 hg w5 hbox hb; have n0_ := am (below_step zq0 hb); have n1_ := am (hbox); have n2_ := am ((zq12 : w.heap.size ≤ gb239)); have n3_ := am ((zq12 : w.heap.size ≤ gb239)); clear HB; have HB := n0_; have BK239 := n1_; have GW239 := n2_; have GE239 := n3_; clear n0_ n1_ n2_ n3_; clear hb hbox hg; have hcz6_0 : w5.cell? ⟨gb239, 0, none⟩ = some (.slice A0_0 l0_0.length c0_0) := (blk_cell BK239.out 0).trans rfl; have hfz6_0 := blk_frozen BK239.out 0) | ((with_reducible refine gate_callee (f := 101) rfl ?_); refine goesL_ (some 8) rfl rfl Try.func101 zq17 rfl #[.slice A0_0 l0_0.length c0_0, .int .i64 a1] rfl zq1 ?_; (with_reducible refine (laws_heldStepSS.calls k _ _ l0_0 a1 t240 _ ?side1 ?side2 A3.out).mono ?_); (case side1 => repeat (first | exact (Kd.C_below HR0_0.out HB.out) | (with_reducible refine Kd.C_alloc ?_ _) | (with_reducible refine Kd.C_drewN ?_ _) | (with_reducible refine Kd.C_drew ?_))); (case side2 => exact HC0_0.out); rintro e w' ⟨rfl, ⟨nd, rfl⟩⟩; refine ⟨_, rfl, ?_⟩))
  go_ret
  exact ⟨zq8, zq110⟩
 ·rw [if_neg c4] at H
  have c4b0 : decide (t240 < 0) = false := decide_eq_false c4
  clear c4
  obtain rfl := Option.some.inj H
  go_enter Try.func50, Try.ntmps50
  go_wp2_with (first | ((with_reducible refine gate_dst (N := 2) rfl ?_); refine box_event ?hg (N := 2) ?hd (cs := #[.slice A0_0 l0_0.length c0_0]) (t := 28) ?hr ?_; (case hd => rfl); (case hg => rfl); (case hr => first | (go_simp; done) | (go_simp; rfl)); intro gb239 hg w7 hbox hb; have n0_ := am (below_step zq0 hb); have n1_ := am (hbox); have n2_ := am ((zq12 : w.heap.size ≤ gb239)); have n3_ := am ((zq12 : w.heap.size ≤ gb239)); clear HB; have HB := n0_; have BK239 := n1_; have GW239 := n2_; have GE239 := n3_; clear n0_ n1_ n2_ n3_; clear hb hbox hg; have hcz8_0 : w7.cell? ⟨gb239, 0, none⟩ = some (.slice A0_0 l0_0.length c0_0) := (blk_cell BK239.out 0).trans rfl; have hfz8_0 := blk_frozen BK239.out 0) | ((with_reducible refine gate_callee (f := 101) rfl ?_); refine goesL_ (some 8) rfl rfl Try.func101 zq17 rfl #[.slice A0_0 l0_0.length c0_0, .int .i64 a1] rfl zq1 ?_; (with_reducible refine (laws_heldStepSS.calls k _ _ l0_0 a1 t240 _ ?side1 ?side2 A3.out).mono ?_); (case side1 => repeat (first | exact (Kd.C_below HR0_0.out HB.out) | (with_reducible refine Kd.C_alloc ?_ _) | (with_reducible refine Kd.C_drewN ?_ _) | (with_reducible refine Kd.C_drew ?_))); (case side2 => exact HC0_0.out); rintro e w' ⟨rfl, ⟨nd, rfl⟩⟩; refine ⟨_, rfl, ?_⟩))
  go_ret
  exact ⟨zq8, zq110⟩
end Go.Proofs.Ythdhhpcbagpmgaa.Pr
end

section
set_option linter.unusedVariables false
set_option linter.unusedSimpArgs false
namespace Go.Proofs.Ythdhhpcbagpmgaa.PureL
open Go.RowKit Go.Proofs.Ythdhhpcbagpmgaa.Pr Go.Proofs.YthdhhpcbagpmgaaW.PrintWords Go.Proofs.YthdhhpcbagpmgaaW.PrintLast
theorem wrap_in {i : Int} (h0 : -9223372036854775808 ≤ i) (h1 : i ≤ 9223372036854775807) : wrap64 i = i := by unfold wrap64; omega
def to72 (s : S69) : S72 := ⟨s.f0, s.f1, s.f2⟩
def total {α : Type} (l : List (List α)) : Nat := (l.map List.length).sum
theorem rd2_at (l : List (List S69)) (i : Nat) (h : i < l.length) : rd_L2 l (i : Int) = l[i] := by unfold rd_L2; rw [Int.toNat_natCast, List.getD_eq_getElem?_getD, List.getElem?_eq_getElem h]; rfl
theorem rd4_at (l : List (List S72)) (i : Nat) (h : i < l.length) : rd_L4 l (i : Int) = l[i] := by unfold rd_L4; rw [Int.toNat_natCast, List.getD_eq_getElem?_getD, List.getElem?_eq_getElem h]; rfl
theorem rd69_at (l : List S69) (i : Nat) (h : i < l.length) : rd_T69 l (i : Int) = l[i] := by unfold rd_T69; rw [Int.toNat_natCast, List.getD_eq_getElem?_getD, List.getElem?_eq_getElem h]; rfl
theorem rd72_at (l : List S72) (i : Nat) (h : i < l.length) : rd_T72 l (i : Int) = l[i] := by unfold rd_T72; rw [Int.toNat_natCast, List.getD_eq_getElem?_getD, List.getElem?_eq_getElem h]; rfl
theorem szSS_l (l : List (List S69)) (hb : ∀ b ∈ l, b.length ≤ 9223372036854775807) (hl : l.length ≤ 9223372036854775807) : ∀ (d i : Nat) (a : Int), d + i = l.length → 0 ≤ a → a ≤ 1048576 →
  ∃ r, (∀ k, d < k → laws_szStepSS.l0 k l a i = some r) ∧ (0 ≤ r → (total (l.drop i) : Int) ≤ a) := by
 intro d
 induction d with
 | zero =>
  intro i a hd h0 h1
  refine ⟨a, fun k hk => ?_, fun _ => ?_⟩
  ·obtain ⟨k, rfl⟩ : ∃ z, k = z + 1 := ⟨k - 1, by omega⟩
   rw [laws_szStepSS.l0, if_neg (by omega)]
  ·rw [List.drop_eq_nil_of_le (by omega)]; simp [total]; omega
 | succ d ih =>
  intro i a hd h0 h1
  have hi : i < l.length := by omega
  have hbi := hb _ (List.getElem_mem hi)
  have hdrop : l.drop i = l[i] :: l.drop (i + 1) := List.drop_eq_getElem_cons hi
  have hw : wrap64 (a - (l[i].length : Int)) = a - (l[i].length : Int) := wrap_in (by omega) (by omega)
  by_cases hc : a - (l[i].length : Int) < 0
  ·refine ⟨-1, fun k hk => ?_, fun h => by omega⟩
   obtain ⟨k, rfl⟩ : ∃ z, k = z + 1 := ⟨k - 1, by omega⟩
   rw [laws_szStepSS.l0, if_pos (by omega), if_pos (by omega), rd2_at l i hi, laws_szStepS.f, hw, if_pos hc, Option.bind_some, if_pos (by omega)]
  ·obtain ⟨r, h2, h3⟩ := ih (i + 1) (a - (l[i].length : Int)) (by omega) (by omega) (by omega)
   refine ⟨r, fun k hk => ?_, fun h => ?_⟩
   ·obtain ⟨k, rfl⟩ : ∃ z, k = z + 1 := ⟨k - 1, by omega⟩
    rw [laws_szStepSS.l0, if_pos (by omega), if_pos (by omega), rd2_at l i hi, laws_szStepS.f, hw, if_neg hc, Option.bind_some, if_neg hc, wrap_in (by omega) (by omega)]
    exact h2 k (by omega)
   ·have := h3 h
    rw [hdrop]
    simp only [total, List.map_cons, List.sum_cons] at this ⊢
    omega
theorem szProgram_ok (l : List (List S69)) (hb : ∀ b ∈ l, b.length ≤ 9223372036854775807) (hl : l.length ≤ 9223372036854775807) :
  ∃ r, (∀ k, l.length + 1 < k → laws_szProgram.f k l 1048576 = some r) ∧ (0 ≤ r → l.length + total l ≤ 1048576) := by
 have hw : wrap64 (1048576 - (l.length : Int)) = 1048576 - (l.length : Int) := wrap_in (by omega) (by omega)
 by_cases hc : 1048576 - (l.length : Int) < 0
 ·refine ⟨-1, fun k hk => ?_, fun h => by omega⟩
  unfold laws_szProgram.f laws_szStepSS.f
  rw [hw, if_pos hc, Option.bind_some, if_pos (by omega)]
 ·obtain ⟨r, h2, h3⟩ := szSS_l l hb hl l.length 0 (1048576 - (l.length : Int)) (by omega) (by omega) (by omega)
  by_cases hr : r < 0
  ·refine ⟨-1, fun k hk => ?_, fun h => by omega⟩
   unfold laws_szProgram.f laws_szStepSS.f
   have := h2 k (by omega)
   rw [Int.natCast_zero] at this
   rw [hw, if_neg hc, this, Option.bind_some, if_pos hr]
  ·refine ⟨r, fun k hk => ?_, fun h => ?_⟩
   ·unfold laws_szProgram.f laws_szStepSS.f
    have := h2 k (by omega)
    rw [Int.natCast_zero] at this
    rw [hw, if_neg hc, this, Option.bind_some, if_neg hr]
   ·have := h3 h
    rw [List.drop_zero] at this
    omega
theorem toStepS_l (l : List S69) (hl : l.length ≤ 1048576) : ∀ (d i : Nat), d + i = l.length → ∀ k, d < k → laws_toStepS.l0 k l ((l.map to72).take i ++ List.replicate d z72) i = some (l.map to72) := by
 intro d
 induction d with
 | zero =>
  intro i hd k hk
  obtain ⟨k, rfl⟩ : ∃ z, k = z + 1 := ⟨k - 1, by omega⟩
  rw [laws_toStepS.l0, if_neg (by omega), List.take_of_length_le (by simp; omega)]
  simp
 | succ d ih =>
  intro i hd k hk
  obtain ⟨k, rfl⟩ : ∃ z, k = z + 1 := ⟨k - 1, by omega⟩
  have hi : i < l.length := by omega
  have hlen : ((l.map to72).take i ++ List.replicate (d + 1) z72).length = l.length := by simp; omega
  have htl : ((l.map to72).take i).length = i := by simp; omega
  rw [laws_toStepS.l0, if_pos (by omega), if_pos (by omega), rd69_at l i hi, laws_toStep.f, Option.bind_some, if_pos (by rw [hlen]; omega), wrap_in (by omega) (by omega), Int.toNat_natCast]
  have hset : ((l.map to72).take i ++ List.replicate (d + 1) z72).set i (to72 l[i]) = (l.map to72).take (i + 1) ++ List.replicate d z72 := by
   rw [List.set_append_right _ _ (by omega), htl, Nat.sub_self, List.replicate_succ, List.set_cons_zero, List.take_add_one, List.getElem?_map, List.getElem?_eq_getElem hi]
   simp
  exact (congrArg (fun z => laws_toStepS.l0 k l z ((i : Int) + 1)) hset).trans (by exact_mod_cast ih (i + 1) (by omega) k (by omega))
theorem toStepS_ok (l : List S69) (hl : l.length ≤ 1048576) (k : Nat) (hk : 1048577 < k) : laws_toStepS.f k l = some (l.map to72) := by
 unfold laws_toStepS.f
 rw [if_pos (by omega), if_pos (by omega), Int.toNat_natCast]
 have := toStepS_l l hl l.length 0 (by omega) k (by omega)
 simpa using this
def toP (l : List (List S69)) : List (List S72) := l.map (·.map to72)
theorem toStepSS_l (l : List (List S69)) (hl : l.length ≤ 1048576) (hb : ∀ b ∈ l, b.length ≤ 1048576) : ∀ (d i : Nat), d + i = l.length → ∀ k, 1048577 + d < k → laws_toStepSS.l0 k l ((toP l).take i ++ List.replicate d []) i = some (toP l) := by
 intro d
 induction d with
 | zero =>
  intro i hd k hk
  obtain ⟨k, rfl⟩ : ∃ z, k = z + 1 := ⟨k - 1, by omega⟩
  rw [laws_toStepSS.l0, if_neg (by omega), List.take_of_length_le (by simp [toP]; omega)]
  simp
 | succ d ih =>
  intro i hd k hk
  obtain ⟨k, rfl⟩ : ∃ z, k = z + 1 := ⟨k - 1, by omega⟩
  have hi : i < l.length := by omega
  have hlen : ((toP l).take i ++ List.replicate (d + 1) []).length = l.length := by simp [toP]; omega
  have htl : ((toP l).take i).length = i := by simp [toP]; omega
  rw [laws_toStepSS.l0, if_pos (by omega), if_pos (by omega), rd2_at l i hi, toStepS_ok _ (hb _ (List.getElem_mem hi)) k (by omega), Option.bind_some, if_pos (by rw [hlen]; omega), wrap_in (by omega) (by omega), Int.toNat_natCast]
  have hset : ((toP l).take i ++ List.replicate (d + 1) []).set i (l[i].map to72) = (toP l).take (i + 1) ++ List.replicate d [] := by
   rw [List.set_append_right _ _ (by omega), htl, Nat.sub_self, List.replicate_succ, List.set_cons_zero, List.take_add_one]
   have : (toP l)[i]? = some (l[i].map to72) := by unfold toP; rw [List.getElem?_map, List.getElem?_eq_getElem hi]; rfl
   rw [this]
   simp
  exact (congrArg (fun z => laws_toStepSS.l0 k l z ((i : Int) + 1)) hset).trans (by exact_mod_cast ih (i + 1) (by omega) k (by omega))
theorem toProgram_ok (l : List (List S69)) (hl : l.length ≤ 1048576) (hb : ∀ b ∈ l, b.length ≤ 1048576) (k : Nat) (hk : 2097154 < k) : laws_toProgram.f k l = some (toP l) := by
 unfold laws_toProgram.f laws_toStepSS.f
 rw [if_pos (by omega), if_pos (by omega), Int.toNat_natCast]
 have := toStepSS_l l hl hb l.length 0 (by omega) k (by omega)
 simp only [List.take_zero, List.nil_append, Int.natCast_zero] at this
 rw [this, Option.bind_some]
theorem eqStepS_l (l : List S72) (hl : l.length ≤ 1048576) : ∀ (d i : Nat), d + i = l.length → ∀ k, d < k → laws_eqStepS.l0 k l l i = some true := by
 intro d
 induction d with
 | zero =>
  intro i hd k hk
  obtain ⟨k, rfl⟩ : ∃ z, k = z + 1 := ⟨k - 1, by omega⟩
  rw [laws_eqStepS.l0, if_neg (by omega)]
 | succ d ih =>
  intro i hd k hk
  obtain ⟨k, rfl⟩ : ∃ z, k = z + 1 := ⟨k - 1, by omega⟩
  rw [laws_eqStepS.l0, if_pos (by omega), if_pos (by omega), if_pos (by omega), laws_eqStep.f, if_pos rfl, if_pos rfl, if_pos rfl, Option.bind_some, if_pos rfl, wrap_in (by omega) (by omega)]
  exact_mod_cast ih (i + 1) (by omega) k (by omega)
theorem eqStepSS_l (l : List (List S72)) (hl : l.length ≤ 1048576) (hb : ∀ b ∈ l, b.length ≤ 1048576) : ∀ (d i : Nat), d + i = l.length → ∀ k, 1048577 + d < k → laws_eqStepSS.l0 k l l i = some true := by
 intro d
 induction d with
 | zero =>
  intro i hd k hk
  obtain ⟨k, rfl⟩ : ∃ z, k = z + 1 := ⟨k - 1, by omega⟩
  rw [laws_eqStepSS.l0, if_neg (by omega)]
 | succ d ih =>
  intro i hd k hk
  obtain ⟨k, rfl⟩ : ∃ z, k = z + 1 := ⟨k - 1, by omega⟩
  have hi : i < l.length := by omega
  have hbi := hb _ (List.getElem_mem hi)
  have h1 := eqStepS_l l[i] hbi l[i].length 0 (by omega) k (by omega)
  rw [Int.natCast_zero] at h1
  rw [laws_eqStepSS.l0, if_pos (by omega), if_pos (by omega), if_pos (by omega), rd4_at l i hi, laws_eqStepS.f, if_pos rfl, h1, Option.bind_some, if_pos rfl, wrap_in (by omega) (by omega)]
  exact_mod_cast ih (i + 1) (by omega) k (by omega)
theorem eqProgram_ok (l : List (List S72)) (hl : l.length ≤ 1048576) (hb : ∀ b ∈ l, b.length ≤ 1048576) (k : Nat) (hk : 2097154 < k) : laws_eqProgram.f k l l = some true := by
 unfold laws_eqProgram.f laws_eqStepSS.f
 have := eqStepSS_l l hl hb l.length 0 (by omega) k (by omega)
 rw [Int.natCast_zero] at this
 rw [if_pos rfl, this, Option.bind_some, if_pos rfl]
theorem own_l (l : List (List S72)) (hl : l.length ≤ 1048576) (hb : ∀ b ∈ l, b.length ≤ 1048576) : ∀ (d i : Nat), d + i = l.length → ∀ k, d < k → spec_l2Own.l0 k i l (l.take i) = some l := by
 intro d
 induction d with
 | zero =>
  intro i hd k hk
  obtain ⟨k, rfl⟩ : ∃ z, k = z + 1 := ⟨k - 1, by omega⟩
  rw [spec_l2Own.l0, if_neg (by omega), List.take_of_length_le (by omega)]
 | succ d ih =>
  intro i hd k hk
  obtain ⟨k, rfl⟩ : ∃ z, k = z + 1 := ⟨k - 1, by omega⟩
  have hi : i < l.length := by omega
  have hbi := hb _ (List.getElem_mem hi)
  rw [spec_l2Own.l0, if_pos (by omega), Option.bind_some, if_pos (by omega), rd4_at l i hi, if_pos (by simp only [List.length_nil]; omega), if_pos (by rw [List.length_take]; omega), wrap_in (by omega) (by omega), List.nil_append]
  have : l.take i ++ [l[i]] = l.take (i + 1) := by rw [List.take_add_one, List.getElem?_eq_getElem hi]; rfl
  rw [this]
  exact_mod_cast ih (i + 1) (by omega) k (by omega)
theorem own_ok (l : List (List S72)) (hl : l.length ≤ 1048576) (hb : ∀ b ∈ l, b.length ≤ 1048576) (k : Nat) (hk : 1048577 < k) : spec_l2Own.f k l = some l := by
 unfold spec_l2Own.f
 have := own_l l hl hb l.length 0 (by omega) k (by omega)
 rw [Int.natCast_zero, List.take_zero] at this
 exact this
theorem copied_l (l : List (List S72)) (hl : l.length ≤ 1048576) (hb : ∀ b ∈ l, b.length ≤ 1048576) : ∀ (d i : Nat), d + i = l.length → ∀ k, d < k → impl_Program_copied.l0 k l (l.length : Int) i (l.take i) = some l := by
 intro d
 induction d with
 | zero =>
  intro i hd k hk
  obtain ⟨k, rfl⟩ : ∃ z, k = z + 1 := ⟨k - 1, by omega⟩
  rw [impl_Program_copied.l0, if_neg (by omega), List.take_of_length_le (by omega)]
 | succ d ih =>
  intro i hd k hk
  obtain ⟨k, rfl⟩ : ∃ z, k = z + 1 := ⟨k - 1, by omega⟩
  have hi : i < l.length := by omega
  have hbi := hb _ (List.getElem_mem hi)
  rw [impl_Program_copied.l0, if_pos (by omega), if_pos (by omega), if_pos (by omega), rd4_at l i hi, slices_CloneStep.f, if_pos (by omega), Option.bind_some, if_pos (by rw [List.length_take]; omega), wrap_in (by omega) (by omega)]
  have : l.take i ++ [l[i]] = l.take (i + 1) := by rw [List.take_add_one, List.getElem?_eq_getElem hi]; rfl
  rw [this]
  exact_mod_cast ih (i + 1) (by omega) k (by omega)
theorem copied_ok (l : List (List S72)) (hl : l.length ≤ 1048576) (hb : ∀ b ∈ l, b.length ≤ 1048576) (k : Nat) (hk : 1048577 < k) : impl_Program_copied.f k l = some l := by
 unfold impl_Program_copied.f
 have := copied_l l hl hb l.length 0 (by omega) k (by omega)
 rw [Int.natCast_zero, List.take_zero] at this
 exact this
end Go.Proofs.Ythdhhpcbagpmgaa.PureL
end

section
namespace Go.Proofs.Ythdhhpcbagpmgaa.Pr
open Go.RowKit Go.Proofs.YthdhhpcbagpmgaaW.PrintWords Go.Proofs.YthdhhpcbagpmgaaW.PrintLast Go.Proofs.YthdhhpcbagpmgaaW.PrintMore
attribute [local go_sem] max2_int min2_int max_two min_two max_three min_three max_four min_four
set_option linter.unusedVariables false
set_option linter.unusedSimpArgs false

end Go.Proofs.Ythdhhpcbagpmgaa.Pr
end

section
set_option linter.unusedVariables false
set_option linter.unusedSimpArgs false
namespace Go.Proofs.Ythdhhpcbagpmgaa.PureL
open Go.RowKit Go.Proofs.Ythdhhpcbagpmgaa.Pr Go.Proofs.YthdhhpcbagpmgaaW.PrintWords Go.Proofs.YthdhhpcbagpmgaaW.PrintLast
def mk3 : Int → Nat → List S72
 | _, 0 => []
 | a, n + 1 => ⟨a, a + 1, a + 2⟩ :: mk3 (a + 3) n
def marks : Int → List (List S72) → List (List S72)
 | _, [] => []
 | a, b :: l => mk3 a b.length :: marks (a + 3 * b.length) l
theorem rd72_mid (d t : List S72) (s : S72) : rd_T72 (d ++ s :: t) (d.length : Int) = s := by rw [rd72_at _ _ (by simp)]; simp
theorem rd4_mid (d t : List (List S72)) (s : List S72) : rd_L4 (d ++ s :: t) (d.length : Int) = s := by rw [rd4_at _ _ (by simp)]; simp
theorem set_mid {α : Type} (d t : List α) (s v : α) : (d ++ s :: t).set d.length v = d ++ v :: t := by rw [List.set_append_right _ _ (Nat.le_refl _), Nat.sub_self, List.set_cons_zero]
theorem markStepS_l : ∀ (t d : List S72) (a : Int), 0 ≤ a → a + 3 * t.length ≤ 1000000000 → d.length + t.length ≤ 100000000 → ∀ k, t.length < k → laws_markStepS.l0 k (d ++ t) a d.length = some (a + 3 * t.length, d ++ mk3 a t.length) := by
 intro t
 induction t with
 | nil =>
  intro d a h0 h1 h2 k hk
  obtain ⟨k, rfl⟩ : ∃ z, k = z + 1 := ⟨k - 1, by omega⟩
  rw [laws_markStepS.l0, if_neg (by simp)]
  simp [mk3]
 | cons s t ih =>
  intro d a h0 h1 h2 k hk
  simp only [List.length_cons] at h1 h2 hk
  obtain ⟨k, rfl⟩ : ∃ z, k = z + 1 := ⟨k - 1, by omega⟩
  rw [laws_markStepS.l0, if_pos (by simp; omega), if_pos (by omega), Option.bind_some]
  simp only [Int.toNat_natCast, set_mid, Option.bind_some, rd72_mid]
  rw [wrap_in (i := a + 1) (by omega) (by omega), wrap_in (i := a + 1 + 1) (by omega) (by omega), wrap_in (i := a + 1 + 1 + 1) (by omega) (by omega), wrap_in (i := (d.length : Int) + 1) (by omega) (by omega)]
  have h := ih (d ++ [⟨a, a + 1, a + 2⟩]) (a + 3) (by omega) (by push_cast at h1 ⊢; omega) (by simp; omega) k (by omega)
  simp only [List.append_assoc, List.singleton_append, List.length_append, List.length_singleton] at h
  have e1 : a + 1 + 1 = a + 2 := by omega
  have e2 : a + 1 + 1 + 1 = a + 3 := by omega
  rw [e2, e1]
  push_cast at h ⊢
  rw [h]
  simp only [List.length_cons, mk3]
  congr 2
  push_cast
  omega
theorem heldStepS_l : ∀ (n : Nat) (d : List S72) (a : Int), 0 ≤ a → a + 3 * n ≤ 1000000000 → d.length + n ≤ 100000000 → ∀ k, n < k → laws_heldStepS.l0 k (d ++ mk3 a n) a d.length = some (a + 3 * n) := by
 intro n
 induction n with
 | zero =>
  intro d a h0 h1 h2 k hk
  obtain ⟨k, rfl⟩ : ∃ z, k = z + 1 := ⟨k - 1, by omega⟩
  rw [laws_heldStepS.l0, if_neg (by simp [mk3])]
  simp
 | succ n ih =>
  intro d a h0 h1 h2 k hk
  obtain ⟨k, rfl⟩ : ∃ z, k = z + 1 := ⟨k - 1, by omega⟩
  rw [mk3, laws_heldStepS.l0, if_pos (by simp; omega), if_pos (by omega), rd72_mid, wrap_in (i := a + 1) (by omega) (by omega), wrap_in (i := a + 1 + 1) (by omega) (by omega), wrap_in (i := a + 1 + 1 + 1) (by omega) (by omega), wrap_in (i := (d.length : Int) + 1) (by omega) (by omega), if_pos rfl, if_pos rfl, if_pos (by dsimp only; omega)]
  have h := ih (d ++ [⟨a, a + 1, a + 2⟩]) (a + 3) (by omega) (by omega) (by simp; omega) k (by omega)
  simp only [List.append_assoc, List.singleton_append, List.length_append, List.length_singleton] at h
  have e2 : a + 1 + 1 + 1 = a + 3 := by omega
  rw [e2]
  push_cast at h ⊢
  rw [h]
  congr 1
  omega
theorem total_cons {α : Type} (b : List α) (l : List (List α)) : total (b :: l) = b.length + total l := by simp [total]
theorem markSS_g (k : Nat) (hk : 10000000 < k) : ∀ (l : List (List S72)) (a : Int), 0 ≤ a → a + 3 * total l ≤ 1000000000 → total l ≤ 2000000 → laws_markStepSS.g k l a = some (a + 3 * total l, marks a l) := by
 intro l
 induction l with
 | nil => intro a _ _ _; simp [laws_markStepSS.g, marks, total]
 | cons b l ih =>
  intro a h0 h1 h2
  rw [total_cons] at h1 h2
  have h := markStepS_l b [] a h0 (by push_cast at h1 ⊢; omega) (by simp; omega) k (by omega)
  simp only [List.nil_append, List.length_nil, Int.natCast_zero] at h
  rw [laws_markStepSS.g, laws_markStepS.f, h, Option.bind_some]
  dsimp only
  rw [ih (a + 3 * b.length) (by omega) (by push_cast at h1 ⊢; omega) (by omega), Option.bind_some, marks, total_cons]
  dsimp only
  congr 2
  push_cast
  omega
theorem heldSS_l : ∀ (l d : List (List S72)) (a : Int), 0 ≤ a → a + 3 * total l ≤ 1000000000 → total l ≤ 2000000 → d.length + l.length ≤ 2000000 → ∀ k, 10000000 + l.length < k → laws_heldStepSS.l0 k (d ++ marks a l) a d.length = some (a + 3 * total l) := by
 intro l
 induction l with
 | nil =>
  intro d a h0 h1 h2 h3 k hk
  obtain ⟨k, rfl⟩ : ∃ z, k = z + 1 := ⟨k - 1, by omega⟩
  rw [laws_heldStepSS.l0, if_neg (by simp [marks])]
  simp [total]
 | cons b l ih =>
  intro d a h0 h1 h2 h3 k hk
  rw [total_cons] at h1 h2
  simp only [List.length_cons] at h3 hk
  obtain ⟨k, rfl⟩ : ∃ z, k = z + 1 := ⟨k - 1, by omega⟩
  have h := heldStepS_l b.length [] a h0 (by push_cast at h1 ⊢; omega) (by simp; omega) k (by omega)
  simp only [List.nil_append, List.length_nil, Int.natCast_zero] at h
  rw [marks, laws_heldStepSS.l0, if_pos (by simp; omega), if_pos (by omega), rd4_mid, laws_heldStepS.f, h, Option.bind_some, if_neg (by omega), wrap_in (i := (d.length : Int) + 1) (by omega) (by omega)]
  have h4 := ih (d ++ [mk3 a b.length]) (a + 3 * b.length) (by omega) (by push_cast at h1 ⊢; omega) (by omega) (by simp; omega) k (by omega)
  simp only [List.append_assoc, List.singleton_append, List.length_append, List.length_singleton] at h4
  push_cast at h4 ⊢
  rw [h4, total_cons]
  congr 1
  push_cast
  omega
theorem mark_ok (l : List (List S72)) (h : total l ≤ 1048576) (k : Nat) (hk : 20000000 < k) : laws_markStepSS.f k l 1 = some (1 + 3 * (total l : Int), marks 1 l) := markSS_g k (by omega) l 1 (by omega) (by omega) (by omega)
theorem sin_eq (a b c : Int) : spec_l1In.f a b c = some (decide (b ≤ a ∧ a ≤ c)) := by
 unfold spec_l1In.f
 by_cases h : a ≥ b
 ·rw [if_pos h]; simp [show b ≤ a from h]
 ·rw [if_neg h]; simp [show ¬ b ≤ a from h]
theorem sStep_eq (l : List (List S72)) (s : S72) (hl : l.length ≤ 6) (k : Nat) (hk : 2 < k) : spec_l2Step.f k l s.f0 s.f1 s.f2 = some (stepOk (l.length : Int) s) := by
 obtain ⟨a, b, c⟩ := s
 obtain ⟨k, rfl⟩ : ∃ z, k = z + 1 := ⟨k - 1, by omega⟩
 obtain ⟨k, rfl⟩ : ∃ z, k = z + 1 := ⟨k - 1, by omega⟩
 have hw : wrap64 ((l.length : Int) - 1) = (l.length : Int) - 1 := wrap_in (by omega) (by omega)
 simp only [stepOk, spec_l2Step.f, spec_l2Step.j0, spec_l2Step.j1, spec_l2Reg.f, spec_l2Number.f, spec_l2Function.f, sin_eq, Option.bind_some, hw]
 generalize (l.length : Int) = n
 by_cases k1 : a = 1
 ·subst k1
  rw [if_pos rfl]
  by_cases hb : 0 ≤ b ∧ b ≤ 3 <;> by_cases hc : -32768 ≤ c ∧ c ≤ 32767 <;> simp [hb, hc]
 rw [if_neg k1]
 by_cases k2 : a = 2
 ·subst k2
  rw [if_pos rfl]
  by_cases hb : 0 ≤ b ∧ b ≤ 3 <;> by_cases hc : 0 ≤ c ∧ c ≤ 3 <;> simp [hb, hc]
 rw [if_neg k2]
 by_cases k4 : a = 4
 ·subst k4
  rw [if_pos rfl]
  by_cases hb : 0 ≤ b ∧ b ≤ n - 1 <;> by_cases hc : 0 ≤ c ∧ c ≤ 3 <;> simp [hb, hc]
 rw [if_neg k4]
 by_cases k5 : a = 5
 ·subst k5
  by_cases hb : 0 ≤ b ∧ b ≤ n - 1 <;> by_cases hc : 0 ≤ c ∧ c ≤ 3 <;> simp [hb, hc]
 have e5 : (a == 5) = false := by simp [k5]
 rw [e5, if_neg (by simp)]
 by_cases k10 : a = 10
 ·subst k10
  by_cases hb : b = 0 <;> by_cases hc : c = 0 <;> simp [hb, hc]
 by_cases k11 : a = 11
 ·subst k11
  by_cases hb : 0 ≤ b ∧ b ≤ 8 <;> by_cases hc : 0 ≤ c ∧ c ≤ 3 <;> simp [hb, hc]
 by_cases hb : 0 ≤ b ∧ b ≤ 3 <;> by_cases hc : c = 0 <;> by_cases k3 : a = 3 <;> by_cases k6 : a = 6 <;> by_cases k7 : a = 7 <;> by_cases k8 : a = 8 <;> by_cases k9 : a = 9 <;> by_cases k12 : a = 12 <;> by_cases k13 : a = 13 <;> simp_all
 all_goals (have hq : ¬ (0 ≤ b ∧ b ≤ 3) := fun h => by have := hb h.1; omega)
 all_goals (rw [if_neg hq, ← Bool.decide_and, decide_eq_false hq])
theorem prog_l1 (l : List (List S72)) (hl : l.length ≤ 6) (i : Nat) (hi : i < l.length) (hb : l[i].length ≤ 8) : ∀ (d j : Nat), d + j = l[i].length → ∀ k, 10 + d < k →
  ∃ k', k ≤ k' + d + 1 ∧ spec_l2Program.l1 k i j l = if ((l[i].drop j).all (stepOk (l.length : Int))) = true then spec_l2Program.l0 k' ((i + 1 : Nat) : Int) l else some false := by
 intro d
 induction d with
 | zero =>
  intro j hd k hk
  obtain ⟨k, rfl⟩ : ∃ z, k = z + 1 := ⟨k - 1, by omega⟩
  refine ⟨k, by omega, ?_⟩
  rw [spec_l2Program.l1, if_pos (by omega), if_pos (by omega), rd4_at l i hi, if_neg (by omega), wrap_in (by omega) (by omega), List.drop_eq_nil_of_le (by omega)]
  simp
 | succ d ih =>
  intro j hd k hk
  obtain ⟨k, rfl⟩ : ∃ z, k = z + 1 := ⟨k - 1, by omega⟩
  have hj : j < l[i].length := by omega
  obtain ⟨k', h1, h2⟩ := ih (j + 1) (by omega) k (by omega)
  have hdrop : l[i].drop j = l[i][j] :: l[i].drop (j + 1) := List.drop_eq_getElem_cons hj
  refine ⟨k', by omega, ?_⟩
  rw [spec_l2Program.l1, if_pos (by omega), if_pos (by omega), rd4_at l i hi, if_pos (by omega), if_pos (by omega), rd72_at _ j hj, sStep_eq l l[i][j] hl k (by omega), Option.bind_some, wrap_in (by omega) (by omega), hdrop]
  cases hs : stepOk (l.length : Int) l[i][j] with
  | true =>
   rw [if_pos rfl, List.all_cons, hs, Bool.true_and]
   exact_mod_cast h2
  | false =>
   rw [if_neg (by simp), List.all_cons, hs, Bool.false_and, if_neg (by simp)]
theorem prog_l0 (l : List (List S72)) (hl : l.length ≤ 6) : ∀ (d i : Nat), d + i = l.length → ∀ k, 100 * d + 20 < k → spec_l2Program.l0 k i l = some ((l.drop i).all (bodyOk (l.length : Int))) := by
 intro d
 induction d with
 | zero =>
  intro i hd k hk
  obtain ⟨k, rfl⟩ : ∃ z, k = z + 1 := ⟨k - 1, by omega⟩
  rw [spec_l2Program.l0, if_neg (by omega), List.drop_eq_nil_of_le (by omega)]
  rfl
 | succ d ih =>
  intro i hd k hk
  obtain ⟨k, rfl⟩ : ∃ z, k = z + 1 := ⟨k - 1, by omega⟩
  have hi : i < l.length := by omega
  have hdrop : l.drop i = l[i] :: l.drop (i + 1) := List.drop_eq_getElem_cons hi
  rw [spec_l2Program.l0, if_pos (by omega), if_pos (by omega), rd4_at l i hi, hdrop, List.all_cons]
  by_cases h8 : l[i].length ≤ 8
  ·obtain ⟨k', h1, h2⟩ := prog_l1 l hl i hi h8 l[i].length 0 (by omega) k (by omega)
   rw [Int.natCast_zero, List.drop_zero] at h2
   have hk : bodyOk (l.length : Int) l[i] = l[i].all (stepOk (l.length : Int)) := by unfold bodyOk; rw [decide_eq_true h8, Bool.true_and]
   rw [if_neg (by omega), h2, hk]
   cases ha : l[i].all (stepOk (l.length : Int)) with
   | true => rw [if_pos rfl, Bool.true_and]; exact ih (i + 1) (by omega) k' (by omega)
   | false => rw [if_neg (by simp), Bool.false_and]
  ·have hk : bodyOk (l.length : Int) l[i] = false := by unfold bodyOk; rw [decide_eq_false h8, Bool.false_and]
   rw [if_pos (by omega), hk, Bool.false_and]
theorem program_ok (l : List (List S72)) (k : Nat) (hk : 1000 < k) : spec_l2Program.f k l = some (progOk l) := by
 unfold spec_l2Program.f progOk
 rw [sin_eq, Option.bind_some]
 by_cases h : 1 ≤ l.length ∧ l.length ≤ 6
 ·have := prog_l0 l h.2 l.length 0 (by omega) k (by omega)
  rw [Int.natCast_zero, List.drop_zero] at this
  rw [decide_eq_true (by omega), if_pos rfl, this, decide_eq_true h.1, decide_eq_true h.2]
  rfl
 ·rw [decide_eq_false (by omega), if_neg (by simp)]
  by_cases h1 : 1 ≤ l.length
  ·rw [decide_eq_false (show ¬ l.length ≤ 6 by omega)]; simp
  ·rw [decide_eq_false h1]; simp
end Go.Proofs.Ythdhhpcbagpmgaa.PureL
end

section
namespace Go.Proofs.Ythdhhpcbagpmgaa.Pr
open Go.RowKit Go.Proofs.YthdhhpcbagpmgaaW.PrintWords Go.Proofs.YthdhhpcbagpmgaaW.PrintLast Go.Proofs.YthdhhpcbagpmgaaW.PrintMore
set_option linter.unusedVariables false
set_option linter.unusedSimpArgs false
section
variable {P : Program}
theorem run_copy_rowN (w : World) (dT sT ty elem : TypeId) (g o dLen dCap : Nat) (a : Addr) (sLen sCap size : Nat) (cur : Array Value) (t : TypeId) (cs : List Value)
  (hu : P.underlying dT = some (.slice elem)) (hs : (P.info? elem).map (·.size) = some size)
  (hg : w.heap[g]? = some (.cells cur t (0, 0))) (hn : cs.length = Nat.min sLen dLen * size)
  (hsrc : ∀ j v, cs[j]? = some v → w.cell? (a.add j) = some v) (hfit : o + cs.length ≤ cur.size) (h1 : ∀ v ∈ cs, v.oneCell' = true) :
  (Builtin.copy_ #[dT, sT] ty #[.slice (some ⟨g, o, none⟩) dLen dCap, .slice (some a) sLen sCap]).run P w =
   .ok (goInt (Nat.min sLen dLen)) (w.setRow g (cur.toList.take o ++ cs ++ cur.toList.drop (o + cs.length)).toArray) := by
 have hl := run_loadCells_list (P := P) w a cs hsrc
 have hst := run_storeCells_at P g o t cs 0 cur w hg (by simpa using hfit) h1
 rw [hn] at hl
 cases hq : P.info? elem with
 | none => simp [hq] at hs
 | some i =>
  have hi : i.size = size := by simpa [hq] using hs
  simp [Builtin.copy_, run_underlying hu, Builtin.lenOf, Builtin.firstCells, sizeOf, typeInfo, hq, hi, hl, hst]
theorem wpList_copy_run (w : World) {ops : Array Oper} {rest : List Oper} {o : Oper} {a : Act} {Q : Exit → Act → World → Prop} (hgd : o.guard = none) (d s : Operand) (t t' : TypeId)
  (ho : o.op = .call { callee := .builtin .copy, args := #[d, s], argTypes := #[t, t'] }) (v u : Value) (hd : a.eval d = v) (hs : a.eval s = u) {v' : Value} {w' : World}
  (hr : (Builtin.copy_ #[t, t'] o.type #[v, u]).run P w = .ok v' w') (h : wpList P ops Q rest (a.put o.dst v') w') : wpList P ops Q (o :: rest) a w :=
 wpList_plain hgd fun _ hK => by
  unfold Oper.wp execOp
  simp only [ho, resolve, invoke, builtin, Sem.run_bind, Sem.run_pure, Result.andThen_ok, List.map_toArray, List.map_cons, List.map_nil, hd, hs, hr]
  exact hK _ _ h
theorem step_copy_run {ops : Array Oper} {o : Oper} {a : Act} {w : World} {K : Act → World → Prop} {Q : Exit → Act → World → Prop} {E : Prop}
  (hg : o.guard = none) (d x : Operand) (dT sT : TypeId) (hop : o.op = Op.call { callee := Callee.builtin Builtin.copy, args := #[d, x], argTypes := #[dT, sT] })
  (v u : Value) (hd : a.eval d = v) (hx : a.eval x = u) {v' : Value} {w' : World} (hr : (Builtin.copy_ #[dT, sT] o.type #[v, u]).run P w = .ok v' w') (hK : K (a.put o.dst v') w') :
  if Region.wanted o (yielded ops a.tmps) = true then Oper.wp P o a w K Q else E := by
 have hw : Region.wanted o (yielded ops a.tmps) = true := by simp [Region.wanted, hg]
 rw [if_pos hw]
 unfold Oper.wp
 simp [execOp, hop, resolve, invoke, builtin, hd, hx, hr, Result.andThen]
 exact hK
theorem wpList_append_run' (w : World) {ops : Array Oper} {rest : List Oper} {o : Oper} {a : Act} {Q : Exit → Act → World → Prop} (hgd : o.guard = none) (d s : Operand) (t t' : TypeId)
  (ho : o.op = .call { callee := .builtin .append, args := #[d, s], argTypes := #[t, t'] }) (v u : Value) (hd : a.eval d = v) (hs : a.eval s = u) {v' : Value} {w' : World}
  (hr : (Builtin.append_ #[t, t'] o.type #[v, u]).run P w = .ok v' w') (h : wpList P ops Q rest (a.put o.dst v') w') : wpList P ops Q (o :: rest) a w :=
 wpList_plain hgd fun _ hK => by
  unfold Oper.wp execOp
  simp only [ho, resolve, invoke, builtin, Sem.run_bind, Sem.run_pure, Result.andThen_ok, List.map_toArray, List.map_cons, List.map_nil, hd, hs, hr]
  exact hK _ _ h
theorem cut_up (t e : TypeId) (kh : IntKind) {i : TypeInfo} (ht : P.underlying t = some (.slice e)) (hi : P.info? e = some i) (A : Option Addr) (n c : Nat) (j : Int) (h0 : 0 ≤ j) (hm : j ≤ c) :
  ∀ W : World, (Instr.slice t (.slice A n c) none (some (.int kh j)) none).run P W = .ok (.slice A j.toNat c) W := by
 intro W
 have hel : P.elem t = e := by simp [Program.elem, ht]
 have hu : P.underlying t = some (.slice (P.elem t)) := by rw [hel]; exact ht
 have ha : (A.map fun x => x.add 0) = A := by cases A <;> simp [Addr.add]
 rw [run_slice_h W t A n c hu kh j h0 (by omega), hel]
 simp [sizeOf, typeInfo, hi, sliced, Result.andThen, ha]
theorem run_zeros_new (w : World) (t ti ty e : TypeId) (i : TypeInfo) (z : Value) (ht : P.underlying t = some (.slice e)) {k : IntKind} (hti : P.underlying ti = some (.int k)) (hi : P.info? e = some i) (hz : i.zero = some z)
  (hzs : z.cells.size = i.size) (hsz : 0 < i.size) (hb0 : 0 < i.bytes) (A : Option Addr) (n cap : Nat) (xs : List Value) (kx : IntKind) (m : Nat) (hm0 : 0 < m) (hcap : cap < n + m)
  (hbytes : (n + m) * i.bytes ≤ 140737488355328) (hfo : (Builtin.firstCells i.size n (.slice A n cap)).run P w.drew = .ok xs.toArray w.drew) (hxl : xs.length = n * i.size) :
  ∃ (c' : Nat) (cells : Array Value), n + m ≤ c' ∧ c' ≤ maxLen ∧ cells.size = c' * i.size ∧ cells.toList.take (n * i.size) = xs ∧
   (Builtin.append_ #[t, ti] ty #[.slice A n cap, .int kx m]).run P w = .ok (.slice (some ⟨w.heap.size, 0, none⟩) (n + m) c') (w.drew.alloc (.cells cells e)) := by
 have hle : n + m ≤ 140737488355328 := Nat.le_trans (Nat.le_mul_of_pos_right _ hb0) hbytes
 have h63 : n + m ≤ maxLen := by simp only [maxLen]; omega
 have hw : IntKind.i64.wrap (m : Int) = m := by rw [IntKind.wrap_i64]; omega
 have hneg : ¬ ((m : Int) < 0) := by omega
 have hmb : m * i.bytes ≤ 140737488355328 := Nat.le_trans (Nat.mul_le_mul_right _ (Nat.le_add_left m n)) hbytes
 have hbig : ¬ (281474976710656 < (m : Int) * (i.bytes : Int)) := by
  rw [← Int.natCast_mul]
  omega
 have hsn : i.size ≠ 0 := by omega
 have hn : ¬ (n + m ≤ cap) := by omega
 have h63' : ¬ (9223372036854775807 < ((n : Int) + (m : Int))) := by omega
 have hfit := growslice_fits hcap hbytes
 have h48' : ¬ (281474976710656 < Builtin.nextslicecap (n + m) cap * i.bytes) := by omega
 have hmz : ¬ (m * i.size = 0) := Nat.mul_ne_zero (by omega) hsn
 have hge := grownCap_ge w (n + m) cap e
 have hcm : grownCap w (n + m) cap e ≤ maxLen := grownCap_le_maxLen w (n + m) cap e h63
 refine ⟨grownCap w (n + m) cap e, xs.toArray ++ Builtin.zeroCells z.cells m ++ Builtin.zeroCells z.cells (grownCap w (n + m) cap e - (n + m)), hge, hcm, ?_, ?_, ?_⟩
 ·simp only [Array.size_append, List.size_toArray, size_zeroCells, hzs, hxl, ← Nat.add_mul]
  congr 1
  omega
 ·simp only [Array.toList_append, List.append_assoc]
  rw [← hxl]
  exact List.take_left
 ·simp [Builtin.append_, run_underlying ht, run_underlying hti, sizeOf, typeInfo, zeroValue, hi, hz, asInt, asIntOf, hw, hneg, hbig, hn, h63', h48', Question.forced, hfo, newRow, grownCap, hmz]
end
def encS (s : S72) : List Value := [.int .i64 s.f0, .int .i64 s.f1, .int .i64 s.f2]
def encSS (l : List S72) : List Value := l.flatMap encS
theorem encSS_length (l : List S72) : (encSS l).length = l.length * 3 := by
 unfold encSS
 induction l with
 | nil => rfl
 | cons x l ih => rw [List.flatMap_cons, List.length_append, ih, List.length_cons]; simp only [encS, List.length_cons, List.length_nil]; omega
theorem encSS_one (l : List S72) : ∀ v ∈ encSS l, v.oneCell' = true := by
 intro v hv
 obtain ⟨s, _, hv⟩ := List.mem_flatMap.1 hv
 simp only [encS, List.mem_cons, List.not_mem_nil, or_false] at hv
 rcases hv with rfl | rfl | rfl <;> rfl
theorem encSS_append (l m : List S72) : encSS (l ++ m) = encSS l ++ encSS m := by simp [encSS]
theorem encSS_take (l : List S72) (i : Nat) : (encSS l).take (i * 3) = encSS (l.take i) := by
 induction l generalizing i with
 | nil => simp [encSS]
 | cons x l ih =>
  cases i with
  | zero => simp [encSS]
  | succ i =>
   have h := ih i
   rw [List.take_succ_cons]
   show (encS x ++ encSS l).take ((i + 1) * 3) = encS x ++ encSS (l.take i)
   rw [List.take_append, ← h, List.take_of_length_le (by simp [encS]; omega)]
   simp only [encS, List.length_cons, List.length_nil]
   rw [show (i + 1) * 3 - (0 + 1 + 1 + 1) = i * 3 by omega]
theorem encSS_drop (l : List S72) (i : Nat) : (encSS l).drop (i * 3) = encSS (l.drop i) := by
 induction l generalizing i with
 | nil => simp [encSS]
 | cons x l ih =>
  cases i with
  | zero => simp [encSS]
  | succ i =>
   have h := ih i
   rw [List.drop_succ_cons, ← h]
   show (encS x ++ encSS l).drop ((i + 1) * 3) = _
   rw [List.drop_append, List.drop_of_length_le (by simp [encS]; omega), List.nil_append]
   simp only [encS, List.length_cons, List.length_nil]
   rw [show (i + 1) * 3 - (0 + 1 + 1 + 1) = i * 3 by omega]
theorem reps_encSS {w : World} {base : Nat} {ok : Nat → Prop} (l : List S72) : Reps (k72.M w base ok) 3 l (encSS l) := by
 refine ⟨encSS_length l, fun j p hj => ?_⟩
 have hjl : j < l.length := (List.getElem?_eq_some_iff.1 hj).1
 have : ((encSS l).drop (j * 3)).take 3 = encS p := by
  rw [encSS_drop, show (3 : Nat) = 1 * 3 from rfl, encSS_take]
  obtain ⟨_, hp⟩ := List.getElem?_eq_some_iff.1 hj
  rw [List.drop_eq_getElem_cons hjl, hp]
  simp [encSS]
 rw [this]
 exact k72_mkM w base ok p
theorem encSS_of_reps {w : World} {base : Nat} {ok : Nat → Prop} {l : List S72} {cs : List Value} (h : Reps (k72.M w base ok) 3 l cs) : cs = encSS l := by
 obtain ⟨hl, h⟩ := h
 induction l generalizing cs with
 | nil => exact List.eq_nil_of_length_eq_zero (by simpa using hl)
 | cons x l ih =>
  have h0 := k72_openM (h 0 x rfl)
  have hl' : cs.length = l.length * 3 + 3 := by rw [hl, List.length_cons]; omega
  have hx : cs = cs.take 3 ++ cs.drop 3 := (List.take_append_drop 3 cs).symm
  rw [hx]
  simp only [Nat.zero_mul, List.drop_zero] at h0
  rw [h0]
  have := ih (cs := cs.drop 3) (by rw [List.length_drop]; omega) (fun j p hj => by
   have := h (j + 1) p (by rw [List.getElem?_cons_succ]; exact hj)
   rwa [show (j + 1) * 3 = 3 + j * 3 by omega, ← List.drop_drop] at this)
  rw [this]
  rfl
theorem R72_iff {W : World} {base : Nat} {ok : Nat → Prop} {v : Value} {xs : List S72} : Kd.R k72 72 W base ok v xs ↔ (∀ k, v.ownBlock = some k → ok k) ∧ W.ownsRow base 72 3 v xs.length (encSS xs) := by
 constructor
 ·rintro ⟨h0, inner, ho, hr⟩
  rw [encSS_of_reps hr] at ho
  exact ⟨h0, ho⟩
 ·rintro ⟨h0, ho⟩
  exact ⟨h0, _, ho, reps_encSS xs⟩
end Go.Proofs.Ythdhhpcbagpmgaa.Pr
end

section
namespace Go.Proofs.Ythdhhpcbagpmgaa.Pr
open Go.RowKit Go.Proofs.YthdhhpcbagpmgaaW.PrintWords Go.Proofs.YthdhhpcbagpmgaaW.PrintLast Go.Proofs.YthdhhpcbagpmgaaW.PrintMore
set_option linter.unusedVariables false
set_option linter.unusedSimpArgs false
def Inserted (W : World) (base : Nat) (ok : Nat → Prop) (v : Value) (l : List S72) (e : Ending) (w' : World) : Prop :=
 ∃ v', e = .returned v' ∧ Kd.R k72 72 w' base ok v' l ∧ W.grownBy w' v.ownBlock ∧ (v'.ownBlock = v.ownBlock ∨ ∃ b, v'.ownBlock = some b ∧ W.heap.size ≤ b)
set_option maxHeartbeats 4000000 in
set_option maxRecDepth 100000 in
theorem insert_end.calls (w0 W : World) (base : Nat) (ok : Nat → Prop) (A : Option Addr) (c n gv cv : Nat) (xs : List S72) (x : S72) (hn : n = xs.length)
  (HO : Kd.R k72 72 W base ok (.slice A n c) xs) (HV : Kd.C k72 W (some ⟨gv, 0, none⟩) 1 [x]) (hbig : n ≤ 1000000000)
  (HB : Below base w0 W) (hbase : base ≤ W.heap.size) (hfresh : ∀ k, W.heap.size ≤ k → ok k) :
  Calls Try.prog 100 #[.slice A n c, .int .i64 n, .slice (some ⟨gv, 0, none⟩) 1 cv] W (Inserted W base ok (.slice A n c) (xs ++ [x])) := by
 obtain ⟨i72, hi72, hz72⟩ := Option.map_eq_some_iff.1 info72
 simp only [Prod.mk.injEq] at hz72
 have qc := cut_from (P := Try.prog) 108 72 .i64 Try.underlying108 hi72 3 hz72.2.1 A n c (n : Int) (by omega) (by omega)
 clear hz72 hi72
 obtain ⟨vc, qc'⟩ : ∃ vc, ∀ W : World, (Instr.slice 108 (.slice A n c) (some (.int .i64 (n : Int))) none none).run Try.prog W = .ok vc W := ⟨_, qc⟩
 clear qc
 have H1 := Aside0.mk (And.intro HO (And.intro HV (And.intro hbig (And.intro HB (And.intro hbase (And.intro hfresh hn))))))
 clear HO HV HB hbase hfresh hn hbig
 go_enter Try.func100, Try.ntmps100
 go_wp2_with (first | ((with_reducible refine gate_dst (N := 25) rfl ?_); refine Kd.R_append_rows k72 (w0 := w0) base (by rfl) (.tmp 23) (.tmp 24) 108 72 (.agg #[(.int .i64 0), (.int .i64 0), (.int .i64 0)]) 24 rfl Try.underlying108 info72 rfl (by decide) (by omega) (.slice A n c) xs [x] _ _ _ ok (fun _ => False) rfl rfl H1.out.1 H1.out.2.1 ?aK (fun _ h => h.elim) H1.out.2.2.2.2.2.1 H1.out.2.2.2.1 H1.out.2.2.2.2.1 ?aL ?_; (case aK => intro x cs hx; exact hx); (case aL => (have := H1.out.2.2.1; have := H1.out.2.2.2.2.2.2; omega)); intro v7 w7 ho hb hg hat; have HO7 := Aside0.mk (And.intro ho (And.intro hg hat)); clear ho hb hg hat))
 go_ret
 exact ⟨_, rfl, HO7.out.1, HO7.out.2.1, HO7.out.2.2⟩
theorem setRow_at (W : World) (g : Nat) (cs : Array Value) {cur : Array Value} {t : TypeId} {fr : Nat × Nat} (hg : W.heap[g]? = some (.cells cur t fr)) : (W.setRow g cs).heap[g]? = some (.cells cs t fr) := setRow_heap W g cur cs t fr hg
theorem cells_at {W : World} {g : Nat} {cur : Array Value} {t : TypeId} (hg : W.heap[g]? = some (.cells cur t (0, 0))) (j : Nat) : W.cell? ⟨g, j, none⟩ = cur.toList[j]? := by
 rw [cell_of_row W g j cur t (0, 0) hg, Array.getElem?_toList]
theorem ins_cells (L : List Value) (k m : Nat) (c M : List Value) (hM : M.length = m) (hc : c.length = 3) (hk : k + 3 + m ≤ L.length) :
  ((L.take (k + 3) ++ M ++ L.drop (k + 3 + m)).take k ++ c ++ (L.take (k + 3) ++ M ++ L.drop (k + 3 + m)).drop (k + 3)).take (k + 3 + m) = L.take k ++ c ++ M := by
 have h1 : (L.take (k + 3)).length = k + 3 := by rw [List.length_take]; omega
 have h2 : (L.take (k + 3) ++ M ++ L.drop (k + 3 + m)).take k = L.take k := by
  rw [List.append_assoc, List.take_append_of_le_length (by omega), List.take_take, Nat.min_eq_left (by omega)]
 have h3 : (L.take (k + 3) ++ M ++ L.drop (k + 3 + m)).drop (k + 3) = M ++ L.drop (k + 3 + m) := by
  rw [List.append_assoc, List.drop_append, h1, List.drop_of_length_le (by omega)]; simp
 rw [h2, h3, ← List.append_assoc]
 have h4 : (L.take k).length = k := by rw [List.length_take]; omega
 apply List.take_left'
 simp only [List.length_append, h4, hc, hM]
set_option maxHeartbeats 4000000 in
set_option maxRecDepth 100000 in
theorem insert_shift.calls (w0 W : World) (base : Nat) (ok : Nat → Prop) (g c n i gv cv tv : Nat) (xs : List S72) (x : S72) (hn : n = xs.length) (hi : i < n) (hroom : n + 1 ≤ c) (hgv : gv ≠ g)
  (HO : Kd.R k72 72 W base ok (.slice (some ⟨g, 0, none⟩) n c) xs) (HV : W.heap[gv]? = some (.cells (encS x).toArray tv (0, 0))) (hbig : n ≤ 1000000000) :
  Calls Try.prog 100 #[.slice (some ⟨g, 0, none⟩) n c, .int .i64 i, .slice (some ⟨gv, 0, none⟩) 1 cv] W (Inserted W base ok (.slice (some ⟨g, 0, none⟩) n c) (xs.take i ++ x :: xs.drop i)) := by
 obtain ⟨i72, hi72, hz72⟩ := Option.map_eq_some_iff.1 info72
 simp only [Prod.mk.injEq] at hz72
 obtain ⟨hok, ho⟩ := R72_iff.1 HO
 obtain ⟨hxl, ho⟩ := ho
 rcases ho with ⟨ho, _⟩ | ⟨g', c', cur, hv, hb, hg, hnc, hcm, hcs, ht⟩
 ·cases ho
 simp only [Value.slice.injEq, Option.some.injEq, Addr.mk.injEq, and_true] at hv
 obtain ⟨rfl, hn', rfl⟩ := hv
 have qc := cut_from (P := Try.prog) 108 72 .i64 Try.underlying108 hi72 3 hz72.2.1 (some ⟨g, 0, none⟩) n c (i : Int) (by omega) (by omega)
 obtain ⟨vc, q1⟩ : ∃ vc, ∀ W : World, (Instr.slice 108 (.slice (some ⟨g, 0, none⟩) n c) (some (.int .i64 (i : Int))) none none).run Try.prog W = .ok vc W := ⟨_, qc⟩
 clear qc
 have q13 : ∀ W : World, (Instr.slice 108 (.slice (some ⟨g, 0, none⟩) n c) none (some (.int .i64 ((n : Int) + 1))) none).run Try.prog W = .ok (.slice (some ⟨g, 0, none⟩) (n + 1) c) W :=
  cut_up (P := Try.prog) 108 72 .i64 Try.underlying108 hi72 (some ⟨g, 0, none⟩) n c ((n : Int) + 1) (by omega) (by omega)
 have q14 : ∀ W : World, (Instr.slice 108 (.slice (some ⟨g, 0, none⟩) (n + 1) c) (some (.int .i64 ((i : Int) + 1))) none none).run Try.prog W = .ok (.slice (some ⟨g, (i + 1) * 3, none⟩) (n - i) (c - (i + 1))) W := by
  have h := cut_from (P := Try.prog) 108 72 .i64 Try.underlying108 hi72 3 hz72.2.1 (some ⟨g, 0, none⟩) (n + 1) c ((i : Int) + 1) (by omega) (by omega)
  rw [show ((i : Int) + 1).toNat = i + 1 by omega, if_neg (by omega), show n + 1 - (i + 1) = n - i by omega] at h
  simpa only [Option.map_some, add_plain] using h
 have q15 : ∀ W : World, (Instr.slice 108 (.slice (some ⟨g, 0, none⟩) (n + 1) c) (some (.int .i64 (i : Int))) none none).run Try.prog W = .ok (.slice (some ⟨g, i * 3, none⟩) (n + 1 - i) (c - i)) W := by
  have h := cut_from (P := Try.prog) 108 72 .i64 Try.underlying108 hi72 3 hz72.2.1 (some ⟨g, 0, none⟩) (n + 1) c (i : Int) (by omega) (by omega)
  rw [show (i : Int).toNat = i by omega, if_neg (by omega)] at h
  simpa only [Option.map_some, add_plain] using h
 have hov : (callFunc 132 #[.slice (some ⟨gv, 0, none⟩) 1 cv, .slice (some ⟨g, (i + 1) * 3, none⟩) (n - i) (c - (i + 1))]).run Try.prog W = .ok (.value (.bool false)) W := by
  rw [run_callFunc_extern Try.func132 (by kernel_rfl) (by kernel_rfl) (by kernel_rfl) (e := Extern.SlicesOverlaps.overlaps #[108, 108] #[4]) (by kernel_rfl),
   Lib.run_overlaps_apart W 108 4 72 Try.underlying108 3 (fun w => by simp [sizeOf, typeInfo, hi72, hz72.2.1]) ⟨gv, 0, none⟩ ⟨g, (i + 1) * 3, none⟩ 1 cv _ _ hgv tv 72 _ _ (by simp [World.shape?, HV]; rfl) (by simp [World.shape?, hg]; rfl) (by rw [hcs]; omega) (by simp [World.frozen?, HV]) (by simp [World.frozen?, HV])]
  rfl
 have hsz : (Try.prog.info? 72).map (·.size) = some 3 := by rw [hi72]; simp [hz72.2.1]
 have hdl : (encSS (xs.drop i)).length = (n - i) * 3 := by rw [encSS_length, List.length_drop, ← hn]
 have hcl : cur.toList.length = c * 3 := by rw [Array.length_toList, hcs]
 have hat : ∀ j, j < n * 3 → cur.toList[j]? = (encSS xs)[j]? := fun j hj => by rw [← ht, List.getElem?_take, if_pos (by omega)]
 obtain ⟨R1, hR1⟩ : ∃ R1 : List Value, R1 = cur.toList.take ((i + 1) * 3) ++ encSS (xs.drop i) ++ cur.toList.drop ((i + 1) * 3 + (encSS (xs.drop i)).length) := ⟨_, rfl⟩
 obtain ⟨R2, hR2⟩ : ∃ R2 : List Value, R2 = R1.take (i * 3) ++ encS x ++ R1.drop (i * 3 + (encS x).length) := ⟨_, rfl⟩
 have hR1l : R1.length = c * 3 := by rw [hR1]; simp only [List.length_append, List.length_take, List.length_drop, hdl, hcl]; omega
 have hgd : W.drew.heap[g]? = some (.cells cur 72 (0, 0)) := hg
 have hcp1 : ∀ ty, (Builtin.copy_ #[108, 108] ty #[.slice (some ⟨g, (i + 1) * 3, none⟩) (n - i) (c - (i + 1)), .slice (some ⟨g, i * 3, none⟩) (n + 1 - i) (c - i)]).run Try.prog W.drew = .ok (goInt (Nat.min (n + 1 - i) (n - i))) (W.drew.setRow g R1.toArray) := fun ty => by
  rw [hR1]
  exact run_copy_rowN W.drew 108 108 ty 72 g ((i + 1) * 3) (n - i) _ ⟨g, i * 3, none⟩ (n + 1 - i) _ 3 cur 72 (encSS (xs.drop i)) Try.underlying108 hsz hgd (by rw [hdl]; simp only [Nat.min_def]; split <;> omega)
   (fun j v hj => by
    have hjl := (List.getElem?_eq_some_iff.1 hj).1
    rw [add_at, cells_at hgd, hat _ (by omega), ← hj, ← encSS_drop, List.getElem?_drop])
   (by rw [hcs, hdl]; omega) (encSS_one _)
 have hg1 : (W.drew.setRow g R1.toArray).heap[g]? = some (.cells R1.toArray 72 (0, 0)) := setRow_at _ _ _ hgd
 have hcp2 : ∀ ty, (Builtin.copy_ #[108, 108] ty #[.slice (some ⟨g, i * 3, none⟩) (n + 1 - i) (c - i), .slice (some ⟨gv, 0, none⟩) 1 cv]).run Try.prog (W.drew.setRow g R1.toArray) = .ok (goInt (Nat.min 1 (n + 1 - i))) ((W.drew.setRow g R1.toArray).setRow g R2.toArray) := fun ty => by
  rw [hR2]
  exact run_copy_rowN _ 108 108 ty 72 g (i * 3) (n + 1 - i) _ ⟨gv, 0, none⟩ 1 cv 3 R1.toArray 72 (encS x) Try.underlying108 hsz hg1 (by simp only [Nat.min_def, encS, List.length_cons, List.length_nil]; split <;> omega)
   (fun j v hj => by
    have h2 : (W.drew.setRow g R1.toArray).heap[gv]? = some (.cells (encS x).toArray tv (0, 0)) := (setRow_other _ _ _ _ hgv).trans HV
    rw [add_plain, cells_at h2]; exact hj)
   (by rw [List.size_toArray, hR1l]; simp only [encS, List.length_cons, List.length_nil]; omega) (by intro v hv; simp only [encS, List.mem_cons, List.not_mem_nil, or_false] at hv; rcases hv with rfl | rfl | rfl <;> rfl)
 have hfin : Inserted W base ok (.slice (some ⟨g, 0, none⟩) n c) (xs.take i ++ x :: xs.drop i) (.returned (.slice (some ⟨g, 0, none⟩) (n + 1) c)) ((W.drew.setRow g R1.toArray).setRow g R2.toArray) := by
  have hlen : (xs.take i ++ x :: xs.drop i).length = n + 1 := by simp only [List.length_append, List.length_take, List.length_cons, List.length_drop]; omega
  have hR2l : R2.length = c * 3 := by rw [hR2]; simp only [List.length_append, List.length_take, List.length_drop, hR1l, encS, List.length_cons, List.length_nil]; omega
  refine ⟨_, rfl, R72_iff.2 ⟨hok, ?_, ?_⟩, ?_, .inl rfl⟩
  ·rw [encSS_length]
  ·refine .inr ⟨g, c, R2.toArray, by rw [hlen], hb, setRow_at _ _ _ hg1, by rw [hlen]; exact hroom, hcm, by rw [List.size_toArray]; exact hR2l, ?_⟩
   rw [hlen, hR2, hR1, hdl]
   have h := ins_cells cur.toList (i * 3) ((n - i) * 3) (encS x) (encSS (xs.drop i)) hdl rfl (by rw [hcl]; omega)
   rw [show (n + 1) * 3 = i * 3 + 3 + (n - i) * 3 by omega, show (i + 1) * 3 = i * 3 + 3 by omega]
   refine Eq.trans h ?_
   have h2 : cur.toList.take (i * 3) = encSS (xs.take i) := by
    rw [← encSS_take, ← ht, List.take_take, Nat.min_eq_left (by omega)]
   rw [h2, encSS_append]
   show _ = encSS (xs.take i) ++ (encS x ++ encSS (xs.drop i))
   rw [List.append_assoc]
  ·exact ⟨rfl, rfl, rfl, by simp [World.setRow], fun k _ hk => by
    have hkg : k ≠ g := fun e => hk (by rw [e]; rfl)
    exact (setRow_other _ _ _ _ hkg).trans (setRow_other _ _ _ _ hkg)⟩
 have hw1 : IntKind.i64.wrap ((n : Int) + 1) = (n : Int) + 1 := by rw [IntKind.wrap_i64]; omega
 have hw2 : IntKind.i64.wrap ((i : Int) + 1) = (i : Int) + 1 := by rw [IntKind.wrap_i64]; omega
 have hz2 : ¬ ((i : Int) = (n : Int)) := by omega
 have hz3 : ¬ ((c : Int) < (n : Int) + 1) := by omega
 have hb1 : (0 : Int) ≤ (i : Int) + 1 := by omega
 have mixed : Try.prog.follows .mixedOrders = true := by kernel_rfl
 have HF := Aside0.mk hfin
 clear hfin hR1 hR2 hR1l hat hcl hdl hsz hg1 hgd ht hcs hnc hcm hxl hz72 hi72 hok hb hg HO HV hbig hroom hi hn' hn
 go_enter Try.func100, Try.ntmps100
 go_wp2_with (first | simp only [hov])
 go_region_law_o (refine step_copy_run rfl _ _ 108 108 rfl _ _ (by simp [Act.eval, Act.put]) (by simp [Act.eval, Act.put]) (hcp1 _) ?_)
 go_wp2_with (at_builtin; refine wpList_copy_run _ rfl _ _ 108 108 rfl _ _ rfl rfl (hcp2 _) ?_)
 go_ret
 exact HF.out
theorem grow_cells (L : List Value) (k m : Nat) (c M : List Value) (hM : M.length = m) (hc : c.length = 3) (hk : k + 3 + m ≤ L.length) :
  ((L.take k ++ c ++ L.drop (k + 3)).take (k + 3) ++ M ++ (L.take k ++ c ++ L.drop (k + 3)).drop (k + 3 + m)).take (k + 3 + m) = L.take k ++ c ++ M := by
 have h4 : (L.take k).length = k := by rw [List.length_take]; omega
 have h1 : (L.take k ++ c).length = k + 3 := by rw [List.length_append, h4, hc]
 have h2 : (L.take k ++ c ++ L.drop (k + 3)).take (k + 3) = L.take k ++ c := by
  rw [List.take_append_of_le_length (by omega), List.take_of_length_le (by omega)]
 rw [h2]
 apply List.take_left'
 simp only [List.length_append, h4, hc, hM]
set_option maxHeartbeats 4000000 in
set_option maxRecDepth 100000 in
theorem insert_grow.calls (w0 W : World) (base : Nat) (ok : Nat → Prop) (g c n i gv cv tv : Nat) (xs : List S72) (x : S72) (hn : n = xs.length) (hi : i < n) (hroom : c < n + 1)
  (HO : Kd.R k72 72 W base ok (.slice (some ⟨g, 0, none⟩) n c) xs) (HV : W.heap[gv]? = some (.cells (encS x).toArray tv (0, 0))) (hbig : n ≤ 1000000000) (hbase : base ≤ W.heap.size) (hfresh : ∀ k, W.heap.size ≤ k → ok k) :
  Calls Try.prog 100 #[.slice (some ⟨g, 0, none⟩) n c, .int .i64 i, .slice (some ⟨gv, 0, none⟩) 1 cv] W (Inserted W base ok (.slice (some ⟨g, 0, none⟩) n c) (xs.take i ++ x :: xs.drop i)) := by
 obtain ⟨i72, hi72, hz72⟩ := Option.map_eq_some_iff.1 info72
 simp only [Prod.mk.injEq] at hz72
 obtain ⟨hok, ho⟩ := R72_iff.1 HO
 obtain ⟨hxl, ho⟩ := ho
 rcases ho with ⟨ho, _⟩ | ⟨g', c', cur, hv, hb, hg, hnc, hcm, hcs, ht⟩
 ·cases ho
 simp only [Value.slice.injEq, Option.some.injEq, Addr.mk.injEq, and_true] at hv
 obtain ⟨rfl, hn', rfl⟩ := hv
 have qc := cut_from (P := Try.prog) 108 72 .i64 Try.underlying108 hi72 3 hz72.2.1 (some ⟨g, 0, none⟩) n c (i : Int) (by omega) (by omega)
 rw [show (i : Int).toNat = i by omega, if_neg (by omega)] at qc
 have q1 : ∀ W : World, (Instr.slice 108 (.slice (some ⟨g, 0, none⟩) n c) (some (.int .i64 (i : Int))) none none).run Try.prog W = .ok (.slice (some ⟨g, i * 3, none⟩) (n - i) (c - i)) W := by simpa only [Option.map_some, add_plain] using qc
 clear qc
 have q9 : ∀ W : World, (Instr.slice 108 (.slice (some ⟨g, 0, none⟩) n c) none (some (.int .i64 (i : Int))) none).run Try.prog W = .ok (.slice (some ⟨g, 0, none⟩) i c) W := by
  have h := cut_up (P := Try.prog) 108 72 .i64 Try.underlying108 hi72 (some ⟨g, 0, none⟩) n c (i : Int) (by omega) (by omega)
  rwa [show (i : Int).toNat = i by omega] at h
 have hsz : (Try.prog.info? 72).map (·.size) = some 3 := by rw [hi72]; simp [hz72.2.1]
 have hat : ∀ j, j < n * 3 → cur.toList[j]? = (encSS xs)[j]? := fun j hj => by rw [← ht, List.getElem?_take, if_pos (by omega)]
 have hgW : g < W.heap.size := (Array.getElem?_eq_some_iff.1 hg).1
 have hvW : gv < W.heap.size := (Array.getElem?_eq_some_iff.1 HV).1
 have hzero := run_zeros_new (P := Try.prog) W 108 3 108 72 i72 _ Try.underlying108 Try.underlying3 hi72 hz72.1 (by rw [hz72.2.1]; rfl) (by rw [hz72.2.1]; decide) (by rw [hz72.2.2]; decide) (some ⟨g, 0, none⟩) i c (encSS (xs.take i)) .i64 (n + 1 - i) (by omega) (by omega)
  (by rw [hz72.2.2]; omega) (by
   rw [hz72.2.1]
   have h3 : i * 3 = (encSS (xs.take i)).length := by rw [encSS_length, List.length_take, Nat.min_eq_left (by omega)]
   show (loadCells ⟨g, 0, none⟩ (i * 3)).run _ _ = _
   rw [h3]
   exact run_loadCells_list (P := Try.prog) W.drew ⟨g, 0, none⟩ (encSS (xs.take i)) (fun j v hj => by
    have hjl := (List.getElem?_eq_some_iff.1 hj).1
    rw [add_plain, cells_at (show W.drew.heap[g]? = _ from hg), hat _ (by omega), ← hj, ← encSS_take, List.getElem?_take, if_pos (by omega)])) (by rw [hz72.2.1, encSS_length, List.length_take, Nat.min_eq_left (by omega)])
 obtain ⟨c', cells, hnc', hcm', hcs', ht', hrun⟩ := hzero
 rw [show i + (n + 1 - i) = n + 1 by omega] at hnc' hrun
 rw [hz72.2.1] at hcs' ht'
 have hkk : ((n + 1 - i : Nat) : Int) = (n : Int) + 1 - (i : Int) := by omega
 rw [hkk] at hrun
 obtain ⟨N, hN⟩ : ∃ N, N = W.heap.size := ⟨_, rfl⟩
 rw [← hN] at hrun
 obtain ⟨W1, hW1⟩ : ∃ W1, W1 = W.drew.alloc (.cells cells 72) := ⟨_, rfl⟩
 rw [← hW1] at hrun
 have hgN : W1.heap[N]? = some (.cells cells 72 (0, 0)) := by rw [hW1, hN]; exact heap_alloc_new W.drew _
 have hold : ∀ k, k < W.heap.size → W1.heap[k]? = W.heap[k]? := fun k hk => by rw [hW1]; exact heap_alloc_old W.drew _ hk
 have hW1s : W1.heap.size = N + 1 := by rw [hW1, hN]; simp
 have q43 : ∀ W : World, (Instr.slice 108 (.slice (some ⟨N, 0, none⟩) (n + 1) c') (some (.int .i64 (i : Int))) none none).run Try.prog W = .ok (.slice (some ⟨N, i * 3, none⟩) (n + 1 - i) (c' - i)) W := by
  have h := cut_from (P := Try.prog) 108 72 .i64 Try.underlying108 hi72 3 hz72.2.1 (some ⟨N, 0, none⟩) (n + 1) c' (i : Int) (by omega) (by omega)
  rw [show (i : Int).toNat = i by omega, if_neg (by omega)] at h
  simpa only [Option.map_some, add_plain] using h
 have q50 : ∀ W : World, (Instr.slice 108 (.slice (some ⟨N, 0, none⟩) (n + 1) c') (some (.int .i64 ((i : Int) + 1))) none none).run Try.prog W = .ok (.slice (some ⟨N, (i + 1) * 3, none⟩) (n - i) (c' - (i + 1))) W := by
  have h := cut_from (P := Try.prog) 108 72 .i64 Try.underlying108 hi72 3 hz72.2.1 (some ⟨N, 0, none⟩) (n + 1) c' ((i : Int) + 1) (by omega) (by omega)
  rw [show ((i : Int) + 1).toNat = i + 1 by omega, if_neg (by omega), show n + 1 - (i + 1) = n - i by omega] at h
  simpa only [Option.map_some, add_plain] using h
 have hdl : (encSS (xs.drop i)).length = (n - i) * 3 := by rw [encSS_length, List.length_drop, ← hn]
 have hcl : cells.toList.length = c' * 3 := by rw [Array.length_toList, hcs']
 obtain ⟨R1, hR1⟩ : ∃ R1 : List Value, R1 = cells.toList.take (i * 3) ++ encS x ++ cells.toList.drop (i * 3 + (encS x).length) := ⟨_, rfl⟩
 obtain ⟨R2, hR2⟩ : ∃ R2 : List Value, R2 = R1.take ((i + 1) * 3) ++ encSS (xs.drop i) ++ R1.drop ((i + 1) * 3 + (encSS (xs.drop i)).length) := ⟨_, rfl⟩
 have hR1l : R1.length = c' * 3 := by rw [hR1]; simp only [List.length_append, List.length_take, List.length_drop, hcl, encS, List.length_cons, List.length_nil]; omega
 have hcp1 : ∀ ty, (Builtin.copy_ #[108, 108] ty #[.slice (some ⟨N, i * 3, none⟩) (n + 1 - i) (c' - i), .slice (some ⟨gv, 0, none⟩) 1 cv]).run Try.prog W1 = .ok (goInt (Nat.min 1 (n + 1 - i))) (W1.setRow N R1.toArray) := fun ty => by
  rw [hR1]
  exact run_copy_rowN _ 108 108 ty 72 N (i * 3) (n + 1 - i) _ ⟨gv, 0, none⟩ 1 cv 3 cells 72 (encS x) Try.underlying108 hsz hgN (by simp only [Nat.min_def, encS, List.length_cons, List.length_nil]; split <;> omega)
   (fun j v hj => by
    have h2 : W1.heap[gv]? = some (.cells (encS x).toArray tv (0, 0)) := (hold _ hvW).trans HV
    rw [add_plain, cells_at h2]; exact hj)
   (by rw [hcs']; simp only [encS, List.length_cons, List.length_nil]; omega) (by intro v hv; simp only [encS, List.mem_cons, List.not_mem_nil, or_false] at hv; rcases hv with rfl | rfl | rfl <;> rfl)
 have hg1 : (W1.setRow N R1.toArray).heap[N]? = some (.cells R1.toArray 72 (0, 0)) := setRow_at _ _ _ hgN
 have hcp2 : ∀ ty, (Builtin.copy_ #[108, 108] ty #[.slice (some ⟨N, (i + 1) * 3, none⟩) (n - i) (c' - (i + 1)), .slice (some ⟨g, i * 3, none⟩) (n - i) (c - i)]).run Try.prog (W1.setRow N R1.toArray).drew = .ok (goInt (Nat.min (n - i) (n - i))) ((W1.setRow N R1.toArray).drew.setRow N R2.toArray) := fun ty => by
  rw [hR2]
  exact run_copy_rowN _ 108 108 ty 72 N ((i + 1) * 3) (n - i) _ ⟨g, i * 3, none⟩ (n - i) _ 3 R1.toArray 72 (encSS (xs.drop i)) Try.underlying108 hsz (show (W1.setRow N R1.toArray).drew.heap[N]? = _ from hg1) (by rw [hdl]; simp only [Nat.min_def]; split <;> omega)
   (fun j v hj => by
    have hjl := (List.getElem?_eq_some_iff.1 hj).1
    have h2 : (W1.setRow N R1.toArray).drew.heap[g]? = some (.cells cur 72 (0, 0)) := ((setRow_other W1 N g _ (by omega)).trans (hold _ hgW)).trans hg
    rw [add_at, cells_at h2, hat _ (by omega), ← hj, ← encSS_drop, List.getElem?_drop])
   (by rw [List.size_toArray, hR1l, hdl]; omega) (encSS_one _)
 have hfin : Inserted W base ok (.slice (some ⟨g, 0, none⟩) n c) (xs.take i ++ x :: xs.drop i) (.returned (.slice (some ⟨N, 0, none⟩) (n + 1) c')) ((W1.setRow N R1.toArray).drew.setRow N R2.toArray) := by
  have hlen : (xs.take i ++ x :: xs.drop i).length = n + 1 := by simp only [List.length_append, List.length_take, List.length_cons, List.length_drop]; omega
  have hR2l : R2.length = c' * 3 := by rw [hR2]; simp only [List.length_append, List.length_take, List.length_drop, hR1l, hdl]; omega
  refine ⟨_, rfl, R72_iff.2 ⟨fun k hk => ?_, ?_, ?_⟩, ?_, .inr ⟨N, rfl, by omega⟩⟩
  ·simp only [Value.ownBlock, Option.some.injEq] at hk
   exact hfresh k (by omega)
  ·rw [encSS_length]
  ·refine .inr ⟨N, c', R2.toArray, by rw [hlen], by omega, setRow_at _ _ _ (show (W1.setRow N R1.toArray).drew.heap[N]? = _ from hg1), by rw [hlen]; exact hnc', hcm', by rw [List.size_toArray]; exact hR2l, ?_⟩
   rw [hlen, hR2, hR1, hdl]
   have h := grow_cells cells.toList (i * 3) ((n - i) * 3) (encS x) (encSS (xs.drop i)) hdl rfl (by rw [hcl]; omega)
   rw [show (n + 1) * 3 = i * 3 + 3 + (n - i) * 3 by omega, show (i + 1) * 3 = i * 3 + 3 by omega]
   refine Eq.trans h ?_
   rw [ht', encSS_append]
   show _ = encSS (xs.take i) ++ (encS x ++ encSS (xs.drop i))
   rw [List.append_assoc]
  ·refine ⟨by rw [hW1]; rfl, by rw [hW1]; rfl, by rw [hW1]; rfl, by simp [World.setRow, hW1s]; omega, fun k hk _ => ?_⟩
   have hkN : k ≠ N := by omega
   exact ((setRow_other _ _ _ _ hkN).trans (setRow_other W1 N k _ hkN)).trans (hold k hk)
 have hw1 : IntKind.i64.wrap ((n : Int) + 1) = (n : Int) + 1 := by rw [IntKind.wrap_i64]; omega
 have hw2 : IntKind.i64.wrap ((i : Int) + 1) = (i : Int) + 1 := by rw [IntKind.wrap_i64]; omega
 have hw3 : IntKind.i64.wrap ((n : Int) + 1 - (i : Int)) = (n : Int) + 1 - (i : Int) := by rw [IntKind.wrap_i64]; omega
 have hz2 : ¬ ((i : Int) = (n : Int)) := by omega
 have hz3 : (c : Int) < (n : Int) + 1 := by omega
 have hb1 : (0 : Int) ≤ (i : Int) + 1 := by omega
 have mixed : Try.prog.follows .mixedOrders = true := by kernel_rfl
 have HF := Aside0.mk hfin
 clear hfin hR1 hR2 hR1l hat hcl hdl hsz hg1 ht hcs hnc hcm hxl hz72 hi72 hok hb hg HO HV hbig hroom hi hn' hn hnc' hcm' hcs' ht' hkk hW1 hgN hold hW1s hgW hvW hbase hfresh hN
 go_enter Try.func100, Try.ntmps100
 go_wp2_with (first
  | (at_builtin; refine wpList_append_run' _ rfl _ _ _ _ rfl _ _ rfl rfl (hrun) ?_)
  | (at_builtin; refine wpList_copy_run _ rfl _ _ 108 108 rfl _ _ rfl rfl (hcp1 _) ?_))
 go_region_law_o (refine step_copy_run rfl _ _ 108 108 rfl _ _ (by simp [Act.eval, Act.put]) (by simp [Act.eval, Act.put]) (hcp2 _) ?_)
 go_wp2
 go_ret
 exact HF.out
end Go.Proofs.Ythdhhpcbagpmgaa.Pr
end

section
namespace Go.Proofs.Ythdhhpcbagpmgaa.Pr
open Go.RowKit Go.Proofs.YthdhhpcbagpmgaaW.PrintWords Go.Proofs.YthdhhpcbagpmgaaW.PrintLast Go.Proofs.YthdhhpcbagpmgaaW.PrintMore
attribute [local go_sem] max2_int min2_int max_two min_two max_three min_three max_four min_four
set_option linter.unusedVariables false
set_option linter.unusedSimpArgs false
def impl_isFunction.f (l0_0 : List (List (S72))) (a1 : Int) : Option (Bool) := (impl_IsProgram.f l0_0).bind fun t227 => (if t227 = true then ((impl_in.f a1 0 (wrap64 ((l0_0.length : Int) - 1))).bind fun t228 => (some t228)) else (some false))
set_option maxHeartbeats 8000000 in
set_option maxRecDepth 100000 in
theorem impl_isFunction.calls (A0_0 : Option Addr) (c0_0 : Nat) (l0_0 : List (List (S72))) (a1 : Int) (r : Bool) (w : World) (hr0_0 : Kd.C (Kd.slice 72 k72) w A0_0 l0_0.length l0_0) (hc0_0 : l0_0.length ≤ c0_0) (h : impl_isFunction.f l0_0 a1 = some r) :
  Calls Try.prog 96 #[.agg #[.slice A0_0 l0_0.length c0_0], .int .i64 a1] w fun e w' => e = .returned (.bool r) ∧ Below w.heap.size w w' := by
 have hu28 := Try.underlying28
 have HR0_0 := Aside0.mk hr0_0
 have HC0_0 := Aside0.mk hc0_0
 clear hr0_0 hc0_0
 have HB := Aside0.mk (Below.refl w.heap.size w)
 have H : ((impl_IsProgram.f l0_0).bind fun t227 => (if t227 = true then ((impl_in.f a1 0 (wrap64 ((l0_0.length : Int) - 1))).bind fun t228 => (some t228)) else (some false))) = some r := h
 clear h
 replace H := Option.bind_eq_some_iff.mp H
 obtain ⟨t227, A30, H⟩ := H
 replace H : (if t227 = true then ((impl_in.f a1 0 (wrap64 ((l0_0.length : Int) - 1))).bind fun t228 => (some t228)) else (some false)) = some r := H
 have A3 := Aside0.mk A30
 clear A30
 by_cases c4 : t227 = true
 ·subst c4
  have H1 : ((impl_in.f a1 0 (wrap64 ((l0_0.length : Int) - 1))).bind fun t228 => (some t228)) = some r := by rw [if_pos rfl] at H; exact H
  clear H
  have H := H1
  clear H1
  replace H := Option.bind_eq_some_iff.mp H
  obtain ⟨t228, A50, H⟩ := H
  replace H : (some t228) = some r := H
  have A5 := Aside0.mk A50
  clear A50
  obtain rfl := Option.some.inj H
  go_enter Try.func96, Try.ntmps96
  go_wp2_with (first | ((with_reducible refine gate_dst (N := 2) rfl ?_); (try (refine gate_guard (by rfl) ?_; dsimp only)); refine box_event ?hg (N := 2) ?hd (cs := #[.slice A0_0 l0_0.length c0_0]) (t := 28) ?hr ?_; (case hd => rfl); (case hg => rfl); (case hr => first | (go_simp; done) | (go_simp; rfl)); intro gb226 hg w6 hbox hb; have n0_ := Aside0.mk (below_step (by repeat (first | (with_reducible first | exact HB.out | apply below_alloc | apply pw_below_drewN | apply below_drew1) | exact HB.out)) hb); have n1_ := Aside0.mk (hbox); have n2_ := Aside0.mk ((by rw [hg]; exact (below_size (by repeat (first | (with_reducible first | exact HB.out | apply below_alloc | apply pw_below_drewN | apply below_drew1) | exact HB.out))) : w.heap.size ≤ gb226)); have n3_ := Aside0.mk ((by rw [hg]; exact (below_size (by repeat (first | (with_reducible first | exact HB.out | apply below_alloc | apply pw_below_drewN | apply below_drew1) | exact HB.out))) : w.heap.size ≤ gb226)); clear HB; have HB := n0_; have BK226 := n1_; have GW226 := n2_; have GE226 := n3_; clear n0_ n1_ n2_ n3_; clear hb hbox hg; have hcz7_0 : w6.cell? ⟨gb226, 0, none⟩ = some (.slice A0_0 l0_0.length c0_0) := (blk_cell BK226.out 0).trans rfl; have hfz7_0 := blk_frozen BK226.out 0) | ((with_reducible refine gate_callee (f := 115) rfl ?_); refine goesL_ (some 6) rfl rfl Try.func115 (by kernel_rfl) rfl #[.agg #[.slice A0_0 l0_0.length c0_0]] rfl (by (try simp only [List.map_toArray, List.map_cons, List.map_nil]); first | done | rfl | (simp only [List.length_drop, List.length_take]; rfl)) ?_; (with_reducible refine (impl_IsProgram.calls _ _ l0_0 true _ ?side1 ?side2 A3.out).mono ?_); (case side1 => repeat (first | exact (Kd.C_below HR0_0.out HB.out) | (with_reducible refine Kd.C_alloc ?_ _) | (with_reducible refine Kd.C_drewN ?_ _) | (with_reducible refine Kd.C_drew ?_))); (case side2 => exact HC0_0.out); rintro e w8 ⟨rfl, hb⟩; refine ⟨_, rfl, ?_⟩; have n0_ := Aside0.mk (blk_below (g := gb226) (o := .cells #[.slice A0_0 l0_0.length c0_0] 28 (0, 0)) (by (with_reducible repeat (first | refine blk_drewN ?_ _ | refine blk_drew ?_ | refine blk_alloc ?_ _)); exact BK226.out) hb); have n1_ := Aside0.mk (below_step (by repeat (first | (with_reducible first | exact HB.out | apply below_alloc | apply pw_below_drewN | apply below_drew1 | refine below_set ?_ GE226.out) | exact HB.out)) hb); clear BK226; clear HB; have BK226 := n0_; have HB := n1_; clear n0_ n1_; (try clear hb); (try clear hb2); (try clear hk); (try clear hi); have hcz9_0 : w8.cell? ⟨gb226, 0, none⟩ = some (.slice A0_0 l0_0.length c0_0) := (blk_cell BK226.out 0).trans rfl; have hfz9_0 := blk_frozen BK226.out 0) | (go_at_call 97; (with_reducible refine (impl_in.calls a1 0 (wrap64 ((l0_0.length : Int) - 1)) t228 _ A5.out).mono ?_); rintro e w' ⟨rfl, ⟨nd, rfl⟩⟩))
  go_ret
  exact ⟨by first | rfl | (simp [errW_none, errW_some] <;> rfl) | (simp [*, errW_none, errW_some] <;> rfl), by repeat (first | (with_reducible first | exact HB.out | apply below_alloc | apply pw_below_drewN | apply below_drew1 | refine below_set ?_ GE226.out) | exact HB.out)⟩
 ·replace c4 := Bool.eq_false_iff.mpr c4
  subst c4
  have H1 : (some false) = some r := by rw [if_neg (show ¬ (false = true) by decide)] at H; exact H
  clear H
  have H := H1
  clear H1
  obtain rfl := Option.some.inj H
  go_enter Try.func96, Try.ntmps96
  go_wp2_with (first | ((with_reducible refine gate_dst (N := 2) rfl ?_); (try (refine gate_guard (by rfl) ?_; dsimp only)); refine box_event ?hg (N := 2) ?hd (cs := #[.slice A0_0 l0_0.length c0_0]) (t := 28) ?hr ?_; (case hd => rfl); (case hg => rfl); (case hr => first | (go_simp; done) | (go_simp; rfl)); intro gb226 hg w10 hbox hb; have n0_ := Aside0.mk (below_step (by repeat (first | (with_reducible first | exact HB.out | apply below_alloc | apply pw_below_drewN | apply below_drew1) | exact HB.out)) hb); have n1_ := Aside0.mk (hbox); have n2_ := Aside0.mk ((by rw [hg]; exact (below_size (by repeat (first | (with_reducible first | exact HB.out | apply below_alloc | apply pw_below_drewN | apply below_drew1) | exact HB.out))) : w.heap.size ≤ gb226)); have n3_ := Aside0.mk ((by rw [hg]; exact (below_size (by repeat (first | (with_reducible first | exact HB.out | apply below_alloc | apply pw_below_drewN | apply below_drew1) | exact HB.out))) : w.heap.size ≤ gb226)); clear HB; have HB := n0_; have BK226 := n1_; have GW226 := n2_; have GE226 := n3_; clear n0_ n1_ n2_ n3_; clear hb hbox hg; have hcz11_0 : w10.cell? ⟨gb226, 0, none⟩ = some (.slice A0_0 l0_0.length c0_0) := (blk_cell BK226.out 0).trans rfl; have hfz11_0 := blk_frozen BK226.out 0) | ((with_reducible refine gate_callee (f := 115) rfl ?_); refine goesL_ (some 6) rfl rfl Try.func115 (by kernel_rfl) rfl #[.agg #[.slice A0_0 l0_0.length c0_0]] rfl (by (try simp only [List.map_toArray, List.map_cons, List.map_nil]); first | done | rfl | (simp only [List.length_drop, List.length_take]; rfl)) ?_; (with_reducible refine (impl_IsProgram.calls _ _ l0_0 false _ ?side1 ?side2 A3.out).mono ?_); (case side1 => repeat (first | exact (Kd.C_below HR0_0.out HB.out) | (with_reducible refine Kd.C_alloc ?_ _) | (with_reducible refine Kd.C_drewN ?_ _) | (with_reducible refine Kd.C_drew ?_))); (case side2 => exact HC0_0.out); rintro e w12 ⟨rfl, hb⟩; refine ⟨_, rfl, ?_⟩; have n0_ := Aside0.mk (blk_below (g := gb226) (o := .cells #[.slice A0_0 l0_0.length c0_0] 28 (0, 0)) (by (with_reducible repeat (first | refine blk_drewN ?_ _ | refine blk_drew ?_ | refine blk_alloc ?_ _)); exact BK226.out) hb); have n1_ := Aside0.mk (below_step (by repeat (first | (with_reducible first | exact HB.out | apply below_alloc | apply pw_below_drewN | apply below_drew1 | refine below_set ?_ GE226.out) | exact HB.out)) hb); clear BK226; clear HB; have BK226 := n0_; have HB := n1_; clear n0_ n1_; (try clear hb); (try clear hb2); (try clear hk); (try clear hi)))
  go_ret
  exact ⟨by first | rfl | (simp [errW_none, errW_some] <;> rfl) | (simp [*, errW_none, errW_some] <;> rfl), by repeat (first | (with_reducible first | exact HB.out | apply below_alloc | apply pw_below_drewN | apply below_drew1 | refine below_set ?_ GE226.out) | exact HB.out)⟩
def bumpS (at_ : Int) (s : S72) : S72 := if s.f0 = 11 ∧ at_ ≤ s.f1 then ⟨s.f0, mn (s.f1 + 1) 8, s.f2⟩ else s
def putB (at_ : Int) (s : S72) (l : List S72) : List S72 := (l.map (bumpS at_)).take at_.toNat ++ s :: (l.map (bumpS at_)).drop at_.toNat
def putOk (l : List (List S72)) (f at_ : Int) (s : S72) : Bool :=
 progOk l && decide (0 ≤ f ∧ f ≤ (l.length : Int) - 1) && decide (0 ≤ at_ ∧ at_ ≤ ((l.getD f.toNat []).length : Int)) && decide ((l.getD f.toNat []).length ≠ 8) && stepOk l.length s
def impl_PutStep.f (l : List (List S72)) (f at_ k a b : Int) : Option (List (List S72) × Bool) :=
 some (if putOk l f at_ ⟨k, a, b⟩ = true then (l.set f.toNat (putB at_ ⟨k, a, b⟩ (l.getD f.toNat [])), true) else ([], false))
theorem isFunction_eq (l : List (List S72)) (f : Int) : impl_isFunction.f l f = some (progOk l && decide (0 ≤ f ∧ f ≤ (l.length : Int) - 1)) := by
 unfold impl_isFunction.f impl_IsProgram.f
 rw [Option.bind_some]
 cases h : progOk l with
 | false => simp
 | true =>
  have hl : l.length ≤ 6 := by
   unfold progOk at h
   simp only [Bool.and_eq_true, decide_eq_true_eq] at h
   exact h.1.2
  rw [if_pos rfl, wrap_near (by omega) (by omega), in_eq]
  simp
def PutPost (w : World) (r1 : List (List S72)) (r2 : Bool) (e : Ending) (w' : World) : Prop :=
 ∃ v0_ : Value, e = .returned (.tuple #[.agg #[v0_], .bool r2]) ∧ Kd.S (Kd.slice 72 k72) 108 w' w.heap.size (fun _ => True) v0_ r1 ∧ Below w.heap.size w w'
def B3 (w : World) (A : Option Addr) (n c : Nat) (k a b : Int) : World := ((w.alloc (.cells #[.slice A n c] 28)).alloc (.cells #[.int .i64 k, .int .i64 a, .int .i64 b] 72)).alloc (.cells #[.slice none 0 0] 28)
theorem B3_facts (w : World) (A : Option Addr) (n c : Nat) (k a b : Int) : Below w.heap.size w (B3 w A n c k a b) ∧ (B3 w A n c k a b).heap[w.heap.size]? = some (.cells #[.slice A n c] 28 (0, 0)) ∧
  (B3 w A n c k a b).heap[w.heap.size + 1]? = some (.cells #[.int .i64 k, .int .i64 a, .int .i64 b] 72 (0, 0)) ∧ (B3 w A n c k a b).heap[w.heap.size + 1 + 1]? = some (.cells #[.slice none 0 0] 28 (0, 0)) ∧ (B3 w A n c k a b).heap.size = w.heap.size + 3 := by
 have h1 := blk_new w (.cells #[.slice A n c] 28)
 have h2 := blk_new (w.alloc (.cells #[.slice A n c] 28)) (.cells #[.int .i64 k, .int .i64 a, .int .i64 b] 72)
 have h3 := blk_new ((w.alloc (.cells #[.slice A n c] 28)).alloc (.cells #[.int .i64 k, .int .i64 a, .int .i64 b] 72)) (.cells #[.slice none 0 0] 28)
 have s1 : (w.alloc (.cells #[.slice A n c] 28)).heap.size = w.heap.size + 1 := by simp
 have s2 : ((w.alloc (.cells #[.slice A n c] 28)).alloc (.cells #[.int .i64 k, .int .i64 a, .int .i64 b] 72)).heap.size = w.heap.size + 1 + 1 := by simp
 rw [s1] at h2
 rw [s2] at h3
 exact ⟨below_alloc (below_alloc (below_alloc (Below.refl _ _) _) _) _, blk_below (blk_below h1 (below_alloc (Below.refl _ _) _)) (below_alloc (Below.refl _ _) _), blk_below h2 (below_alloc (Below.refl _ _) _), h3, by simp [B3]⟩
set_option maxRecDepth 100000 in
theorem put_end {w w4 : World} (g8 : Nat) (hg : w4.heap[g8]? = some (.cells #[.slice none 0 0] 28 (0, 0))) (hlt : w.heap.size ≤ g8) (hb : Below w.heap.size w w4) (tmps : Array Value) (hp : tmps.getD 8 undef = .pointer (some ⟨g8, 0, none⟩)) (hq : tmps.getD 9 undef = .bool false) :
  bodyPost Try.prog Try.f49 (PutPost w [] false) Exit.ret { tmps := tmps, defers := [] } (w4.setCell ⟨g8, 0, none⟩ (.slice none 0 0)) := by
 refine bodyPost_ret (results_ct (P := Try.prog) (fn := Try.f49) (ty := 28) rfl tmps _ g8 28 #[.slice none 0 0] (0, 0) _ hp (blk_put hg 0 _ rfl) Try.underlying28 rfl rfl) rfl ⟨.slice none 0 0, by rw [hq], Kd.S_nil _ _ _ _ _, below_set hb hlt⟩
set_option maxHeartbeats 8000000 in
set_option maxRecDepth 100000 in
theorem put_no1 (A : Option Addr) (c : Nat) (l : List (List S72)) (f at_ k a b : Int) (w : World) (hr : Kd.C (Kd.slice 72 k72) w A l.length l) (hc : l.length ≤ c) (hn : (progOk l && decide (0 ≤ f ∧ f ≤ (l.length : Int) - 1)) = false) :
  Calls Try.prog 49 #[.agg #[.slice A l.length c], .int .i64 f, .int .i64 at_, .agg #[.int .i64 k, .int .i64 a, .int .i64 b]] w (PutPost w [] false) := by
 have hu28 := Try.underlying28
 have hu72 := Try.underlying72
 have hF := isFunction_eq l f
 rw [hn] at hF
 have e96 : ∀ args w, (callFunc 96 args).run Try.prog w = .ok (.enter 96 args) w := enters_of Try.func96 (by kernel_rfl) rfl
 have HR := Aside0.mk hr
 clear hr hn
 go_enter Try.func49, Try.ntmps49
 go_upto_region 1 with fail
 obtain ⟨w3, hw3⟩ : ∃ w3, w3 = B3 w A l.length c k a b := ⟨_, rfl⟩
 have hf := B3_facts w A l.length c k a b
 rw [← hw3] at hf
 change Code.wp _ _ _ _ (B3 w A l.length c k a b)
 rw [← hw3]
 obtain ⟨g, hg⟩ : ∃ g, g = w.heap.size := ⟨_, rfl⟩
 have HG := Aside0.mk hg
 rw [← hg] at hf ⊢
 have HF := Aside0.mk hf
 have hc4 : w3.cell? ⟨g, 0, none⟩ = some (.slice A l.length c) := (blk_cell hf.2.1 0).trans rfl
 clear hw3 hg hf
 go_wp2_with (first | (go_at_fn 96; refine (impl_isFunction.calls A c l f false _ (Kd.C_below HR.out (by rw [← HG.out]; exact HF.out.1)) hc hF).mono ?_; rintro e w4 ⟨rfl, hb⟩; have C8 := blk_below HF.out.2.2.2.1 hb; have hc8 : w4.cell? ⟨g + 1 + 1, 0, none⟩ = some (.slice none 0 0) := (blk_cell C8 0).trans rfl; have hf8 := blk_frozen C8 0; have HB := Aside0.mk (And.intro hb C8); clear hb C8))
 exact put_end (g + 1 + 1) HB.out.2 (by have := HG.out; omega) (below_step (by have := HF.out.1; rwa [HG.out] at this) HB.out.1) _ rfl rfl
set_option maxHeartbeats 8000000 in
set_option maxRecDepth 100000 in
theorem put_no2 (A : Option Addr) (c : Nat) (l : List (List S72)) (fn : Nat) (at_ k a b : Int) (w : World) (hr : Kd.C (Kd.slice 72 k72) w A l.length l) (hc : l.length ≤ c) (hP : progOk l = true) (hfn : fn < l.length)
  (hI : impl_in.f at_ 0 ((l.getD fn []).length : Int) = some false) :
  Calls Try.prog 49 #[.agg #[.slice A l.length c], .int .i64 fn, .int .i64 at_, .agg #[.int .i64 k, .int .i64 a, .int .i64 b]] w (PutPost w [] false) := by
 have hu28 := Try.underlying28
 have hu26 := Try.underlying26
 have hu72 := Try.underlying72
 have hlz : (fn : Int) < (l.length : Int) := by omega
 have hF := isFunction_eq l fn
 rw [hP, decide_eq_true (show 0 ≤ (fn : Int) ∧ (fn : Int) ≤ (l.length : Int) - 1 by omega)] at hF
 have e96 : ∀ args w, (callFunc 96 args).run Try.prog w = .ok (.enter 96 args) w := enters_of Try.func96 (by kernel_rfl) rfl
 have e97 : ∀ args w, (callFunc 97 args).run Try.prog w = .ok (.enter 97 args) w := enters_of Try.func97 (by kernel_rfl) rfl
 have e98 : ∀ args w, (callFunc 98 args).run Try.prog w = .ok (.enter 98 args) w := enters_of Try.func98 (by kernel_rfl) rfl
 obtain ⟨ad, A1, c1, eA, hx0, hc1, hC1⟩ := at_L4 hr (fn : Int) (by omega) hlz
 subst eA
 rw [Int.toNat_natCast] at hx0
 change w.cell? (ad.add fn) = some (.slice A1 (l.getD (fn : Int).toNat []).length c1) at hx0
 rw [Int.toNat_natCast] at hx0
 have hadb : (ad.add fn).block < w.heap.size := World.block_lt_of_cell? w _ hx0
 have HX := Aside0.mk (And.intro hx0 hadb)
 have HR := Aside0.mk hr
 clear hr hx0 hadb hP hc1 hC1
 go_enter Try.func49, Try.ntmps49
 go_upto_region 1 with fail
 obtain ⟨w3, hw3⟩ : ∃ w3, w3 = B3 w (some ad) l.length c k a b := ⟨_, rfl⟩
 have hf := B3_facts w (some ad) l.length c k a b
 rw [← hw3] at hf
 change Code.wp _ _ _ _ (B3 w (some ad) l.length c k a b)
 rw [← hw3]
 obtain ⟨g, hg⟩ : ∃ g, g = w.heap.size := ⟨_, rfl⟩
 have HG := Aside0.mk hg
 rw [← hg] at hf ⊢
 have HF := Aside0.mk hf
 have hc4 : w3.cell? ⟨g, 0, none⟩ = some (.slice (some ad) l.length c) := (blk_cell hf.2.1 0).trans rfl
 clear hw3 hg hf
 generalize (l.getD fn []).length = m at *
 go_wp2_with (first | (go_at_fn 96; refine (impl_isFunction.calls (some ad) c l fn true _ (Kd.C_below HR.out (by rw [← HG.out]; exact HF.out.1)) hc hF).mono ?_; rintro e w4 ⟨rfl, hb⟩; have C4 := blk_below HF.out.2.1 hb; have C7 := blk_below HF.out.2.2.1 hb; have C8 := blk_below HF.out.2.2.2.1 hb; clear hc4; have hc4 : w4.cell? ⟨g, 0, none⟩ = some (.slice (some ad) l.length c) := (blk_cell C4 0).trans rfl; have hc7_0 : w4.cell? ⟨g + 1, 0, none⟩ = some (.int .i64 k) := (blk_cell C7 0).trans rfl; have hc7_1 : w4.cell? ⟨g + 1, 1, none⟩ = some (.int .i64 a) := (blk_cell C7 1).trans rfl; have hc7_2 : w4.cell? ⟨g + 1, 2, none⟩ = some (.int .i64 b) := (blk_cell C7 2).trans rfl; have hc8 : w4.cell? ⟨g + 1 + 1, 0, none⟩ = some (.slice none 0 0) := (blk_cell C8 0).trans rfl; have hf8 := blk_frozen C8 0; have hx1 : w4.cell? (ad.add fn) = some (.slice A1 m c1) := (hb.cell (by have := HF.out.1.size; have := HX.out.2; have := HG.out; omega)).trans ((HF.out.1.cell (by have := HX.out.2; have := HG.out; omega)).trans HX.out.1); have HB := Aside0.mk (And.intro hb (And.intro C4 (And.intro C7 C8))); clear hb C4 C7 C8) | (go_at_fn 97; refine (impl_in.calls at_ 0 (m : Int) _ _ hI).mono ?_; rintro e w' ⟨rfl, ⟨nd, rfl⟩⟩))
 exact put_end (g + 1 + 1) (show (w4.drewN nd).heap[g + 1 + 1]? = _ from HB.out.2.2.2) (by have := HG.out; omega) (pw_below_drewN (below_step (by have := HF.out.1; rwa [HG.out] at this) HB.out.1) _) _ rfl rfl
set_option maxHeartbeats 8000000 in
set_option maxRecDepth 100000 in
theorem put_no3 (A : Option Addr) (c : Nat) (l : List (List S72)) (fn : Nat) (at_ k a b : Int) (w : World) (hr : Kd.C (Kd.slice 72 k72) w A l.length l) (hc : l.length ≤ c) (hP : progOk l = true) (hfn : fn < l.length)
  (hI : impl_in.f at_ 0 ((l.getD fn []).length : Int) = some true) (h8 : (l.getD fn []).length = 8) :
  Calls Try.prog 49 #[.agg #[.slice A l.length c], .int .i64 fn, .int .i64 at_, .agg #[.int .i64 k, .int .i64 a, .int .i64 b]] w (PutPost w [] false) := by
 have hu28 := Try.underlying28
 have hu26 := Try.underlying26
 have hu72 := Try.underlying72
 have hlz : (fn : Int) < (l.length : Int) := by omega
 have hF := isFunction_eq l fn
 rw [hP, decide_eq_true (show 0 ≤ (fn : Int) ∧ (fn : Int) ≤ (l.length : Int) - 1 by omega)] at hF
 have e96 : ∀ args w, (callFunc 96 args).run Try.prog w = .ok (.enter 96 args) w := enters_of Try.func96 (by kernel_rfl) rfl
 have e97 : ∀ args w, (callFunc 97 args).run Try.prog w = .ok (.enter 97 args) w := enters_of Try.func97 (by kernel_rfl) rfl
 have e98 : ∀ args w, (callFunc 98 args).run Try.prog w = .ok (.enter 98 args) w := enters_of Try.func98 (by kernel_rfl) rfl
 obtain ⟨ad, A1, c1, eA, hx0, hc1, hC1⟩ := at_L4 hr (fn : Int) (by omega) hlz
 subst eA
 rw [Int.toNat_natCast] at hx0
 change w.cell? (ad.add fn) = some (.slice A1 (l.getD (fn : Int).toNat []).length c1) at hx0
 rw [Int.toNat_natCast] at hx0
 have hadb : (ad.add fn).block < w.heap.size := World.block_lt_of_cell? w _ hx0
 have HX := Aside0.mk (And.intro hx0 hadb)
 have HR := Aside0.mk hr
 clear hr hx0 hadb hP hc1 hC1
 go_enter Try.func49, Try.ntmps49
 go_upto_region 1 with fail
 obtain ⟨w3, hw3⟩ : ∃ w3, w3 = B3 w (some ad) l.length c k a b := ⟨_, rfl⟩
 have hf := B3_facts w (some ad) l.length c k a b
 rw [← hw3] at hf
 change Code.wp _ _ _ _ (B3 w (some ad) l.length c k a b)
 rw [← hw3]
 obtain ⟨g, hg⟩ : ∃ g, g = w.heap.size := ⟨_, rfl⟩
 have HG := Aside0.mk hg
 rw [← hg] at hf ⊢
 have HF := Aside0.mk hf
 have hc4 : w3.cell? ⟨g, 0, none⟩ = some (.slice (some ad) l.length c) := (blk_cell hf.2.1 0).trans rfl
 clear hw3 hg hf
 have h8i : (((l.getD fn []).length : Int) == 8) = true := by rw [h8]; rfl
 have h8n : (((l.getD fn []).length) == 8) = true := by rw [h8]; rfl
 clear h8
 generalize (l.getD fn []).length = m at *
 go_wp2_with (first | (go_at_fn 96; refine (impl_isFunction.calls (some ad) c l fn true _ (Kd.C_below HR.out (by rw [← HG.out]; exact HF.out.1)) hc hF).mono ?_; rintro e w4 ⟨rfl, hb⟩; have C4 := blk_below HF.out.2.1 hb; have C7 := blk_below HF.out.2.2.1 hb; have C8 := blk_below HF.out.2.2.2.1 hb; clear hc4; have hc4 : w4.cell? ⟨g, 0, none⟩ = some (.slice (some ad) l.length c) := (blk_cell C4 0).trans rfl; have hc7_0 : w4.cell? ⟨g + 1, 0, none⟩ = some (.int .i64 k) := (blk_cell C7 0).trans rfl; have hc7_1 : w4.cell? ⟨g + 1, 1, none⟩ = some (.int .i64 a) := (blk_cell C7 1).trans rfl; have hc7_2 : w4.cell? ⟨g + 1, 2, none⟩ = some (.int .i64 b) := (blk_cell C7 2).trans rfl; have hc8 : w4.cell? ⟨g + 1 + 1, 0, none⟩ = some (.slice none 0 0) := (blk_cell C8 0).trans rfl; have hf8 := blk_frozen C8 0; have hx1 : w4.cell? (ad.add fn) = some (.slice A1 m c1) := (hb.cell (by have := HF.out.1.size; have := HX.out.2; have := HG.out; omega)).trans ((HF.out.1.cell (by have := HX.out.2; have := HG.out; omega)).trans HX.out.1); have HB := Aside0.mk (And.intro hb (And.intro C4 (And.intro C7 C8))); clear hb C4 C7 C8) | (go_at_fn 97; refine (impl_in.calls at_ 0 (m : Int) _ _ hI).mono ?_; rintro e w' ⟨rfl, ⟨nd, rfl⟩⟩))
 exact put_end (g + 1 + 1) (show (w4.drewN nd).heap[g + 1 + 1]? = _ from HB.out.2.2.2) (by have := HG.out; omega) (pw_below_drewN (below_step (by have := HF.out.1; rwa [HG.out] at this) HB.out.1) _) _ rfl rfl
set_option maxHeartbeats 8000000 in
set_option maxRecDepth 100000 in
theorem put_no4 (A : Option Addr) (c : Nat) (l : List (List S72)) (fn : Nat) (at_ k a b : Int) (w : World) (hr : Kd.C (Kd.slice 72 k72) w A l.length l) (hc : l.length ≤ c) (hP : progOk l = true) (hfn : fn < l.length)
  (hI : impl_in.f at_ 0 ((l.getD fn []).length : Int) = some true) (h8 : (l.getD fn []).length ≠ 8) (hS : impl_isStep.f 2 k a b (l.length : Int) = some false) :
  Calls Try.prog 49 #[.agg #[.slice A l.length c], .int .i64 fn, .int .i64 at_, .agg #[.int .i64 k, .int .i64 a, .int .i64 b]] w (PutPost w [] false) := by
 have hu28 := Try.underlying28
 have hu26 := Try.underlying26
 have hu72 := Try.underlying72
 have hlz : (fn : Int) < (l.length : Int) := by omega
 have hF := isFunction_eq l fn
 rw [hP, decide_eq_true (show 0 ≤ (fn : Int) ∧ (fn : Int) ≤ (l.length : Int) - 1 by omega)] at hF
 have e96 : ∀ args w, (callFunc 96 args).run Try.prog w = .ok (.enter 96 args) w := enters_of Try.func96 (by kernel_rfl) rfl
 have e97 : ∀ args w, (callFunc 97 args).run Try.prog w = .ok (.enter 97 args) w := enters_of Try.func97 (by kernel_rfl) rfl
 have e98 : ∀ args w, (callFunc 98 args).run Try.prog w = .ok (.enter 98 args) w := enters_of Try.func98 (by kernel_rfl) rfl
 obtain ⟨ad, A1, c1, eA, hx0, hc1, hC1⟩ := at_L4 hr (fn : Int) (by omega) hlz
 subst eA
 rw [Int.toNat_natCast] at hx0
 change w.cell? (ad.add fn) = some (.slice A1 (l.getD (fn : Int).toNat []).length c1) at hx0
 rw [Int.toNat_natCast] at hx0
 have hadb : (ad.add fn).block < w.heap.size := World.block_lt_of_cell? w _ hx0
 have HX := Aside0.mk (And.intro hx0 hadb)
 have HR := Aside0.mk hr
 clear hr hx0 hadb hP hc1 hC1
 go_enter Try.func49, Try.ntmps49
 go_upto_region 1 with fail
 obtain ⟨w3, hw3⟩ : ∃ w3, w3 = B3 w (some ad) l.length c k a b := ⟨_, rfl⟩
 have hf := B3_facts w (some ad) l.length c k a b
 rw [← hw3] at hf
 change Code.wp _ _ _ _ (B3 w (some ad) l.length c k a b)
 rw [← hw3]
 obtain ⟨g, hg⟩ : ∃ g, g = w.heap.size := ⟨_, rfl⟩
 have HG := Aside0.mk hg
 rw [← hg] at hf ⊢
 have HF := Aside0.mk hf
 have hc4 : w3.cell? ⟨g, 0, none⟩ = some (.slice (some ad) l.length c) := (blk_cell hf.2.1 0).trans rfl
 clear hw3 hg hf
 have h8i : (((l.getD fn []).length : Int) == 8) = false := by rw [beq_eq_false_iff_ne]; omega
 have h8n : (((l.getD fn []).length) == 8) = false := by rw [beq_eq_false_iff_ne]; omega
 clear h8
 generalize (l.getD fn []).length = m at *
 go_wp2_with (first | (go_at_fn 96; refine (impl_isFunction.calls (some ad) c l fn true _ (Kd.C_below HR.out (by rw [← HG.out]; exact HF.out.1)) hc hF).mono ?_; rintro e w4 ⟨rfl, hb⟩; have C4 := blk_below HF.out.2.1 hb; have C7 := blk_below HF.out.2.2.1 hb; have C8 := blk_below HF.out.2.2.2.1 hb; clear hc4; have hc4 : w4.cell? ⟨g, 0, none⟩ = some (.slice (some ad) l.length c) := (blk_cell C4 0).trans rfl; have hc7_0 : w4.cell? ⟨g + 1, 0, none⟩ = some (.int .i64 k) := (blk_cell C7 0).trans rfl; have hc7_1 : w4.cell? ⟨g + 1, 1, none⟩ = some (.int .i64 a) := (blk_cell C7 1).trans rfl; have hc7_2 : w4.cell? ⟨g + 1, 2, none⟩ = some (.int .i64 b) := (blk_cell C7 2).trans rfl; have hc8 : w4.cell? ⟨g + 1 + 1, 0, none⟩ = some (.slice none 0 0) := (blk_cell C8 0).trans rfl; have hf8 := blk_frozen C8 0; have hx1 : w4.cell? (ad.add fn) = some (.slice A1 m c1) := (hb.cell (by have := HF.out.1.size; have := HX.out.2; have := HG.out; omega)).trans ((HF.out.1.cell (by have := HX.out.2; have := HG.out; omega)).trans HX.out.1); have HB := Aside0.mk (And.intro hb (And.intro C4 (And.intro C7 C8))); clear hb C4 C7 C8) | (go_at_fn 97; refine (impl_in.calls at_ 0 (m : Int) _ _ hI).mono ?_; rintro e w' ⟨rfl, ⟨nd, rfl⟩⟩) | (go_at_fn 98; refine (impl_isStep.calls 2 k a b (l.length : Int) _ _ hS).mono ?_; rintro e w5 ⟨rfl, hb5⟩; have C8 := blk_below (show (w4.drewN nd).heap[g + 1 + 1]? = _ from HB.out.2.2.2) hb5; clear hc8 hf8; have hc8 : w5.cell? ⟨g + 1 + 1, 0, none⟩ = some (.slice none 0 0) := (blk_cell C8 0).trans rfl; have hf8 := blk_frozen C8 0; have HB5 := Aside0.mk (And.intro hb5 C8); clear hb5 C8))
 exact put_end (g + 1 + 1) HB5.out.2 (by have := HG.out; omega) (below_step (pw_below_drewN (below_step (by have := HF.out.1; rwa [HG.out] at this) HB.out.1) _) HB5.out.1) _ rfl rfl
theorem copied_lw (l : List (List S72)) (hl : l.length ≤ 6) (hb : ∀ b ∈ l, b.length ≤ 8) : ∀ (d i : Nat), d + i = l.length → ∀ k, d < k → impl_Program_copied.l0 k l (l.length : Int) i (l.take i) = some l := by
 intro d
 induction d with
 | zero =>
  intro i hd k hk
  obtain ⟨k, rfl⟩ : ∃ z, k = z + 1 := ⟨k - 1, by omega⟩
  rw [impl_Program_copied.l0, if_neg (by omega), List.take_of_length_le (by omega)]
 | succ d ih =>
  intro i hd k hk
  obtain ⟨k, rfl⟩ : ∃ z, k = z + 1 := ⟨k - 1, by omega⟩
  have hi : i < l.length := by omega
  have hbi := hb _ (List.getElem_mem hi)
  have hrd : rd_L4 l (i : Int) = l[i] := by unfold rd_L4; rw [Int.toNat_natCast, List.getD_eq_getElem?_getD, List.getElem?_eq_getElem hi]; rfl
  rw [impl_Program_copied.l0, if_pos (by omega), if_pos (by omega), if_pos (by omega), hrd, slices_CloneStep.f, if_pos (by omega), Option.bind_some, if_pos (by rw [List.length_take]; omega), wrap_near (by omega) (by omega)]
  have : l.take i ++ [l[i]] = l.take (i + 1) := by rw [List.take_add_one, List.getElem?_eq_getElem hi]; rfl
  rw [this]
  exact_mod_cast ih (i + 1) (by omega) k (by omega)
theorem copied_small (l : List (List S72)) (hl : l.length ≤ 6) (hb : ∀ b ∈ l, b.length ≤ 8) : impl_Program_copied.f 100 l = some l := by
 unfold impl_Program_copied.f
 have := copied_lw l hl hb l.length 0 (by omega) 100 (by omega)
 rw [Int.natCast_zero, List.take_zero] at this
 exact this
theorem encSS_set1 (l : List S72) (i : Nat) (hi : i < l.length) (v : Int) : (encSS l).set (i * 3 + 1) (.int .i64 v) = encSS (l.set i ⟨l[i].f0, v, l[i].f2⟩) := by
 induction l generalizing i with
 | nil => exact absurd hi (Nat.not_lt_zero _)
 | cons x l ih =>
  cases i with
  | zero => rfl
  | succ i =>
   have h := ih i (by simpa using hi)
   show (encS x ++ encSS l).set ((i + 1) * 3 + 1) _ = encS x ++ encSS (l.set i _)
   rw [List.set_append_right _ _ (by simp [encS]; omega)]
   congr 1
   simp only [encS, List.length_cons, List.length_nil, List.getElem_cons_succ]
   rw [show (i + 1) * 3 + 1 - (0 + 1 + 1 + 1) = i * 3 + 1 by omega]
   exact h
theorem R72_set {W : World} {base : Nat} {ok : Nat → Prop} {g n c : Nat} {xs : List S72} (h : Kd.R k72 72 W base ok (.slice (some ⟨g, 0, none⟩) n c) xs) (i : Nat) (hi : i < xs.length) (v : Int) :
  Kd.R k72 72 (W.setCell ⟨g, i * 3 + 1, none⟩ (.int .i64 v)) base ok (.slice (some ⟨g, 0, none⟩) n c) (xs.set i ⟨xs[i].f0, v, xs[i].f2⟩) := by
 obtain ⟨hok, hl, ho⟩ := R72_iff.1 h
 rcases ho with ⟨ho, _⟩ | ⟨g', c', cur, hv, hb, hg, hnc, hcm, hcs, ht⟩
 ·cases ho
 simp only [Value.slice.injEq, Option.some.injEq, Addr.mk.injEq, and_true] at hv
 obtain ⟨rfl, hn', rfl⟩ := hv
 refine R72_iff.2 ⟨hok, by rw [encSS_length], .inr ⟨g, c, cur.setIfInBounds (i * 3 + 1) (.int .i64 v), by rw [List.length_set, hn'], hb, blk_set hg _ _, by rw [List.length_set]; exact hnc, hcm, by rw [Array.size_setIfInBounds, hcs], ?_⟩⟩
 rw [List.length_set, Array.toList_setIfInBounds, List.take_set, ht, encSS_set1 xs i hi v]
theorem R72_cells {W : World} {base : Nat} {ok : Nat → Prop} {g n c : Nat} {xs : List S72} (h : Kd.R k72 72 W base ok (.slice (some ⟨g, 0, none⟩) n c) xs) (i : Nat) (hi : i < xs.length) :
  W.cell? ⟨g, i * 3, none⟩ = some (.int .i64 xs[i].f0) ∧ W.cell? ⟨g, i * 3 + 1, none⟩ = some (.int .i64 xs[i].f1) ∧ W.cell? ⟨g, i * 3 + 2, none⟩ = some (.int .i64 xs[i].f2) ∧ (∀ j, W.frozen? ⟨g, j, none⟩ = false) ∧ g < W.heap.size ∧ n = xs.length := by
 obtain ⟨hok, hl, ho⟩ := R72_iff.1 h
 rcases ho with ⟨ho, _⟩ | ⟨g', c', cur, hv, hb, hg, hnc, hcm, hcs, ht⟩
 ·cases ho
 simp only [Value.slice.injEq, Option.some.injEq, Addr.mk.injEq, and_true] at hv
 obtain ⟨rfl, hn', rfl⟩ := hv
 have hat : ∀ j, j < xs.length * 3 → W.cell? ⟨g, j, none⟩ = (encSS xs)[j]? := fun j hj => by rw [cells_at hg, ← ht, List.getElem?_take, if_pos hj]
 have hx : ∀ j, j < 3 → (encSS xs)[i * 3 + j]? = (encS xs[i])[j]? := fun j hj => by
  rw [← List.getElem?_drop, encSS_drop, List.drop_eq_getElem_cons hi]
  show (encS xs[i] ++ encSS (xs.drop (i + 1)))[j]? = _
  rw [List.getElem?_append_left (by simp only [encS, List.length_cons, List.length_nil]; omega)]
 refine ⟨?_, ?_, ?_, fun j => blk_frozen hg j, blk_lt hg, hn'⟩
 ·rw [hat _ (by omega)]; exact (hx 0 (by omega)).trans rfl
 ·rw [hat _ (by omega), hx 1 (by omega)]; rfl
 ·rw [hat _ (by omega), hx 2 (by omega)]; rfl
def bumped (at_ : Int) (x : List S72) (kk : Nat) : List S72 := (x.take kk).map (bumpS at_) ++ x.drop kk
theorem bumped_length (at_ : Int) (x : List S72) (kk : Nat) : (bumped at_ x kk).length = x.length := by
 unfold bumped
 simp only [List.length_append, List.length_map, List.length_take, List.length_drop]
 omega
theorem bumped_at (at_ : Int) (x : List S72) (kk : Nat) (h : kk < x.length) : (bumped at_ x kk)[kk]'(by rw [bumped_length]; exact h) = x[kk] := by
 unfold bumped
 rw [List.getElem_append_right (by simp; omega)]
 simp only [List.length_map, List.length_take, Nat.min_eq_left (Nat.le_of_lt h), Nat.sub_self, List.getElem_drop, Nat.add_zero]
theorem bumped_step (at_ : Int) (x : List S72) (kk : Nat) (h : kk < x.length) : (bumped at_ x kk).set kk (bumpS at_ x[kk]) = bumped at_ x (kk + 1) := by
 unfold bumped
 have h1 : ((x.take kk).map (bumpS at_)).length = kk := by simp; omega
 rw [List.set_append_right _ _ (by omega), h1, Nat.sub_self, List.drop_eq_getElem_cons h, List.set_cons_zero, List.take_add_one, List.getElem?_eq_getElem h, Option.toList_some, List.map_append, List.append_assoc]
 rfl
theorem bumped_zero (at_ : Int) (x : List S72) : bumped at_ x 0 = x := by simp [bumped]
theorem bumped_end (at_ : Int) (x : List S72) : bumped at_ x x.length = x.map (bumpS at_) := by simp [bumped]
theorem bumped_same (at_ : Int) (x : List S72) (kk : Nat) (h : kk < x.length) (hs : bumpS at_ x[kk] = x[kk]) : bumped at_ x (kk + 1) = bumped at_ x kk := by
 rw [← bumped_step at_ x kk h, hs]
 have := bumped_at at_ x kk h
 conv => lhs; rw [← this]
 rw [List.set_getElem_self]
theorem insert.calls (w0 W : World) (base : Nat) (ok : Nat → Prop) (A : Option Addr) (c n i gv cv tv : Nat) (xs : List S72) (x : S72) (hn : n = xs.length) (hi : i ≤ n)
  (HO : Kd.R k72 72 W base ok (.slice A n c) xs) (HV : W.heap[gv]? = some (.cells (encS x).toArray tv (0, 0))) (hgv : ∀ q, (Value.slice A n c).ownBlock = some q → gv ≠ q) (hbig : n ≤ 1000000000)
  (HB : Below base w0 W) (hbase : base ≤ W.heap.size) (hfresh : ∀ k, W.heap.size ≤ k → ok k) :
  Calls Try.prog 100 #[.slice A n c, .int .i64 i, .slice (some ⟨gv, 0, none⟩) 1 cv] W (Inserted W base ok (.slice A n c) (xs.take i ++ x :: xs.drop i)) := by
 by_cases h : i = n
 ·subst h
  have h2 := insert_end.calls w0 W base ok A c i gv cv xs x hn HO ⟨rfl, by decide, fun _ => ⟨⟨gv, 0, none⟩, rfl, fun j p hj => by
   have hj0 : j = 0 := by have := (List.getElem?_eq_some_iff.1 hj).1; simp at this; omega
   subst hj0
   simp only [List.getElem?_cons_zero, Option.some.injEq] at hj
   subst hj
   exact ⟨encS x, rfl, k72_mk W x, fun q u hu => by rw [add_plain, cells_at HV]; simpa using hu⟩⟩⟩ hbig HB hbase hfresh
  rwa [hn, List.take_length, List.drop_length, ← hn]
 ·obtain ⟨g, cap, e, hbg, _⟩ := Kd.R_form HO (by omega)
  simp only [Value.slice.injEq] at e
  obtain ⟨rfl, _, rfl⟩ := e
  by_cases hr : n + 1 ≤ c
  ·exact insert_shift.calls w0 W base ok g c n i gv cv tv xs x hn (by omega) hr (hgv g rfl) HO HV hbig
  ·exact insert_grow.calls w0 W base ok g c n i gv cv tv xs x hn (by omega) (by omega) HO HV hbig hbase hfresh
set_option maxHeartbeats 8000000 in
set_option maxRecDepth 100000 in
theorem put_yes (A : Option Addr) (c : Nat) (l : List (List S72)) (fn : Nat) (an : Nat) (k a b : Int) (w : World) (hr : Kd.C (Kd.slice 72 k72) w A l.length l) (hc : l.length ≤ c) (hP : progOk l = true) (hfn : fn < l.length)
  (hI : impl_in.f (an : Int) 0 ((l.getD fn []).length : Int) = some true) (h8 : (l.getD fn []).length ≠ 8) (hS : impl_isStep.f 2 k a b (l.length : Int) = some true) (hCopy : impl_Program_copied.f 100 l = some l) (ha : an ≤ (l.getD fn []).length) (hx8 : (l.getD fn []).length ≤ 8)
  (hj : ∀ s ∈ l.getD fn [], s.f0 = 11 → 0 ≤ s.f1 ∧ s.f1 ≤ 8) :
  Calls Try.prog 49 #[.agg #[.slice A l.length c], .int .i64 fn, .int .i64 an, .agg #[.int .i64 k, .int .i64 a, .int .i64 b]] w (PutPost w (l.set fn (putB an ⟨k, a, b⟩ (l.getD fn []))) true) := by
 have hu28 := Try.underlying28
 have hu26 := Try.underlying26
 have hu72 := Try.underlying72
 have hlz : (fn : Int) < (l.length : Int) := by omega
 have hF := isFunction_eq l fn
 rw [hP, decide_eq_true (show 0 ≤ (fn : Int) ∧ (fn : Int) ≤ (l.length : Int) - 1 by omega)] at hF
 have e96 : ∀ args w, (callFunc 96 args).run Try.prog w = .ok (.enter 96 args) w := enters_of Try.func96 (by kernel_rfl) rfl
 have e97 : ∀ args w, (callFunc 97 args).run Try.prog w = .ok (.enter 97 args) w := enters_of Try.func97 (by kernel_rfl) rfl
 have e98 : ∀ args w, (callFunc 98 args).run Try.prog w = .ok (.enter 98 args) w := enters_of Try.func98 (by kernel_rfl) rfl
 obtain ⟨ad, A1, c1, eA, hx0, hc1, hC1⟩ := at_L4 hr (fn : Int) (by omega) hlz
 subst eA
 rw [Int.toNat_natCast] at hx0
 change w.cell? (ad.add fn) = some (.slice A1 (l.getD (fn : Int).toNat []).length c1) at hx0
 rw [Int.toNat_natCast] at hx0
 have hadb : (ad.add fn).block < w.heap.size := World.block_lt_of_cell? w _ hx0
 have HX := Aside0.mk (And.intro hx0 hadb)
 have HR := Aside0.mk hr
 clear hr hx0 hadb hP hc1 hC1
 go_enter Try.func49, Try.ntmps49
 go_upto_region 1 with fail
 obtain ⟨w3, hw3⟩ : ∃ w3, w3 = B3 w (some ad) l.length c k a b := ⟨_, rfl⟩
 have hf := B3_facts w (some ad) l.length c k a b
 rw [← hw3] at hf
 change Code.wp _ _ _ _ (B3 w (some ad) l.length c k a b)
 rw [← hw3]
 obtain ⟨g, hg⟩ : ∃ g, g = w.heap.size := ⟨_, rfl⟩
 have HG := Aside0.mk hg
 rw [← hg] at hf ⊢
 have HF := Aside0.mk hf
 have hc4 : w3.cell? ⟨g, 0, none⟩ = some (.slice (some ad) l.length c) := (blk_cell hf.2.1 0).trans rfl
 clear hw3 hg hf
 have h8i : (((l.getD fn []).length : Int) == 8) = false := by rw [beq_eq_false_iff_ne]; omega
 have h8n : (((l.getD fn []).length) == 8) = false := by rw [beq_eq_false_iff_ne]; omega
 clear h8
 generalize hx : l.getD fn [] = x at *
 generalize hm : x.length = m at *
 have HXM := Aside0.mk (And.intro hx (And.intro hm (And.intro hCopy (And.intro ha (And.intro hx8 hj)))))
 clear hx hm hCopy ha hx8 hj
 go_upto_region 3 with (first | (go_at_fn 96; refine (impl_isFunction.calls (some ad) c l fn true _ (Kd.C_below HR.out (by rw [← HG.out]; exact HF.out.1)) hc hF).mono ?_; rintro e w4 ⟨rfl, hb⟩; have C4 := blk_below HF.out.2.1 hb; have C7 := blk_below HF.out.2.2.1 hb; have C8 := blk_below HF.out.2.2.2.1 hb; clear hc4; have hc4 : w4.cell? ⟨g, 0, none⟩ = some (.slice (some ad) l.length c) := (blk_cell C4 0).trans rfl; have hc7_0 : w4.cell? ⟨g + 1, 0, none⟩ = some (.int .i64 k) := (blk_cell C7 0).trans rfl; have hc7_1 : w4.cell? ⟨g + 1, 1, none⟩ = some (.int .i64 a) := (blk_cell C7 1).trans rfl; have hc7_2 : w4.cell? ⟨g + 1, 2, none⟩ = some (.int .i64 b) := (blk_cell C7 2).trans rfl; have hc8 : w4.cell? ⟨g + 1 + 1, 0, none⟩ = some (.slice none 0 0) := (blk_cell C8 0).trans rfl; have hf8 := blk_frozen C8 0; have hx1 : w4.cell? (ad.add fn) = some (.slice A1 m c1) := (hb.cell (by have := HF.out.1.size; have := HX.out.2; have := HG.out; omega)).trans ((HF.out.1.cell (by have := HX.out.2; have := HG.out; omega)).trans HX.out.1); have HB := Aside0.mk (And.intro hb (And.intro C4 (And.intro C7 C8))); clear hb C4 C7 C8) | (go_at_fn 97; refine (impl_in.calls (an : Int) 0 (m : Int) _ _ hI).mono ?_; rintro e w' ⟨rfl, ⟨nd, rfl⟩⟩) | (go_at_fn 98; refine (impl_isStep.calls 2 k a b (l.length : Int) _ _ hS).mono ?_; rintro e w5 ⟨rfl, hb5⟩; have C8 := blk_below (show (w4.drewN nd).heap[g + 1 + 1]? = _ from HB.out.2.2.2) hb5; clear hc8 hf8; have hc8 : w5.cell? ⟨g + 1 + 1, 0, none⟩ = some (.slice none 0 0) := (blk_cell C8 0).trans rfl; have hf8 := blk_frozen C8 0; have C4 := blk_below (show (w4.drewN nd).heap[g]? = _ from HB.out.2.1) hb5; have C7 := blk_below (show (w4.drewN nd).heap[g + 1]? = _ from HB.out.2.2.1) hb5; clear hc4 hc7_0 hc7_1 hc7_2 hx1; have hc4 : w5.cell? ⟨g, 0, none⟩ = some (.slice (some ad) l.length c) := (blk_cell C4 0).trans rfl; have HB5 := Aside0.mk (And.intro hb5 (And.intro C4 (And.intro C7 C8))); clear hb5 C8 C4 C7))
 have B5 : Below w.heap.size w w5 := below_step (pw_below_drewN (below_step (by have := HF.out.1; rwa [HG.out] at this) HB.out.1) _) HB5.out.1
 have C7 := HB5.out.2.2.1
 have C8 := HB5.out.2.2.2
 have hz5 : g + 1 + 1 < w5.heap.size := blk_lt C8
 have F5 := Aside0.mk (And.intro B5 (And.intro C7 (And.intro C8 hz5)))
 clear HB5 HB HF hc8 hf8 B5 C7 C8 hz5 hF hI h8i h8n hS HX
 have e99 : ∀ args w, (callFunc 99 args).run Try.prog w = .ok (.enter 99 args) w := enters_of Try.func99 (by kernel_rfl) rfl
 go_upto_region 4 with (first
  | (go_at_fn 99; refine (impl_Program_copied.calls 100 (some ad) c l l _ (Kd.C_below HR.out F5.out.1) hc HXM.out.2.2.1).mono ?_; rintro e w6 ⟨v1, rfl, hs, hb⟩; obtain ⟨go, co, ev1, hgo1, hgo2, _⟩ := Kd.S_form hs (by omega); subst ev1; have F6 := Aside0.mk (And.intro hs (And.intro hb hgo1)); clear hs hb hgo1 hgo2)
  | ((with_reducible refine gate_dst (N := 10) rfl ?_); refine box_event ?hg (N := 10) ?hd (cs := #[.slice none 0 0]) (t := 28) ?hr ?_; (case hd => rfl); (case hg => rfl); (case hr => first | (go_simp; done) | (go_simp; rfl)); intro g10 hg10 w7 hbox hb; have hc10 : w7.cell? ⟨g10, 0, none⟩ = some (.slice none 0 0) := (blk_cell hbox 0).trans rfl; have hf10 := blk_frozen hbox 0; have F7 := Aside0.mk (And.intro hbox (And.intro hb hg10)); clear hbox hb hg10))
 obtain ⟨w8, hw8⟩ : ∃ w8, w8 = w7.setCell ⟨g10, 0, none⟩ (.slice (some ⟨go, 0, none⟩) l.length co) := ⟨_, rfl⟩
 rw [← hw8]
 obtain ⟨bs, hbs⟩ : ∃ bs, bs = w5.heap.size := ⟨_, rfl⟩
 have hbs6 : bs ≤ w6.heap.size := by rw [hbs]; exact F6.out.2.1.size
 have hb57 : Below w5.heap.size w5 w7 := below_step F6.out.2.1 F7.out.2.1
 have hb58 : Below w5.heap.size w5 w8 := by rw [hw8]; exact below_set hb57 (by have := F7.out.2.2; omega)
 have C7 : w8.heap[g + 1]? = _ := blk_below F5.out.2.1 hb58
 have C8 : w8.heap[g + 1 + 1]? = _ := blk_below F5.out.2.2.1 hb58
 have C10 : w8.heap[g10]? = some (.cells #[.slice (some ⟨go, 0, none⟩) l.length co] 28 (0, 0)) := by rw [hw8]; exact blk_put F7.out.1 0 _ rfl
 have hS8 : Kd.S (Kd.slice 72 k72) 108 w8 w5.heap.size (fun q => bs ≤ q ∧ q < g10) (.slice (some ⟨go, 0, none⟩) l.length co) l := by
  rw [hw8]
  exact Kd.S_far (Kd.S_below (Kd.S_mono (Kd.S_bound F6.out.1) (fun q hq => ⟨by rw [hbs]; exact hq.2.1, by have := hq.2.2.1; have := F7.out.2.2; omega⟩)) F7.out.2.1) (fun q hq => by show q ≠ g10; omega) _
 have hgo : bs ≤ go ∧ go < g10 := (Kd.S_R hS8).1 go rfl
 obtain ⟨oki, ce, hcl, hM, hcc, hfr, hoki, hH⟩ := Kd.S_elem hS8 [] (fn : Int) (by omega) hlz
 obtain ⟨vi, rfl, hRi⟩ := hM
 rw [Int.toNat_natCast, HXM.out.1] at hRi
 have hRi0 := hRi
 obtain ⟨Ai, ci, evi⟩ := Kd.R_slice hRi
 subst evi
 rw [HXM.out.2.1] at hRi
 have hx2 : w8.cell? ⟨go, fn, none⟩ = some (.slice Ai m ci) := by
  have h := hcc 0 _ rfl
  rw [HXM.out.2.1] at h
  simpa only [show (Kd.slice 72 k72).sz = 1 from rfl, Nat.mul_one, Nat.add_zero, Int.toNat_natCast] using h
 have hc10' : w8.cell? ⟨g10, 0, none⟩ = some (.slice (some ⟨go, 0, none⟩) l.length co) := (blk_cell C10 0).trans rfl
 rw [HXM.out.2.1] at hH
 rw [← hbs] at hb58 hRi hH
 have hz8 : g + 1 + 1 < bs ∧ bs ≤ w8.heap.size ∧ g10 < w8.heap.size ∧ bs ≤ g10 := ⟨by rw [hbs]; exact F5.out.2.2.2, by rw [hbs]; exact hb58.size, blk_lt C10, by have := F7.out.2.2; omega⟩
 have F8 := Aside0.mk (And.intro hb58 (And.intro C7 (And.intro C8 (And.intro C10 (And.intro hRi (And.intro hH (And.intro hoki (And.intro hz8 (And.intro hbs hgo)))))))))
 clear hb57 hb58 C7 C8 C10 hS8 hRi hRi0 hcc hcl hfr hoki hH hw8 hbs hbs6 hz8 hgo hc10 hf10 F7 F6 hc4
 go_upto_region 5 with fail
 have hm8 : m ≤ 8 := HXM.out.2.2.2.2.1
 clear hx2 hc10'
 go_wp2_with fail
 go_loopg [56] m (fun gg s56 wr => ∃ kk : Nat, kk ≤ m ∧ m - kk ≤ gg ∧ s56 = .int .i64 kk ∧ Aside0 (Kd.R k72 72 wr bs oki (.slice Ai m ci) (bumped an x kk) ∧ Below bs w5 wr ∧ Kept w8 wr oki))
 case atStart => exact ⟨0, Nat.zero_le _, by omega, rfl, ⟨by rw [bumped_zero]; exact F8.out.2.2.2.2.1, F8.out.1, Kept.refl _ _⟩⟩
 case round =>
  obtain ⟨kk, hkk, hg, rfl, HR8⟩ := hrel
  by_cases hlt : kk < m
  ·have hltz : (kk : Int) < (m : Int) := by omega
   have hbl : (bumped an x kk).length = m := by rw [bumped_length]; exact HXM.out.2.1
   have hxl : x.length = m := HXM.out.2.1
   obtain ⟨gi, cap, eAi, hgib, _⟩ := Kd.R_form HR8.out.1 (by omega)
   simp only [Value.slice.injEq] at eAi
   obtain ⟨rfl, hq1, hq2⟩ := eAi
   clear hq1 hq2
   obtain ⟨hx0, hx1, hx2, hfz, hgiw, hq3⟩ := R72_cells HR8.out.1 kk (by omega)
   clear hq3
   rw [bumped_at an x kk (by omega)] at hx0 hx1 hx2
   have hjk := HXM.out.2.2.2.2.2 x[kk] (List.getElem_mem (by omega))
   have hbs := bumped_step an x kk (by omega)
   have hbm := bumped_same an x kk (by omega)
   have hba : (bumped an x kk)[kk]? = some x[kk] := by rw [List.getElem?_eq_getElem (by omega), bumped_at an x kk (by omega)]
   generalize x[kk] = y at hx0 hx1 hx2 hjk hbs hbm hba
   obtain ⟨y0, y1, y2⟩ := y
   simp only at hx0 hx1 hx2 hjk
   have hfz1 := hfz (kk * 3 + 1)
   have HY := Aside0.mk (And.intro hbs (And.intro hbm (And.intro hba (And.intro hbl (And.intro hgib hgiw)))))
   have HJ := Aside0.mk hjk
   clear hbs hbm hba hbl hfz hgib hgiw hjk
   go_upto_region 8 with (first | ((with_reducible refine gate_dst (N := 13) rfl ?_); refine box_event ?hg (N := 13) ?hd (cs := #[.int .i64 0, .int .i64 0, .int .i64 0]) (t := 72) ?hr ?_; (case hd => rfl); (case hg => rfl); (case hr => first | (go_simp; done) | (go_simp; rfl)); intro g13 hg13 w9 hbox hb; have hc13_0 : w9.cell? ⟨g13, 0, none⟩ = some (.int .i64 0) := (blk_cell hbox 0).trans rfl; have hc13_1 : w9.cell? ⟨g13, 1, none⟩ = some (.int .i64 0) := (blk_cell hbox 1).trans rfl; have hc13_2 : w9.cell? ⟨g13, 2, none⟩ = some (.int .i64 0) := (blk_cell hbox 2).trans rfl; have hf13_0 := blk_frozen hbox 0; have hf13_1 := blk_frozen hbox 1; have hf13_2 := blk_frozen hbox 2; have F9 := Aside0.mk (And.intro hbox (And.intro hb hg13)); clear hbox hb hg13))
   obtain ⟨w10, hw10⟩ : ∃ w10, w10 = (((w9.setCell ⟨g13, 0, none⟩ (.int .i64 y0)).setCell ⟨g13, 1, none⟩ (.int .i64 y1)).setCell ⟨g13, 2, none⟩ (.int .i64 y2)) := ⟨_, rfl⟩
   rw [← hw10]
   have p0 : (w9.setCell ⟨g13, 0, none⟩ (.int .i64 y0)).heap[g13]? = some (.cells #[.int .i64 y0, .int .i64 0, .int .i64 0] 72 (0, 0)) := blk_put F9.out.1 0 _ rfl
   have p1 : ((w9.setCell ⟨g13, 0, none⟩ (.int .i64 y0)).setCell ⟨g13, 1, none⟩ (.int .i64 y1)).heap[g13]? = some (.cells #[.int .i64 y0, .int .i64 y1, .int .i64 0] 72 (0, 0)) := blk_put p0 1 _ rfl
   have p2 : w10.heap[g13]? = some (.cells #[.int .i64 y0, .int .i64 y1, .int .i64 y2] 72 (0, 0)) := by rw [hw10]; exact blk_put p1 2 _ rfl
   have hb10 : Below wr.heap.size wr w10 := by rw [hw10]; exact below_set (below_set (below_set F9.out.2.1 (by rw [F9.out.2.2]; exact Nat.le_refl _)) (by rw [F9.out.2.2]; exact Nat.le_refl _)) (by rw [F9.out.2.2]; exact Nat.le_refl _)
   have hgw := HY.out.2.2.2.2.2
   have hx1' : w10.cell? ⟨gi, kk * 3 + 1, none⟩ = some (.int .i64 y1) := (hb10.cell hgw).trans hx1
   have hfz' : w10.frozen? ⟨gi, kk * 3 + 1, none⟩ = false := (hb10.frozen hgw).trans hfz1
   have q0 : w10.cell? ⟨g13, 0, none⟩ = some (.int .i64 y0) := (blk_cell p2 0).trans rfl
   have q1 : w10.cell? ⟨g13, 1, none⟩ = some (.int .i64 y1) := (blk_cell p2 1).trans rfl
   have q2 : w10.cell? ⟨g13, 2, none⟩ = some (.int .i64 y2) := (blk_cell p2 2).trans rfl
   have F10 := Aside0.mk hb10
   clear hw10 p0 p1 p2 hb10 hgw hc13_0 hc13_1 hc13_2 hf13_0 hf13_1 hf13_2 hx0 hx1 hx2 hfz1
   have hrow10 := Aside0.mk (And.intro (Kd.R_below HR8.out.1 F10.out) (And.intro (below_then HR8.out.2.1 (by have := F8.out.2.2.2.2.2.2.2.1; have := HR8.out.2.2.1; omega) F10.out) ((HR8.out.2.2).then_ (Kept.of_below F10.out oki) (fun q hq => .inl hq))))
   by_cases hcase : y0 = 11 ∧ (an : Int) ≤ y1
   ·obtain ⟨rfl, hle⟩ := hcase
    have hb1 := (HJ.out rfl).1
    have hb2 := (HJ.out rfl).2
    have hw1 : wrap64 (y1 + 1) = y1 + 1 := wrap_near (by omega) (by omega)
    obtain ⟨z, hz⟩ : ∃ z, z = mn (y1 + 1) 8 := ⟨_, rfl⟩
    have he : bumpS an ⟨11, y1, y2⟩ = ⟨11, z, y2⟩ := by unfold bumpS; rw [if_pos ⟨rfl, hle⟩, hz]
    have HE := Aside0.mk he
    clear he
    have hfinal : ∀ W, W = w10.setCell ⟨gi, kk * 3 + 1, none⟩ (.int .i64 z) → Kd.R k72 72 W bs oki (.slice (some ⟨gi, 0, none⟩) m ci) (bumped an x (kk + 1)) ∧ Below bs w5 W ∧ Kept w8 W oki := by
     rintro W rfl
     have h := R72_set hrow10.out.1 kk (by rw [HY.out.2.2.2.1]; exact hlt) z
     obtain ⟨_, hget⟩ := List.getElem?_eq_some_iff.1 HY.out.2.2.1
     rw [hget] at h
     refine ⟨?_, hrow10.out.2.1.setCell HY.out.2.2.2.2.1 _, hrow10.out.2.2.setCell (.inl (HR8.out.1.1 gi rfl)) _⟩
     rw [← HY.out.1, HE.out]
     exact h
    have HFin := Aside0.mk hfinal
    clear hfinal
    by_cases hy8 : y1 + 1 ≤ 8
    ·have hz' : y1 + 1 = z := by rw [hz]; unfold mn; omega
     clear hz
     have HZ := Aside0.mk hz'
     clear hz'
     go_wp2
     go_roundg (m - (kk + 1))
     case measure => omega
     case rel => exact ⟨kk + 1, by omega, by omega, by go_num, ⟨HFin.out _ (by rw [HZ.out])⟩⟩
    ·have hz' : 8 = z := by rw [hz]; unfold mn; omega
     clear hz
     have HZ := Aside0.mk hz'
     clear hz'
     go_wp2
     go_roundg (m - (kk + 1))
     case measure => omega
     case rel => exact ⟨kk + 1, by omega, by omega, by go_num, ⟨HFin.out _ (by rw [← HZ.out])⟩⟩
   ·have he : bumpS an ⟨y0, y1, y2⟩ = ⟨y0, y1, y2⟩ := by unfold bumpS; rw [if_neg hcase]
    have HN := Aside0.mk (HY.out.2.1 he)
    clear he
    by_cases h11 : y0 = 11
    ·subst h11
     have hle : ¬ (an : Int) ≤ y1 := fun h => hcase ⟨rfl, h⟩
     clear hcase
     go_wp2
     go_roundg (m - (kk + 1))
     case measure => omega
     case rel => exact ⟨kk + 1, by omega, by omega, by go_num, ⟨by rw [HN.out]; exact hrow10.out.1, hrow10.out.2.1, hrow10.out.2.2⟩⟩
    ·clear hcase
     go_wp2
     go_roundg (m - (kk + 1))
     case measure => omega
     case rel => exact ⟨kk + 1, by omega, by omega, by go_num, ⟨by rw [HN.out]; exact hrow10.out.1, hrow10.out.2.1, hrow10.out.2.2⟩⟩
  ·have hk := Aside0.mk (show kk = m by omega)
   have hltz : ¬ ((kk : Int) < (m : Int)) := by omega
   have F11 := Aside0.mk (show Kd.R k72 72 wr bs oki (.slice Ai m ci) (x.map (bumpS an)) from by have h := HR8.out.1; rw [hk.out, ← HXM.out.2.1, bumped_end] at h; rw [← HXM.out.2.1]; exact h)
   clear hkk hg hlt
   go_upto_region 11 with fail
   have hbr := HR8.out.2.1
   have hkr := HR8.out.2.2
   have hoki := F8.out.2.2.2.2.2.2.1
   have hz8 := F8.out.2.2.2.2.2.2.2.1
   have C7 : wr.heap[g + 1]? = _ := blk_kept F8.out.2.1 hkr (fun h => by have := (hoki _ h).1; omega)
   have C8 : wr.heap[g + 1 + 1]? = _ := blk_kept F8.out.2.2.1 hkr (fun h => by have := (hoki _ h).1; omega)
   have C10 : wr.heap[g10]? = _ := blk_kept F8.out.2.2.2.1 hkr (fun h => by have := (hoki _ h).1; omega)
   have hH := Kd.H_kept F8.out.2.2.2.2.2.1 hkr (fun q _ hn => hn)
   have hdr : Below wr.heap.size wr wr.drew := below_drew1 (Below.refl _ _)
   have F12 := Aside0.mk (And.intro (Kd.R_below F11.out hdr) (And.intro (below_then hbr (by have := hkr.1; omega) hdr) (And.intro (blk_below C7 hdr) (And.intro (blk_below C8 hdr) (And.intro (blk_below C10 hdr) (And.intro (Kd.H_below hH hdr) (show bs ≤ wr.drew.heap.size ∧ g10 < wr.drew.heap.size from ⟨by have := hkr.1; have := hdr.size; omega, by have := hkr.1; have := hdr.size; omega⟩)))))))
   clear hbr hkr hoki C7 C8 C10 hH hdr F11 HR8 hk
   refine start_ (n := 10) (S := fun w' => w'.cell? ⟨g10, 0, none⟩ = some (.slice (some ⟨go, 0, none⟩) l.length co) ∧ w'.cell? ⟨g + 1, 0, none⟩ = some (.int .i64 k) ∧ w'.cell? ⟨g + 1, 1, none⟩ = some (.int .i64 a) ∧ w'.cell? ⟨g + 1, 2, none⟩ = some (.int .i64 b)) (ds := [9]) #[false, false, false, false, false, false, false, false, false, false] (by kernel_rfl) rfl rfl ⟨(blk_cell F12.out.2.2.2.2.1 0).trans rfl, (blk_cell F12.out.2.2.1 0).trans rfl, (blk_cell F12.out.2.2.1 1).trans rfl, (blk_cell F12.out.2.2.1 2).trans rfl⟩ (fun hHeld => ?_)
   generalize wr.drew = wd at F12 hHeld ⊢
   refine take_ (i := 0) (N := some 79) (v := ?_) (a' := ?_) #[true, false, false, false, false, false, false, false, false, false] rfl rfl (by kernel_rfl) (fun _ _ _ h => h) (Or.inl ⟨by rfl, ?_⟩) hHeld ?_ ?_
   rotate_left
   ·rintro w' ⟨s0, s1, s2, s3⟩
    go_simp
    with_reducible rfl
   rotate_left
   ·simp only [Act.put, List.setIfInBounds_toArray, List.set_cons_zero, List.set_cons_succ, i64_w, i32_w]
    rfl
   refine take_ (i := 1) (N := some 80) (v := ?_) (a' := ?_) #[true, true, false, false, false, false, false, false, false, false] rfl rfl (by kernel_rfl) (fun _ _ _ h => h) (Or.inl ⟨by rfl, ?_⟩) hHeld ?_ ?_
   rotate_left
   ·rintro w' ⟨s0, s1, s2, s3⟩
    go_simp
    with_reducible rfl
   rotate_left
   ·simp only [Act.put, List.setIfInBounds_toArray, List.set_cons_zero, List.set_cons_succ, i64_w, i32_w]
    rfl
   refine take_ (i := 2) (N := some 81) (v := ?_) (a' := ?_) #[true, true, true, false, false, false, false, false, false, false] rfl rfl (by kernel_rfl) (fun _ _ _ h => h) (Or.inl ⟨by rfl, ?_⟩) hHeld ?_ ?_
   rotate_left
   ·rintro w' ⟨s0, s1, s2, s3⟩
    go_simp
    with_reducible rfl
   rotate_left
   ·simp only [Act.put, List.setIfInBounds_toArray, List.set_cons_zero, List.set_cons_succ, i64_w, i32_w]
    rfl
   refine take_ (i := 3) (N := some 82) (v := ?_) (a' := ?_) #[true, true, true, true, false, false, false, false, false, false] rfl rfl (by kernel_rfl) (fun _ _ _ h => h) (Or.inl ⟨by rfl, ?_⟩) hHeld ?_ ?_
   rotate_left
   ·rintro w' ⟨s0, s1, s2, s3⟩
    go_simp
    with_reducible rfl
   rotate_left
   ·simp only [Act.put, List.setIfInBounds_toArray, List.set_cons_zero, List.set_cons_succ, i64_w, i32_w]
    rfl
   refine take_ (i := 4) (N := some 83) (v := ?_) (a' := ?_) #[true, true, true, true, true, false, false, false, false, false] rfl rfl (by kernel_rfl) (fun _ _ _ h => h) (Or.inl ⟨by rfl, ?_⟩) hHeld ?_ ?_
   rotate_left
   ·rintro w' ⟨s0, s1, s2, s3⟩
    go_simp
    with_reducible rfl
   rotate_left
   ·simp only [Act.put, List.setIfInBounds_toArray, List.set_cons_zero, List.set_cons_succ, i64_w, i32_w]
    rfl
   refine take_ (i := 5) (N := some 84) (v := ?_) (a' := ?_) #[true, true, true, true, true, true, false, false, false, false] rfl rfl (by kernel_rfl) (fun _ _ _ h => h) (Or.inl ⟨by rfl, ?_⟩) hHeld ?_ ?_
   rotate_left
   ·rintro w' ⟨s0, s1, s2, s3⟩
    go_simp
    with_reducible rfl
   rotate_left
   ·simp only [Act.put, List.setIfInBounds_toArray, List.set_cons_zero, List.set_cons_succ, i64_w, i32_w]
    rfl
   refine one_ (i := 6) (N := some 85) #[true, true, true, true, true, true, true, false, false, false] rfl rfl (by kernel_rfl) (by decide) (fun K hK => ?_)
   refine event_step (by rfl) (v := .slice (some ⟨wd.heap.size, 0, none⟩) 1 1) (w1 := wd.alloc (.cells #[.int .i64 k, .int .i64 a, .int .i64 b] 72)) (by first | (go_simp; done) | (go_simp; rfl)) ?_
   obtain ⟨we, hwe⟩ : ∃ we, we = wd.alloc (.cells #[.int .i64 k, .int .i64 a, .int .i64 b] 72) := ⟨_, rfl⟩
   rw [← hwe]
   have hbe : Below wd.heap.size wd we := by rw [hwe]; exact below_alloc (Below.refl _ _) _
   have CV : we.heap[wd.heap.size]? = some (.cells (encS ⟨k, a, b⟩).toArray 72 (0, 0)) := by rw [hwe]; exact blk_new wd _
   have F13 := Aside0.mk (And.intro (Kd.R_below F12.out.1 hbe) (And.intro (below_then F12.out.2.1 F12.out.2.2.2.2.2.2.1 hbe) (And.intro (blk_below F12.out.2.2.1 hbe) (And.intro (blk_below F12.out.2.2.2.1 hbe) (And.intro (blk_below F12.out.2.2.2.2.1 hbe) (And.intro (Kd.H_below F12.out.2.2.2.2.2.1 hbe) (And.intro CV (show bs ≤ wd.heap.size ∧ g10 < wd.heap.size ∧ wd.heap.size < we.heap.size from ⟨F12.out.2.2.2.2.2.2.1, F12.out.2.2.2.2.2.2.2, blk_lt CV⟩))))))))
   clear hwe hbe CV F12
   refine hK.out _ _ ⟨(blk_cell F13.out.2.2.2.2.1 0).trans rfl, (blk_cell F13.out.2.2.1 0).trans rfl, (blk_cell F13.out.2.2.1 1).trans rfl, (blk_cell F13.out.2.2.1 2).trans rfl⟩ (fun hHeld => ?_)
   clear hK K
   refine norm_ (a' := ?_) ?_ ?_
   rotate_left
   ·show Act.put _ (some 85) _ = _
    simp only [Act.put, List.setIfInBounds_toArray, List.set_cons_zero, List.set_cons_succ, i64_w, i32_w]
    rfl
   obtain ⟨gv, hgv⟩ : ∃ gv, gv = wd.heap.size := ⟨_, rfl⟩
   rw [← hgv] at F13 ⊢
   clear hgv
   refine one_ (i := 7) (N := some 86) #[true, true, true, true, true, true, true, true, false, false] rfl rfl (by kernel_rfl) (by decide) (fun K hK => ?_)
   refine goes_ Try.func100 (by kernel_rfl) rfl #[.slice Ai m ci, .int .i64 an, .slice (some ⟨gv, 0, none⟩) 1 1] (by rfl) rfl rfl (by (try simp only [List.map_toArray, List.map_cons, List.map_nil]); first | done | rfl) ?_
   have hmx : m = (x.map (bumpS an)).length := by rw [List.length_map, HXM.out.2.1]
   refine (insert.calls w5 we bs (fun q => oki q ∨ we.heap.size ≤ q) Ai ci m an gv 1 72 (x.map (bumpS an)) ⟨k, a, b⟩ hmx HXM.out.2.2.2.1 (Kd.R_mono F13.out.1 (fun q hq => .inl hq)) F13.out.2.2.2.2.2.2.1 (fun q hq => by have := (F8.out.2.2.2.2.2.2.1 q (F13.out.1.1 q hq)).1; have := F13.out.2.2.2.2.2.2.2; have := F8.out.2.2.2.2.2.2.2.1; omega) (by omega) F13.out.2.1 (by have := F13.out.2.2.2.2.2.2.2; omega) (fun q hq => .inr hq)).mono ?_
   rintro e w12 ⟨v', rfl, hR', hg', _⟩
   refine ⟨_, rfl, ?_⟩
   have hz8 := F8.out.2.2.2.2.2.2.2.1
   have hz13 := F13.out.2.2.2.2.2.2.2
   have hrow : ∀ q, (Value.slice Ai m ci).ownBlock = some q → oki q := fun q hq => F13.out.1.1 q hq
   have hne : ∀ q, ¬ (bs ≤ q ∧ q < g10) → some q ≠ (Value.slice Ai m ci).ownBlock := fun q hq h => hq (F8.out.2.2.2.2.2.2.1 q (hrow q h.symm)).1
   have C8 : w12.heap[g + 1 + 1]? = _ := (hg'.block _ (blk_lt F13.out.2.2.2.1) (hne _ (by omega))).trans F13.out.2.2.2.1
   have C10 : w12.heap[g10]? = _ := (hg'.block _ (blk_lt F13.out.2.2.2.2.1) (hne _ (by omega))).trans F13.out.2.2.2.2.1
   have C7 : w12.heap[g + 1]? = _ := (hg'.block _ (blk_lt F13.out.2.2.1) (hne _ (by omega))).trans F13.out.2.2.1
   have hH := Kd.H_grown F13.out.2.2.2.2.2.1 hg' (fun q hq => hrow q hq)
   have F14 := Aside0.mk (And.intro hR' (And.intro (F13.out.2.1.grown hg' (by omega) (fun q hq => (F8.out.2.2.2.2.2.2.1 q (hrow q hq)).1.1)) (And.intro C8 (And.intro C10 (And.intro hH hg'.size)))))
   have F15 := Aside0.mk hz13
   clear hz8 hz13 hrow hne hH hR' hg' F13
   refine hK.out _ _ ⟨(blk_cell C10 0).trans rfl, (blk_cell C7 0).trans rfl, (blk_cell C7 1).trans rfl, (blk_cell C7 2).trans rfl⟩ (fun hHeld => ?_)
   clear hK K C7 C8 C10
   refine norm_ (a' := ?_) ?_ ?_
   rotate_left
   ·show Act.put _ (some 86) _ = _
    simp only [Act.put, List.setIfInBounds_toArray, List.set_cons_zero, List.set_cons_succ, i64_w, i32_w]
    rfl
   refine take_ (i := 8) (N := some 87) (v := ?_) (a' := ?_) #[true, true, true, true, true, true, true, true, true, false] rfl rfl (by kernel_rfl) (fun _ _ _ h => h) (Or.inl ⟨by rfl, ?_⟩) hHeld ?_ ?_
   rotate_left
   ·rintro w' ⟨s0, s1, s2, s3⟩
    go_simp
    with_reducible rfl
   rotate_left
   ·simp only [Act.put, List.setIfInBounds_toArray, List.set_cons_zero, List.set_cons_succ, i64_w, i32_w]
    rfl
   have hat := Kd.H_at F14.out.2.2.2.2.1 (by omega) hlz
   have hcell : w12.cell? ⟨go, fn, none⟩ = some (.slice Ai m ci) := by
    have h := hat.1 0 _ rfl
    simpa only [show (Kd.slice 72 k72).sz = 1 from rfl, Nat.mul_one, Nat.add_zero, Int.toNat_natCast] using h
   have hfroz : w12.frozen? ⟨go, fn, none⟩ = false := by
    have h := hat.2 0
    simpa only [show (Kd.slice 72 k72).sz = 1 from rfl, Nat.mul_one, Nat.add_zero, Int.toNat_natCast] using h
   clear hat
   refine last_ (i := 9) (N := none) #[true, true, true, true, true, true, true, true, true, true] rfl rfl (by kernel_rfl) (by decide) (fun K hK => ?_)
   rw [if_pos (by rfl)]
   unfold Oper.wp
   obtain ⟨Av', cv', hv'⟩ := Kd.R_slice F14.out.1
   generalize hnl : (List.take an (List.map (bumpS (an : Int)) x) ++ (⟨k, a, b⟩ : S72) :: List.drop an (List.map (bumpS (an : Int)) x)).length = nl at hv'
   subst hv'
   clear hnl hmx
   go_simp
   refine hK.out _ _ ?_
   clear hK K
   refine done_ (by kernel_rfl) ?_
   obtain ⟨w13, hw13⟩ : ∃ w13, w13 = w12.setCell ⟨go, fn, none⟩ (.slice Av' nl cv') := ⟨_, rfl⟩
   rw [← hw13]
   have hz8 := F8.out.2.2.2.2.2.2.2.1
   have hgo := F8.out.2.2.2.2.2.2.2.2.2
   have hS13 : Kd.S (Kd.slice 72 k72) 108 w13 bs (fun q => (bs ≤ q ∧ q < g10) ∨ we.heap.size ≤ q) (.slice (some ⟨go, 0, none⟩) l.length co) (l.set fn (putB an ⟨k, a, b⟩ x)) := by
    have h := (Kd.S_seg (okp := fun q => oki q ∨ we.heap.size ≤ q) (okg := fun q => we.heap.size ≤ q) (ok := fun q => (bs ≤ q ∧ q < g10) ∨ we.heap.size ≤ q) (seg := [.slice Av' nl cv']) (j := 0) (x' := putB an ⟨k, a, b⟩ x) (Kd.H_mono F14.out.2.2.2.2.1 (fun q hq => ⟨.inl hq, by have := F15.out; omega⟩)) (by omega) hlz (Nat.le_refl 1) (by
     refine ⟨_, rfl, ?_⟩
     unfold putB
     rw [Int.toNat_natCast]
     exact F14.out.1) (fun q hq => hq) (fun q hq => ⟨.inr hq, by have := F15.out; omega⟩)).1
    rw [hw13]
    simpa only [show (Kd.slice 72 k72).sz = 1 from rfl, Nat.mul_one, Nat.add_zero, Int.toNat_natCast, World.setCells] using h
   have hk13 : Kept w12 w13 (fun q => q = go) := by rw [hw13]; exact Kept.setCell (S := fun q => q = go) (p := ⟨go, fn, none⟩) (Kept.refl _ _) (.inl rfl) _
   have C8 : w13.heap[g + 1 + 1]? = _ := blk_kept F14.out.2.2.1 hk13 (by omega)
   have C10 : w13.heap[g10]? = _ := blk_kept F14.out.2.2.2.1 hk13 (by omega)
   have hb13 : Below w.heap.size w w13 := by
    have h1 : Below bs w5 w13 := by rw [hw13]; exact F14.out.2.1.setCell hgo.1 _
    have := F8.out.2.2.2.2.2.2.2.2.1
    rw [this] at h1
    exact below_step F5.out.1 h1
   have hc10 : w13.cell? ⟨g10, 0, none⟩ = some (.slice (some ⟨go, 0, none⟩) l.length co) := (blk_cell C10 0).trans rfl
   have hc8 : w13.cell? ⟨g + 1 + 1, 0, none⟩ = some (.slice none 0 0) := (blk_cell C8 0).trans rfl
   have hf8 := blk_frozen C8 0
   have hbs := F8.out.2.2.2.2.2.2.2.2.1
   have F16 := Aside0.mk (And.intro hS13 (And.intro C8 hb13))
   clear hS13 hk13 C8 C10 hb13 hw13 hz8 hgo hcell hfroz hbs hm8 hlz
   go_wp2
   refine bodyPost_ret (results_ct (P := Try.prog) (fn := Try.f49) (ty := 28) rfl _ _ (g + 1 + 1) 28 #[.slice (some ⟨go, 0, none⟩) l.length co] (0, 0) _ rfl (blk_put F16.out.2.1 0 _ rfl) Try.underlying28 rfl rfl) rfl ⟨.slice (some ⟨go, 0, none⟩) l.length co, rfl, ?_, below_set F16.out.2.2 (by have := HG.out; omega)⟩
   have hz8 := F8.out.2.2.2.2.2.2.2.1
   have h1 : w.heap.size ≤ bs := by have := HG.out; omega
   have h2 := Kd.S_far (p := ⟨g + 1 + 1, 0, none⟩) F16.out.1 (fun q hq => by show q ≠ g + 1 + 1; have := F15.out; omega) (.slice (some ⟨go, 0, none⟩) l.length co)
   exact Kd.S_lower (Kd.S_mono h2 (fun _ _ => trivial)) h1
end Go.Proofs.Ythdhhpcbagpmgaa.Pr
end

section
namespace Go.Proofs.Ythdhhpcbagpmgaa.Pr
open Go.RowKit Go.Proofs.YthdhhpcbagpmgaaW.PrintWords Go.Proofs.YthdhhpcbagpmgaaW.PrintLast Go.Proofs.YthdhhpcbagpmgaaW.PrintMore
set_option linter.unusedVariables false
set_option linter.unusedSimpArgs false
theorem progOk_len {l : List (List S72)} (h : progOk l = true) : 1 ≤ l.length ∧ l.length ≤ 6 ∧ ∀ b ∈ l, b.length ≤ 8 ∧ ∀ s ∈ b, stepOk l.length s = true := by
 unfold progOk at h
 simp only [Bool.and_eq_true, decide_eq_true_eq, List.all_eq_true] at h
 refine ⟨h.1.1, h.1.2, fun b hb => ?_⟩
 have := h.2 b hb
 unfold bodyOk at this
 simp only [Bool.and_eq_true, decide_eq_true_eq, List.all_eq_true] at this
 exact this
theorem stepOk_jump {n : Int} {s : S72} (h : stepOk n s = true) (h11 : s.f0 = 11) : 0 ≤ s.f1 ∧ s.f1 ≤ 8 := by
 unfold stepOk at h
 rw [h11] at h
 simp only [decide_eq_true_eq] at h
 omega
theorem getD_mem {α : Type} (l : List (List α)) (i : Nat) (h : i < l.length) : l.getD i [] ∈ l := by
 rw [List.getD_eq_getElem?_getD, List.getElem?_eq_getElem h]
 exact List.getElem_mem h
theorem impl_PutStep.calls (A0_0 : Option Addr) (c0_0 : Nat) (l0_0 : List (List S72)) (a1 a2 a3_0 a3_1 a3_2 : Int) (r1 : List (List S72)) (r2 : Bool) (w : World) (hr0_0 : Kd.C (Kd.slice 72 k72) w A0_0 l0_0.length l0_0) (hc0_0 : l0_0.length ≤ c0_0) (h : impl_PutStep.f l0_0 a1 a2 a3_0 a3_1 a3_2 = some (r1, r2)) :
  Calls Try.prog 49 #[.agg #[.slice A0_0 l0_0.length c0_0], .int .i64 a1, .int .i64 a2, .agg #[.int .i64 a3_0, .int .i64 a3_1, .int .i64 a3_2]] w fun e w' => ∃ v0_ : Value, e = .returned (.tuple #[.agg #[v0_], .bool r2]) ∧ Kd.S (Kd.slice 72 k72) 108 w' w.heap.size (fun _ => True) v0_ r1 ∧ Below w.heap.size w w' := by
 unfold impl_PutStep.f at h
 by_cases h1 : (progOk l0_0 && decide (0 ≤ a1 ∧ a1 ≤ (l0_0.length : Int) - 1)) = true
 ·simp only [Bool.and_eq_true, decide_eq_true_eq] at h1
  obtain ⟨hP, hf0, hf1⟩ := h1
  obtain ⟨hl1, hl6, hbs⟩ := progOk_len hP
  obtain ⟨fn, rfl⟩ : ∃ fn : Nat, a1 = fn := ⟨a1.toNat, by omega⟩
  have hfn : fn < l0_0.length := by omega
  have hmem := getD_mem l0_0 fn hfn
  obtain ⟨hx8, hst⟩ := hbs _ hmem
  have hd : decide (0 ≤ (fn : Int) ∧ (fn : Int) ≤ (l0_0.length : Int) - 1) = true := decide_eq_true (by omega)
  unfold putOk at h
  rw [hP, hd, Int.toNat_natCast, Bool.true_and, Bool.true_and] at h
  by_cases h2 : 0 ≤ a2 ∧ a2 ≤ ((l0_0.getD fn []).length : Int)
  ·obtain ⟨an, rfl⟩ : ∃ an : Nat, a2 = an := ⟨a2.toNat, by omega⟩
   have hI : impl_in.f (an : Int) 0 ((l0_0.getD fn []).length : Int) = some true := by rw [in_eq, decide_eq_true h2]
   rw [decide_eq_true h2, Bool.true_and] at h
   by_cases h8 : (l0_0.getD fn []).length = 8
   ·rw [decide_eq_false (by simpa using h8), Bool.false_and, if_neg (by decide)] at h
    obtain ⟨rfl, rfl⟩ := Prod.mk.inj (Option.some.inj h)
    exact put_no3 A0_0 c0_0 l0_0 fn an a3_0 a3_1 a3_2 w hr0_0 hc0_0 hP hfn hI h8
   ·rw [decide_eq_true (by simpa using h8), Bool.true_and] at h
    have hS := isStep_eq ⟨a3_0, a3_1, a3_2⟩ l0_0.length (by omega) (by omega) 2 (by omega)
    cases hs : stepOk (l0_0.length : Int) ⟨a3_0, a3_1, a3_2⟩ with
    | false =>
     rw [hs] at h hS
     rw [if_neg (by decide)] at h
     obtain ⟨rfl, rfl⟩ := Prod.mk.inj (Option.some.inj h)
     exact put_no4 A0_0 c0_0 l0_0 fn an a3_0 a3_1 a3_2 w hr0_0 hc0_0 hP hfn hI h8 hS
    | true =>
     rw [hs] at h hS
     rw [if_pos rfl] at h
     obtain ⟨rfl, rfl⟩ := Prod.mk.inj (Option.some.inj h)
     exact put_yes A0_0 c0_0 l0_0 fn an a3_0 a3_1 a3_2 w hr0_0 hc0_0 hP hfn hI h8 hS (copied_small l0_0 hl6 (fun b hb => (hbs b hb).1)) (by omega) hx8 (fun s hs h11 => stepOk_jump (hst s hs) h11)
  ·have hI : impl_in.f a2 0 ((l0_0.getD fn []).length : Int) = some false := by rw [in_eq, decide_eq_false h2]
   rw [decide_eq_false h2, Bool.false_and, Bool.false_and, if_neg (by decide)] at h
   obtain ⟨rfl, rfl⟩ := Prod.mk.inj (Option.some.inj h)
   exact put_no2 A0_0 c0_0 l0_0 fn a2 a3_0 a3_1 a3_2 w hr0_0 hc0_0 hP hfn hI
 ·have h1' := Bool.eq_false_iff.2 h1
  have hp : putOk l0_0 a1 a2 ⟨a3_0, a3_1, a3_2⟩ = false := by unfold putOk; rw [h1']; simp
  rw [hp, if_neg (by decide)] at h
  obtain ⟨rfl, rfl⟩ := Prod.mk.inj (Option.some.inj h)
  exact put_no1 A0_0 c0_0 l0_0 a1 a2 a3_0 a3_1 a3_2 w hr0_0 hc0_0 h1'
end Go.Proofs.Ythdhhpcbagpmgaa.Pr
end
