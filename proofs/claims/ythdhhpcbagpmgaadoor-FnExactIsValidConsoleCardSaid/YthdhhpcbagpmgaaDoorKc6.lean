-- texts of this session, and of the kit's print, cut to what the claim leans on
import Derived.Test.YthdhhpcbagpmgaaDoorKc4
import Derived.Test.YthdhhpcbagpmgaaDoorKc5
import Derived.Test.YthdhhpcbagpmgaaDoorKc2
import Derived.Test.YthdhhpcbagpmgaaDoorKc3
section
namespace Go.Proofs.YthdhhpcbagpmgaaDoor.Pr
open Go.RowKit Go.Proofs.YthdhhpcbagpmgaaDoorW.PrintWords Go.Proofs.YthdhhpcbagpmgaaDoorW.PrintLast Go.Proofs.YthdhhpcbagpmgaaDoorW.PrintMore
attribute [local go_sem] max2_int min2_int max_two min_two max_three min_three max_four min_four
set_option linter.unusedVariables false
set_option linter.unusedSimpArgs false
def impl_EncodeRecord.j0 : Nat → Int → Bool → ByteArray → ByteArray → Option (ByteArray × Bool)
 | 0, _, _, _, _ => none
 | k + 1, x0, x15, x257000, x257001 => if x15 = true then (some ((⟨#[]⟩ : ByteArray), false)) else ((strconv_Itoa.f x0).bind fun t259 => (if t259.size + 1 ≤ 9223372036854775807 then (if (t259.size + 1) + x257000.size ≤ 9223372036854775807 then (if ((t259.size + 1) + x257000.size) + 1 ≤ 9223372036854775807 then (if (((t259.size + 1) + x257000.size) + 1) + x257001.size ≤ 9223372036854775807 then ((impl_AppendChecksum.f k ((((t259 ++ (⟨#[32]⟩ : ByteArray)) ++ x257000) ++ (⟨#[64]⟩ : ByteArray)) ++ x257001)).bind fun bt260 => (if bt260.1.size + 1 ≤ 9223372036854775807 then (some (bt260.1 ++ (⟨#[10]⟩ : ByteArray), true)) else (none))) else (none)) else (none)) else (none)) else (none)))
def impl_EncodeRecord.f (k : Nat) (a0 : Int) (a1_0 : ByteArray) (a1_1 : ByteArray) : Option (ByteArray × Bool) := (impl_in.f a0 0 59).bind fun t257 => (if t257 = true then ((impl_IsValidRecord.f k a1_0 a1_1).bind fun t258 => (impl_EncodeRecord.j0 k a0 (!t258) a1_0 a1_1)) else (impl_EncodeRecord.j0 k a0 true a1_0 a1_1))
def impl_EncodeRecord.T3 : Bool × List (List Nat × List Nat) := (true, [([], []), ([0], [0]), ([1], [1]), ([], []), ([3], [3]), ([2, 4], [2, 4]), ([5], [5]), ([], []), ([7], [7]), ([6, 8], [6, 8]), ([9, 1], [9]), ([10], [10]), ([11], [11]), ([11], [11]), ([12, 10, 0, 1, 2, 3, 4, 5, 6, 7, 8, 9, 10, 11, 12], [12]), ([13, 14, 0, 1, 2, 3, 4, 5, 6, 7, 8, 9, 10, 11, 12, 13, 14], [13])])
def impl_EncodeRecord.B3 : List Nat := [0, 1, 3, 0, 8, 31, 63, 0, 128, 511, 1023, 2047, 4095, 4095, 8191, 32767]
theorem impl_EncodeRecord.tab3 : rtab .any (opsOf Tryd.f53 3) = impl_EncodeRecord.T3 := by kernel_rfl
theorem impl_EncodeRecord.bits3 : waitsOk impl_EncodeRecord.T3.2 impl_EncodeRecord.B3 = true := by kernel_rfl
set_option maxHeartbeats 8000000 in
set_option maxRecDepth 100000 in
theorem impl_EncodeRecord.calls (k : Nat) (a0 : Int) (a1_0 : ByteArray) (a1_1 : ByteArray) (r1 : ByteArray) (r2 : Bool) (w : World) (hgl : Glob w) (h : impl_EncodeRecord.f k a0 a1_0 a1_1 = some (r1, r2)) :
  Calls Tryd.prog 53 #[.int .i64 a0, .agg #[.string a1_0, .string a1_1]] w fun e w' => e = .returned (.tuple #[.string r1, .bool r2]) ∧ Below w.heap.size w w' := by
 have hu70 := Tryd.underlying70
 have HB := am (Below.refl w.heap.size w)
 have HGL := am hgl
 clear hgl
 have H : ((impl_in.f a0 0 59).bind fun t257 => (if t257 = true then ((impl_IsValidRecord.f k a1_0 a1_1).bind fun t258 => (impl_EncodeRecord.j0 k a0 (!t258) a1_0 a1_1)) else (impl_EncodeRecord.j0 k a0 true a1_0 a1_1))) = some (r1, r2) := h
 clear h
 have HC3 := am H
 clear H
 go_enter Tryd.func53, Tryd.ntmps53
 go_upto_region 1 with (first | ((with_reducible refine gate_dst (N := 3) rfl ?_); refine box_event ?hg (N := 3) ?hd (cs := #[.string a1_0, .string a1_1]) (t := 70) ?hr ?_; (case hd => rfl); (case hg => rfl); (case hr => first | (go_simp; done) | (go_simp; rfl)); intro gb256 hg w4 hbox hb; have n0_ := am (below_step zq0 hb); have n1_ := am (hbox); have n2_ := am ((zq4 : w.heap.size ≤ gb256)); have n3_ := am ((zq4 : w.heap.size ≤ gb256)); clear HB; have HB := n0_; have BK256 := n1_; have GW256 := n2_; have GE256 := n3_; clear n0_ n1_ n2_ n3_; clear hb hbox hg))
 (try simp only [Act.put, List.setIfInBounds_toArray, List.set_cons_zero, List.set_cons_succ])
 go_cut [15] (fun v15 wc => ∃ (kq : Nat) (x15_2 : Bool), v15 = .bool x15_2 ∧ Aside0 (impl_EncodeRecord.j0 kq a0 x15_2 a1_0 a1_1 = some (r1, r2)) ∧ Aside0 (kq ≤ k) ∧ Aside0 (wc.heap[gb256]? = some (.cells #[.string a1_0, .string a1_1] 70 (0, 0))) ∧ Aside0 (Below w.heap.size w wc))
 case first =>
  have H := HC3.out
  clear HC3
  replace H := bem H
  obtain ⟨t257, A50, H⟩ := H
  replace H : (if t257 = true then ((impl_IsValidRecord.f k a1_0 a1_1).bind fun t258 => (impl_EncodeRecord.j0 k a0 (!t258) a1_0 a1_1)) else (impl_EncodeRecord.j0 k a0 true a1_0 a1_1)) = some (r1, r2) := H
  have A5 := am A50
  clear A50
  by_cases c6 : t257 = true
  ·subst c6
   have H1 : ((impl_IsValidRecord.f k a1_0 a1_1).bind fun t258 => (impl_EncodeRecord.j0 k a0 (!t258) a1_0 a1_1)) = some (r1, r2) := by rw [if_pos rfl] at H; exact H
   clear H
   have H := H1
   clear H1
   replace H := bem H
   obtain ⟨t258, A70, H⟩ := H
   replace H : (impl_EncodeRecord.j0 k a0 (!t258) a1_0 a1_1) = some (r1, r2) := H
   have A7 := am A70
   clear A70
   have H' := am H
   clear H
   go_wp2_with (first | ((with_reducible refine gate_callee (f := 25) rfl ?_); refine goesL_ (some 9) rfl rfl Tryd.func25 zq21 rfl #[.int .i64 a0, .int .i64 0, .int .i64 59] rfl zq1 ?_; (with_reducible refine (impl_in.calls a0 0 59 true _ A5.out).mono ?_); rintro e w' ⟨rfl, ⟨nd, rfl⟩⟩; refine ⟨_, rfl, ?_⟩; have hcz8_0 : w4.cell? ⟨gb256, 0, none⟩ = some (.string a1_0) := (blk_cell BK256.out 0).trans rfl; have hcz8_1 : w4.cell? ⟨gb256, 1, none⟩ = some (.string a1_1) := (blk_cell BK256.out 1).trans rfl; have hfz8_0 := blk_frozen BK256.out 0; have hfz8_1 := blk_frozen BK256.out 1) | (go_at_call 60; (with_reducible refine (impl_IsValidRecord.calls k a1_0 a1_1 t258 _ A7.out).mono ?_); rintro e w9 ⟨rfl, hb⟩; have n0_ := am (blk_below (g := gb256) (o := .cells #[.string a1_0, .string a1_1] 70 (0, 0)) zq76 hb); have n1_ := am (below_step zq75 hb); clear BK256; clear HB; have BK256 := n0_; have HB := n1_; clear n0_ n1_; (try clear hb); (try clear hb2); (try clear hk); (try clear hi)))
   go_meet
   case rel => exact ⟨_, (!t258), zq5, H', ⟨zq130⟩, ⟨zq76⟩, ⟨zq75⟩⟩
  ·replace c6 := Bool.eq_false_iff.mpr c6
   subst c6
   have H1 : (impl_EncodeRecord.j0 k a0 true a1_0 a1_1) = some (r1, r2) := by rw [if_neg (show ¬ (false = true) by decide)] at H; exact H
   clear H
   have H := H1
   clear H1
   have H' := am H
   clear H
   go_wp2_with (first | ((with_reducible refine gate_callee (f := 25) rfl ?_); refine goesL_ (some 9) rfl rfl Tryd.func25 zq21 rfl #[.int .i64 a0, .int .i64 0, .int .i64 59] rfl zq1 ?_; (with_reducible refine (impl_in.calls a0 0 59 false _ A5.out).mono ?_); rintro e w' ⟨rfl, ⟨nd, rfl⟩⟩; refine ⟨_, rfl, ?_⟩))
   go_meet
   case rel => exact ⟨_, (true), zq5, H', ⟨zq130⟩, ⟨zq76⟩, ⟨zq75⟩⟩
 case rest =>
  clear HC3
  try clear c2
  try clear p2
  try clear c5
  try clear c6
  try clear hcz8_0
  try clear hcz8_1
  try clear hfz8_0
  try clear hfz8_1
  obtain ⟨kq, x15_2, rfl, HA, HJ2, BK256, HB⟩ := hcut
  cases kq with
  | zero => exact absurd HA.out (by simp [impl_EncodeRecord.j0])
  | succ kj2 =>
   have H := HA.out
   clear HA
   simp only [impl_EncodeRecord.j0] at H
   by_cases c10 : x15_2 = true
   ·subst c10
    have H1 : (some ((⟨#[]⟩ : ByteArray), false)) = some (r1, r2) := by rw [if_pos rfl] at H; exact H
    clear H
    have H := H1
    clear H1
    simp only [Option.some.injEq, Prod.mk.injEq] at H
    obtain ⟨rfl, rfl⟩ := H
    go_wp2
    go_ret2
    exact ⟨zq2, zq75⟩
   ·replace c10 := Bool.eq_false_iff.mpr c10
    subst c10
    have H1 : ((strconv_Itoa.f a0).bind fun t259 => (if t259.size + 1 ≤ 9223372036854775807 then (if (t259.size + 1) + a1_0.size ≤ 9223372036854775807 then (if ((t259.size + 1) + a1_0.size) + 1 ≤ 9223372036854775807 then (if (((t259.size + 1) + a1_0.size) + 1) + a1_1.size ≤ 9223372036854775807 then ((impl_AppendChecksum.f kj2 ((((t259 ++ (⟨#[32]⟩ : ByteArray)) ++ a1_0) ++ (⟨#[64]⟩ : ByteArray)) ++ a1_1)).bind fun bt260 => (if bt260.1.size + 1 ≤ 9223372036854775807 then (some (bt260.1 ++ (⟨#[10]⟩ : ByteArray), true)) else (none))) else (none)) else (none)) else (none)) else (none))) = some (r1, r2) := by rw [if_neg (show ¬ (false = true) by decide)] at H; exact H
    clear H
    have H := H1
    clear H1
    replace H := bem H
    obtain ⟨t259, A110, H⟩ := H
    replace H : (if t259.size + 1 ≤ 9223372036854775807 then (if (t259.size + 1) + a1_0.size ≤ 9223372036854775807 then (if ((t259.size + 1) + a1_0.size) + 1 ≤ 9223372036854775807 then (if (((t259.size + 1) + a1_0.size) + 1) + a1_1.size ≤ 9223372036854775807 then ((impl_AppendChecksum.f kj2 ((((t259 ++ (⟨#[32]⟩ : ByteArray)) ++ a1_0) ++ (⟨#[64]⟩ : ByteArray)) ++ a1_1)).bind fun bt260 => (if bt260.1.size + 1 ≤ 9223372036854775807 then (some (bt260.1 ++ (⟨#[10]⟩ : ByteArray), true)) else (none))) else (none)) else (none)) else (none)) else (none)) = some (r1, r2) := H
    have A11 := am A110
    clear A110
    by_cases c12 : t259.size + 1 ≤ 9223372036854775807
    ·rw [if_pos c12] at H
     have c12b0 := eq_true c12
     have c12b1 : decide (t259.size + 1 ≤ 9223372036854775807) = true := decide_eq_true c12
     try have c12b2 : (9223372036854775807 < t259.size + 1) = False := eq_false (Nat.not_lt.2 c12)
     by_cases c13 : (t259.size + 1) + a1_0.size ≤ 9223372036854775807
     ·rw [if_pos c13] at H
      have c13b0 := eq_true c13
      have c13b1 : decide ((t259.size + 1) + a1_0.size ≤ 9223372036854775807) = true := decide_eq_true c13
      try have c13b2 : (9223372036854775807 < (t259.size + 1) + a1_0.size) = False := eq_false (Nat.not_lt.2 c13)
      by_cases c14 : ((t259.size + 1) + a1_0.size) + 1 ≤ 9223372036854775807
      ·rw [if_pos c14] at H
       have c14b0 := eq_true c14
       have c14b1 : decide (((t259.size + 1) + a1_0.size) + 1 ≤ 9223372036854775807) = true := decide_eq_true c14
       try have c14b2 : (9223372036854775807 < ((t259.size + 1) + a1_0.size) + 1) = False := eq_false (Nat.not_lt.2 c14)
       by_cases c15 : (((t259.size + 1) + a1_0.size) + 1) + a1_1.size ≤ 9223372036854775807
       ·rw [if_pos c15] at H
        have c15b0 := eq_true c15
        have c15b1 : decide ((((t259.size + 1) + a1_0.size) + 1) + a1_1.size ≤ 9223372036854775807) = true := decide_eq_true c15
        try have c15b2 : (9223372036854775807 < (((t259.size + 1) + a1_0.size) + 1) + a1_1.size) = False := eq_false (Nat.not_lt.2 c15)
        replace H := bem H
        obtain ⟨⟨t260, t261⟩, A160, H⟩ := H
        replace H : (if t260.size + 1 ≤ 9223372036854775807 then (some (t260 ++ (⟨#[10]⟩ : ByteArray), true)) else (none)) = some (r1, r2) := H
        have A16 := am A160
        clear A160
        by_cases c17 : t260.size + 1 ≤ 9223372036854775807
        ·rw [if_pos c17] at H
         have c17b0 := eq_true c17
         have c17b1 : decide (t260.size + 1 ≤ 9223372036854775807) = true := decide_eq_true c17
         try have c17b2 : (9223372036854775807 < t260.size + 1) = False := eq_false (Nat.not_lt.2 c17)
         simp only [Option.some.injEq, Prod.mk.injEq] at H
         obtain ⟨rfl, rfl⟩ := H
         try go_wp2
         have n0_ := am (blk_drew BK256.out)
         have n1_ := am (below_drew1 HB.out)
         clear BK256
         clear HB
         have BK256 := n0_
         have HB := n1_
         clear n0_ n1_
         refine start_ (n := 16) (S := fun w' => w'.cell? ⟨gb256, 0, none⟩ = some (.string a1_0) ∧ w'.cell? ⟨gb256, 1, none⟩ = some (.string a1_1)) (ds := []) #[false, false, false, false, false, false, false, false, false, false, false, false, false, false, false, false] zq21 rfl rfl ⟨(blk_cell BK256.out 0).trans rfl, (blk_cell BK256.out 1).trans rfl⟩ (fun hHeld => ?_); refine with_tabW impl_EncodeRecord.tab3 impl_EncodeRecord.bits3 (fun HT_ HW_ => ?_)
         generalize wc.drew = w18 at BK256 HB hHeld ⊢
         refine pure_ (i := 0) (N := some 17) (v := ?_) (a' := ?_) #[true, false, false, false, false, false, false, false, false, false, false, false, false, false, false, false] rfl rfl (any_of HT_.out zq21) (fun _ _ _ h => h) (Or.inl ⟨by rfl, ?_⟩) ?_ ?_
         rotate_left
         ·intro w'
          go_simp
          with_reducible rfl
         rotate_left
         ·simp only [Act.put, List.setIfInBounds_toArray, List.set_cons_zero, List.set_cons_succ, i64_w, i32_w]
          rfl
         refine pure_ (i := 3) (N := some 20) (v := ?_) (a' := ?_) #[true, false, false, true, false, false, false, false, false, false, false, false, false, false, false, false] rfl rfl (any_of HT_.out zq21) (fun _ _ _ h => h) (Or.inl ⟨by rfl, ?_⟩) ?_ ?_
         rotate_left
         ·intro w'
          go_simp
          with_reducible rfl
         rotate_left
         ·simp only [Act.put, List.setIfInBounds_toArray, List.set_cons_zero, List.set_cons_succ, i64_w, i32_w]
          rfl
         refine pure_ (i := 7) (N := some 24) (v := ?_) (a' := ?_) #[true, false, false, true, false, false, false, true, false, false, false, false, false, false, false, false] rfl rfl (any_of HT_.out zq21) (fun _ _ _ h => h) (Or.inl ⟨by rfl, ?_⟩) ?_ ?_
         rotate_left
         ·intro w'
          go_simp
          with_reducible rfl
         rotate_left
         ·simp only [Act.put, List.setIfInBounds_toArray, List.set_cons_zero, List.set_cons_succ, i64_w, i32_w]
          rfl
         refine take_ (i := 4) (N := some 21) (v := ?_) (a' := ?_) #[true, false, false, true, true, false, false, true, false, false, false, false, false, false, false, false] rfl rfl (take_ofW HT_.out HW_.out zq21) (fun _ _ _ h => h) (Or.inl ⟨by rfl, ?_⟩) hHeld ?_ ?_
         rotate_left
         ·rintro w' ⟨s0, s1⟩
          go_simp
          with_reducible rfl
         rotate_left
         ·simp only [Act.put, List.setIfInBounds_toArray, List.set_cons_zero, List.set_cons_succ, i64_w, i32_w]
          rfl
         refine take_ (i := 8) (N := some 25) (v := ?_) (a' := ?_) #[true, false, false, true, true, false, false, true, true, false, false, false, false, false, false, false] rfl rfl (take_ofW HT_.out HW_.out zq21) (fun _ _ _ h => h) (Or.inl ⟨by rfl, ?_⟩) hHeld ?_ ?_
         rotate_left
         ·rintro w' ⟨s0, s1⟩
          go_simp
          with_reducible rfl
         rotate_left
         ·simp only [Act.put, List.setIfInBounds_toArray, List.set_cons_zero, List.set_cons_succ, i64_w, i32_w]
          rfl
         refine one_ (i := 1) (N := some 18) #[true, true, false, true, true, false, false, true, true, false, false, false, false, false, false, false] rfl rfl (one_of HT_.out zq21) zq146 (fun K hK => ?_)
         refine goes_ Tryd.func62 zq21 rfl #[.int .i64 a0] (by rfl) rfl rfl zq1 ?_
         with_reducible refine (strconv_Itoa.calls a0 t259 _ ?side1 A11.out).mono ?_
         (case side1 => exact Glob.below HGL.out zq75)
         rintro e w19 ⟨rfl, hb⟩
         refine ⟨_, rfl, ?_⟩
         have n0_ := am (blk_below (g := gb256) (o := .cells #[.string a1_0, .string a1_1] 70 (0, 0)) zq76 hb)
         have n1_ := am (below_step zq75 hb)
         clear BK256
         clear HB
         have BK256 := n0_
         have HB := n1_
         clear n0_ n1_
         (try clear hb)
         (try clear hb2)
         (try clear hk)
         (try clear hi)
         refine hK.out _ _ ⟨(blk_cell BK256.out 0).trans rfl, (blk_cell BK256.out 1).trans rfl⟩ (fun hHeld => ?_)
         clear hK K
         refine norm_ (a' := ?_) ?_ ?_
         rotate_left
         ·show Act.put _ (some 18) _ = _
          simp only [Act.put, List.setIfInBounds_toArray, List.set_cons_zero, List.set_cons_succ, i64_w, i32_w]
          rfl
         refine pure_ (i := 2) (N := some 19) (v := ?_) (a' := ?_) #[true, true, true, true, true, false, false, true, true, false, false, false, false, false, false, false] rfl rfl (any_of HT_.out zq21) (fun _ _ _ h => h) (Or.inl ⟨by rfl, ?_⟩) ?_ ?_
         rotate_left
         ·intro w'
          go_simp
          with_reducible rfl
         rotate_left
         ·simp only [Act.put, List.setIfInBounds_toArray, List.set_cons_zero, List.set_cons_succ, i64_w, i32_w]
          rfl
         refine pure_ (i := 5) (N := some 22) (v := ?_) (a' := ?_) #[true, true, true, true, true, true, false, true, true, false, false, false, false, false, false, false] rfl rfl (any_of HT_.out zq21) (fun _ _ _ h => h) (Or.inl ⟨by rfl, ?_⟩) ?_ ?_
         rotate_left
         ·intro w'
          go_simp
          with_reducible rfl
         rotate_left
         ·simp only [Act.put, List.setIfInBounds_toArray, List.set_cons_zero, List.set_cons_succ, i64_w, i32_w]
          rfl
         refine pure_ (i := 6) (N := some 23) (v := ?_) (a' := ?_) #[true, true, true, true, true, true, true, true, true, false, false, false, false, false, false, false] rfl rfl (any_of HT_.out zq21) (fun _ _ _ h => h) (Or.inl ⟨by rfl, ?_⟩) ?_ ?_
         rotate_left
         ·intro w'
          go_simp
          with_reducible rfl
         rotate_left
         ·simp only [Act.put, List.setIfInBounds_toArray, List.set_cons_zero, List.set_cons_succ, i64_w, i32_w]
          rfl
         refine pure_ (i := 9) (N := some 26) (v := ?_) (a' := ?_) #[true, true, true, true, true, true, true, true, true, true, false, false, false, false, false, false] rfl rfl (any_of HT_.out zq21) (fun _ _ _ h => h) (Or.inl ⟨by rfl, ?_⟩) ?_ ?_
         rotate_left
         ·intro w'
          go_simp
          with_reducible rfl
         rotate_left
         ·simp only [Act.put, List.setIfInBounds_toArray, List.set_cons_zero, List.set_cons_succ, i64_w, i32_w]
          rfl
         refine one_ (i := 10) (N := some 27) #[true, true, true, true, true, true, true, true, true, true, true, false, false, false, false, false] rfl rfl (one_of HT_.out zq21) zq146 (fun K hK => ?_)
         refine goes_ Tryd.func61 zq21 rfl #[.string ((((t259 ++ (⟨#[32]⟩ : ByteArray)) ++ a1_0) ++ (⟨#[64]⟩ : ByteArray)) ++ a1_1)] (by rfl) rfl rfl zq1 ?_
         with_reducible refine (impl_AppendChecksum.calls kj2 ((((t259 ++ (⟨#[32]⟩ : ByteArray)) ++ a1_0) ++ (⟨#[64]⟩ : ByteArray)) ++ a1_1) t260 t261 _ ?side1 A16.out).mono ?_
         (case side1 => exact Glob.below HGL.out zq75)
         rintro e w20 ⟨rfl, hb⟩
         refine ⟨_, rfl, ?_⟩
         have n0_ := am (blk_below (g := gb256) (o := .cells #[.string a1_0, .string a1_1] 70 (0, 0)) zq76 hb)
         have n1_ := am (below_step zq75 hb)
         clear BK256
         clear HB
         have BK256 := n0_
         have HB := n1_
         clear n0_ n1_
         (try clear hb)
         (try clear hb2)
         (try clear hk)
         (try clear hi)
         refine hK.out _ _ ⟨(blk_cell BK256.out 0).trans rfl, (blk_cell BK256.out 1).trans rfl⟩ (fun hHeld => ?_)
         clear hK K
         refine norm_ (a' := ?_) ?_ ?_
         rotate_left
         ·show Act.put _ (some 27) _ = _
          simp only [Act.put, List.setIfInBounds_toArray, List.set_cons_zero, List.set_cons_succ, i64_w, i32_w]
          rfl
         refine pure_ (i := 11) (N := some 16) (v := ?_) (a' := ?_) #[true, true, true, true, true, true, true, true, true, true, true, true, false, false, false, false] rfl rfl (any_of HT_.out zq21) (fun _ _ _ h => h) (Or.inl ⟨by rfl, ?_⟩) ?_ ?_
         rotate_left
         ·intro w'
          go_simp
          with_reducible rfl
         rotate_left
         ·simp only [Act.put, List.setIfInBounds_toArray, List.set_cons_zero, List.set_cons_succ, i64_w, i32_w]
          rfl
         refine pure_ (i := 12) (N := some 28) (v := ?_) (a' := ?_) #[true, true, true, true, true, true, true, true, true, true, true, true, true, false, false, false] rfl rfl (any_of HT_.out zq21) (fun _ _ _ h => h) (Or.inl ⟨by rfl, ?_⟩) ?_ ?_
         rotate_left
         ·intro w'
          go_simp
          with_reducible rfl
         rotate_left
         ·simp only [Act.put, List.setIfInBounds_toArray, List.set_cons_zero, List.set_cons_succ, i64_w, i32_w]
          rfl
         refine pure_ (i := 13) (N := some 29) (v := ?_) (a' := ?_) #[true, true, true, true, true, true, true, true, true, true, true, true, true, true, false, false] rfl rfl (any_of HT_.out zq21) (fun _ _ _ h => h) (Or.inl ⟨by rfl, ?_⟩) ?_ ?_
         rotate_left
         ·intro w'
          go_simp
          with_reducible rfl
         rotate_left
         ·simp only [Act.put, List.setIfInBounds_toArray, List.set_cons_zero, List.set_cons_succ, i64_w, i32_w]
          rfl
         refine pure_ (i := 14) (N := some 6) (v := ?_) (a' := ?_) #[true, true, true, true, true, true, true, true, true, true, true, true, true, true, true, false] rfl rfl (any_of HT_.out zq21) (fun _ _ _ h => h) (Or.inl ⟨by rfl, ?_⟩) ?_ ?_
         rotate_left
         ·intro w'
          go_simp
          with_reducible rfl
         rotate_left
         ·simp only [Act.put, List.setIfInBounds_toArray, List.set_cons_zero, List.set_cons_succ, i64_w, i32_w]
          rfl
         refine pure_ (i := 15) (N := some 7) (v := ?_) (a' := ?_) #[true, true, true, true, true, true, true, true, true, true, true, true, true, true, true, true] rfl rfl (any_of HT_.out zq21) (fun _ _ _ h => h) (Or.inl ⟨by rfl, ?_⟩) ?_ ?_
         rotate_left
         ·intro w'
          go_simp
          with_reducible rfl
         rotate_left
         ·simp only [Act.put, List.setIfInBounds_toArray, List.set_cons_zero, List.set_cons_succ, i64_w, i32_w]
          rfl
         refine done_ (done_of HT_.out zq21) ?_
         try go_wp2
         go_ret2
         exact ⟨zq2, zq75⟩
        ·rw [if_neg c17] at H
         exact absurd H (by simp)
       ·rw [if_neg c15] at H
        exact absurd H (by simp)
      ·rw [if_neg c14] at H
       exact absurd H (by simp)
     ·rw [if_neg c13] at H
      exact absurd H (by simp)
    ·rw [if_neg c12] at H
     exact absurd H (by simp)
def impl_readRecords.l0 : Nat → ByteArray → List (S70) → Int → Option ((List (S70)) × Int)
 | 0, _, _, _ => none
 | k + 1, x0, x4, x5 => if (x4.length : Int) < 60 then (if 0 ≤ x5 then (if x5 ≤ (x0.size : Int) then ((strings_Cut.f (x0.extract (x5 : Int).toNat x0.size) (⟨#[10]⟩ : ByteArray)).bind fun bt265 => ((strings_Cut.f bt265.1 (⟨#[35]⟩ : ByteArray)).bind fun bt268 => ((strings_Cut.f bt268.1 (⟨#[32]⟩ : ByteArray)).bind fun bt271 => ((strings_Cut.f bt271.2.1 (⟨#[64]⟩ : ByteArray)).bind fun bt274 => ((impl_EncodeRecord.f k (x4.length : Int) bt274.1 bt274.2.1).bind fun bt278 => (if bt265.2.2 = true then (if bt278.2 = true then (if bt265.1.size + 1 ≤ 9223372036854775807 then (if bt278.1.toList = (bt265.1 ++ (⟨#[10]⟩ : ByteArray)).toList then (if x4.length < 4398046511104 then (impl_readRecords.l0 k x0 (x4 ++ [(⟨bt274.1, bt274.2.1⟩ : S70)]) (wrap64 ((wrap64 (x5 + (bt265.1.size : Int))) + 1))) else (none)) else (some (x4, x5))) else (none)) else (some (x4, x5))) else (some (x4, x5)))))))) else (none)) else (none)) else (some (x4, x5))
def impl_readRecords.f (k : Nat) (a0 : ByteArray) : Option ((List (S70)) × Int) := impl_readRecords.l0 k a0 (([] : List (S70))) 0
set_option maxHeartbeats 8000000 in
set_option maxRecDepth 100000 in
theorem impl_readRecords.calls (k : Nat) (a0 : ByteArray) (r1 : List (S70)) (r2 : Int) (w : World) (hgl : Glob w) (h : impl_readRecords.f k a0 = some (r1, r2)) :
  Calls Tryd.prog 38 #[.string a0] w fun e w' => ∃ v0_ : Value, e = .returned (.tuple #[v0_, .int .i64 r2]) ∧ Kd.R k70 70 w' w.heap.size (fun _ => True) v0_ r1 ∧ Below w.heap.size w w' := by
 have hu70 := Tryd.underlying70
 have HB := am (Below.refl w.heap.size w)
 have HGL := am hgl
 clear hgl
 have H : (impl_readRecords.l0 k a0 (([] : List (S70))) 0) = some (r1, r2) := h
 clear h
 obtain ⟨y262, hy262⟩ : ∃ y_ : List (S70), y_ = (([] : List (S70))) := ⟨_, rfl⟩
 replace H : (impl_readRecords.l0 k a0 y262 0) = some (r1, r2) := by first | (rw [hy262]; with_reducible exact H) | (have H2_ := (Option.bind_some _ _).symm.trans H; rw [hy262]; with_reducible exact H2_) | (have H2_ := (Option.bind_some _ _).symm.trans H; with_reducible exact H2_) | with_reducible exact H | (rw [hy262]; exact H) | exact H
 have Ny262 := am hy262
 clear hy262
 have H' := am H
 clear H
 go_enter Tryd.func38, Tryd.ntmps38
 go_wp2_with (first | ((with_reducible refine gate_dst (N := 21) rfl ?_); refine Kd.R_lit k70 _ 70 ?hg (N := 21) ?hd (xs := ([] : List (S70))) (inner := []) (ok := fun _ => True) (okp := fun _ => True) ?hr ?hp (fun _ hk => hk) trivial (Below.refl _ _) (Nat.le_refl _) (by simp) ?_; (case hd => rfl); (case hg => rfl); (case hr => first | (go_simp; done) | (go_simp; rfl)); (case hp => exact (Reps.none _ _)); intro v263 w2 ho3 hb hg_ hnew_; clear hg_ hnew_; (first | rw [← Ny262.out] at ho3 | (simp only [Int.reduceToNat] at ho3; rw [← Ny262.out] at ho3)); have n0_ := am (Kd.R_lower ho3 (below_size zq0)); have n1_ := am (below_step zq0 hb); clear HB; have HO264 := n0_; have HB := n1_; clear n0_ n1_; clear hb ho3))
 go_loopg [4, 5] k (fun kq v4 v5 w' => ∃ (x4_1 : List (S70)) (x5_1 : Int), v5 = .int .i64 x5_1 ∧ Aside0 (impl_readRecords.l0 kq a0 x4_1 x5_1 = some (r1, r2)) ∧ Aside0 (kq ≤ k) ∧ Aside0 (Kd.R k70 70 w' w.heap.size (fun _ => True) v4 x4_1) ∧ Aside0 (Below w.heap.size w w'))
 case atStart => exact ⟨(y262), (0), zq5, H', ⟨Nat.le_refl _⟩, ⟨by (with_reducible repeat (first | apply Kd.R_alloc | apply Kd.R_drewN | apply Kd.R_drew)); exact HO264.out⟩, ⟨zq0⟩⟩
 case round =>
  clear H'
  try clear p2
  try clear c3
  obtain ⟨x4_1, x5_1, rfl, HA, HK1, HO_4, HB⟩ := hrel
  cases gk with
  | zero => exact absurd HA.out (by simp [impl_readRecords.l0])
  | succ k1 =>
   have H := HA.out
   clear HA
   simp only [impl_readRecords.l0] at H
   by_cases c4 : (x4_1.length : Int) < 60
   ·rw [if_pos c4] at H
    have c4b0 : decide ((x4_1.length : Int) < 60) = true := decide_eq_true c4
    have c4b1 : decide (x4_1.length < 60) = true := decide_eq_true (by omega)
    clear c4
    by_cases c5 : 0 ≤ x5_1
    ·rw [if_pos c5] at H
     have c5b0 := eq_true c5
     have c5b1 : decide (0 ≤ x5_1) = true := decide_eq_true c5
     clear c5
     by_cases c6 : x5_1 ≤ (a0.size : Int)
     ·rw [if_pos c6] at H
      have c6b0 := eq_true c6
      have c6b1 : decide (x5_1 ≤ (a0.size : Int)) = true := decide_eq_true c6
      clear c6
      replace H := bem H
      obtain ⟨⟨t265, t266, t267⟩, A70, H⟩ := H
      replace H : ((strings_Cut.f t265 (⟨#[35]⟩ : ByteArray)).bind fun bt268 => ((strings_Cut.f bt268.1 (⟨#[32]⟩ : ByteArray)).bind fun bt271 => ((strings_Cut.f bt271.2.1 (⟨#[64]⟩ : ByteArray)).bind fun bt274 => ((impl_EncodeRecord.f k1 (x4_1.length : Int) bt274.1 bt274.2.1).bind fun bt278 => (if t267 = true then (if bt278.2 = true then (if t265.size + 1 ≤ 9223372036854775807 then (if bt278.1.toList = (t265 ++ (⟨#[10]⟩ : ByteArray)).toList then (if x4_1.length < 4398046511104 then (impl_readRecords.l0 k1 a0 (x4_1 ++ [(⟨bt274.1, bt274.2.1⟩ : S70)]) (wrap64 ((wrap64 (x5_1 + (t265.size : Int))) + 1))) else (none)) else (some (x4_1, x5_1))) else (none)) else (some (x4_1, x5_1))) else (some (x4_1, x5_1))))))) = some (r1, r2) := H
      have A7 := am A70
      clear A70
      replace H := bem H
      obtain ⟨⟨t268, t269, t270⟩, A80, H⟩ := H
      replace H : ((strings_Cut.f t268 (⟨#[32]⟩ : ByteArray)).bind fun bt271 => ((strings_Cut.f bt271.2.1 (⟨#[64]⟩ : ByteArray)).bind fun bt274 => ((impl_EncodeRecord.f k1 (x4_1.length : Int) bt274.1 bt274.2.1).bind fun bt278 => (if t267 = true then (if bt278.2 = true then (if t265.size + 1 ≤ 9223372036854775807 then (if bt278.1.toList = (t265 ++ (⟨#[10]⟩ : ByteArray)).toList then (if x4_1.length < 4398046511104 then (impl_readRecords.l0 k1 a0 (x4_1 ++ [(⟨bt274.1, bt274.2.1⟩ : S70)]) (wrap64 ((wrap64 (x5_1 + (t265.size : Int))) + 1))) else (none)) else (some (x4_1, x5_1))) else (none)) else (some (x4_1, x5_1))) else (some (x4_1, x5_1)))))) = some (r1, r2) := H
      have A8 := am A80
      clear A80
      replace H := bem H
      obtain ⟨⟨t271, t272, t273⟩, A90, H⟩ := H
      replace H : ((strings_Cut.f t272 (⟨#[64]⟩ : ByteArray)).bind fun bt274 => ((impl_EncodeRecord.f k1 (x4_1.length : Int) bt274.1 bt274.2.1).bind fun bt278 => (if t267 = true then (if bt278.2 = true then (if t265.size + 1 ≤ 9223372036854775807 then (if bt278.1.toList = (t265 ++ (⟨#[10]⟩ : ByteArray)).toList then (if x4_1.length < 4398046511104 then (impl_readRecords.l0 k1 a0 (x4_1 ++ [(⟨bt274.1, bt274.2.1⟩ : S70)]) (wrap64 ((wrap64 (x5_1 + (t265.size : Int))) + 1))) else (none)) else (some (x4_1, x5_1))) else (none)) else (some (x4_1, x5_1))) else (some (x4_1, x5_1))))) = some (r1, r2) := H
      have A9 := am A90
      clear A90
      replace H := bem H
      obtain ⟨⟨t274, t275, t276⟩, A100, H⟩ := H
      replace H : ((impl_EncodeRecord.f k1 (x4_1.length : Int) t274 t275).bind fun bt278 => (if t267 = true then (if bt278.2 = true then (if t265.size + 1 ≤ 9223372036854775807 then (if bt278.1.toList = (t265 ++ (⟨#[10]⟩ : ByteArray)).toList then (if x4_1.length < 4398046511104 then (impl_readRecords.l0 k1 a0 (x4_1 ++ [(⟨t274, t275⟩ : S70)]) (wrap64 ((wrap64 (x5_1 + (t265.size : Int))) + 1))) else (none)) else (some (x4_1, x5_1))) else (none)) else (some (x4_1, x5_1))) else (some (x4_1, x5_1)))) = some (r1, r2) := H
      have A10 := am A100
      clear A100
      replace H := bem H
      obtain ⟨⟨t278, t279⟩, A110, H⟩ := H
      replace H : (if t267 = true then (if t279 = true then (if t265.size + 1 ≤ 9223372036854775807 then (if t278.toList = (t265 ++ (⟨#[10]⟩ : ByteArray)).toList then (if x4_1.length < 4398046511104 then (impl_readRecords.l0 k1 a0 (x4_1 ++ [(⟨t274, t275⟩ : S70)]) (wrap64 ((wrap64 (x5_1 + (t265.size : Int))) + 1))) else (none)) else (some (x4_1, x5_1))) else (none)) else (some (x4_1, x5_1))) else (some (x4_1, x5_1))) = some (r1, r2) := H
      have A11 := am A110
      clear A110
      by_cases c12 : t267 = true
      ·subst c12
       have H1 : (if t279 = true then (if t265.size + 1 ≤ 9223372036854775807 then (if t278.toList = (t265 ++ (⟨#[10]⟩ : ByteArray)).toList then (if x4_1.length < 4398046511104 then (impl_readRecords.l0 k1 a0 (x4_1 ++ [(⟨t274, t275⟩ : S70)]) (wrap64 ((wrap64 (x5_1 + (t265.size : Int))) + 1))) else (none)) else (some (x4_1, x5_1))) else (none)) else (some (x4_1, x5_1))) = some (r1, r2) := by rw [if_pos rfl] at H; exact H
       clear H
       have H := H1
       clear H1
       by_cases c13 : t279 = true
       ·subst c13
        have H1 : (if t265.size + 1 ≤ 9223372036854775807 then (if t278.toList = (t265 ++ (⟨#[10]⟩ : ByteArray)).toList then (if x4_1.length < 4398046511104 then (impl_readRecords.l0 k1 a0 (x4_1 ++ [(⟨t274, t275⟩ : S70)]) (wrap64 ((wrap64 (x5_1 + (t265.size : Int))) + 1))) else (none)) else (some (x4_1, x5_1))) else (none)) = some (r1, r2) := by rw [if_pos rfl] at H; exact H
        clear H
        have H := H1
        clear H1
        by_cases c14 : t265.size + 1 ≤ 9223372036854775807
        ·rw [if_pos c14] at H
         have c14b0 := eq_true c14
         have c14b1 : decide (t265.size + 1 ≤ 9223372036854775807) = true := decide_eq_true c14
         try have c14b2 : (9223372036854775807 < t265.size + 1) = False := eq_false (Nat.not_lt.2 c14)
         by_cases c15 : t278.toList = (t265 ++ (⟨#[10]⟩ : ByteArray)).toList
         ·rw [if_pos c15] at H
          have c15b0 : (t278.toList == (t265 ++ (⟨#[10]⟩ : ByteArray)).toList) = true := beq_iff_eq.mpr c15
          have c15b1 : (t278.toList != (t265 ++ (⟨#[10]⟩ : ByteArray)).toList) = false := bne_eq_false_iff_eq.mpr c15
          clear c15
          by_cases c16 : x4_1.length < 4398046511104
          ·rw [if_pos c16] at H
           have LMc16 := am c16
           clear c16
           obtain ⟨y280, hy280⟩ : ∃ y_ : List (S70), y_ = (x4_1 ++ [(⟨t274, t275⟩ : S70)]) := ⟨_, rfl⟩
           replace H : (impl_readRecords.l0 k1 a0 y280 (wrap64 ((wrap64 (x5_1 + (t265.size : Int))) + 1))) = some (r1, r2) := by first | (rw [hy280]; with_reducible exact H) | (have H2_ := (Option.bind_some _ _).symm.trans H; rw [hy280]; with_reducible exact H2_) | (have H2_ := (Option.bind_some _ _).symm.trans H; with_reducible exact H2_) | with_reducible exact H | (rw [hy280]; exact H) | exact H
           have Ny280 := am hy280
           clear hy280
           have H' := am H
           clear H
           obtain ⟨Ao17, co17, eo17⟩ := Kd.R_slice HO_4.out
           subst eo17
           go_wp2_with (first | ((with_reducible refine gate_callee (f := 52) rfl ?_); refine goesL_ (some 29) rfl rfl Tryd.func52 zq21 rfl #[.string (a0.extract (x5_1 : Int).toNat a0.size), .string ⟨#[10]⟩] rfl zq1 ?_; (with_reducible refine (strings_Cut.calls (a0.extract (x5_1 : Int).toNat a0.size) (⟨#[10]⟩ : ByteArray) t265 t266 true _ ?side1 A7.out).mono ?_); (case side1 => exact Glob.below HGL.out zq0); rintro e w18 ⟨rfl, hb⟩; refine ⟨_, rfl, ?_⟩; have n0_ := am (Kd.R_below zq39 hb); have n1_ := am (below_step zq0 hb); clear HO_4; clear HB; have HO_4 := n0_; have HB := n1_; clear n0_ n1_; (try clear hb); (try clear hb2); (try clear hk); (try clear hi)) | ((with_reducible refine gate_callee (f := 52) rfl ?_); refine goesL_ (some 35) rfl rfl Tryd.func52 zq21 rfl #[.string t265, .string ⟨#[35]⟩] rfl zq1 ?_; (with_reducible refine (strings_Cut.calls t265 (⟨#[35]⟩ : ByteArray) t268 t269 t270 _ ?side1 A8.out).mono ?_); (case side1 => exact Glob.below HGL.out zq0); rintro e w19 ⟨rfl, hb⟩; refine ⟨_, rfl, ?_⟩; have n0_ := am (Kd.R_below zq39 hb); have n1_ := am (below_step zq0 hb); clear HO_4; clear HB; have HO_4 := n0_; have HB := n1_; clear n0_ n1_; (try clear hb); (try clear hb2); (try clear hk); (try clear hi)) | ((with_reducible refine gate_callee (f := 52) rfl ?_); refine goesL_ (some 41) rfl rfl Tryd.func52 zq21 rfl #[.string t268, .string ⟨#[32]⟩] rfl zq1 ?_; (with_reducible refine (strings_Cut.calls t268 (⟨#[32]⟩ : ByteArray) t271 t272 t273 _ ?side1 A9.out).mono ?_); (case side1 => exact Glob.below HGL.out zq0); rintro e w20 ⟨rfl, hb⟩; refine ⟨_, rfl, ?_⟩; have n0_ := am (Kd.R_below zq39 hb); have n1_ := am (below_step zq0 hb); clear HO_4; clear HB; have HO_4 := n0_; have HB := n1_; clear n0_ n1_; (try clear hb); (try clear hb2); (try clear hk); (try clear hi)) | ((with_reducible refine gate_callee (f := 52) rfl ?_); refine goesL_ (some 47) rfl rfl Tryd.func52 zq21 rfl #[.string t272, .string ⟨#[64]⟩] rfl zq1 ?_; (with_reducible refine (strings_Cut.calls t272 (⟨#[64]⟩ : ByteArray) t274 t275 t276 _ ?side1 A10.out).mono ?_); (case side1 => exact Glob.below HGL.out zq0); rintro e w21 ⟨rfl, hb⟩; refine ⟨_, rfl, ?_⟩; have n0_ := am (Kd.R_below zq39 hb); have n1_ := am (below_step zq0 hb); clear HO_4; clear HB; have HO_4 := n0_; have HB := n1_; clear n0_ n1_; (try clear hb); (try clear hb2); (try clear hk); (try clear hi)) | ((with_reducible refine gate_dst (N := 18) rfl ?_); refine box_event ?hg (N := 18) ?hd (cs := #[.string ⟨#[]⟩, .string ⟨#[]⟩]) (t := 70) ?hr ?_; (case hd => rfl); (case hg => rfl); (case hr => first | (go_simp; done) | (go_simp; rfl)); intro gb277 hg w22 hbox hb; have n0_ := am (Kd.R_below (Kd.R_elderB zq39 gb277 (Nat.le_of_eq hg.symm)) hb); have n1_ := am (below_step zq0 hb); have n2_ := am (hbox); have n3_ := am ((zq4 : w.heap.size ≤ gb277)); have n4_ := am ((zq4 : w.heap.size ≤ gb277)); clear HO_4; clear HB; have HO_4 := n0_; have HB := n1_; have BK277 := n2_; have GW277 := n3_; have GE277 := n4_; clear n0_ n1_ n2_ n3_ n4_; clear hb hbox hg; have hcz23_0 : w22.cell? ⟨gb277, 0, none⟩ = some (.string ⟨#[]⟩) := (blk_cell BK277.out 0).trans rfl; have hcz23_1 : w22.cell? ⟨gb277, 1, none⟩ = some (.string ⟨#[]⟩) := (blk_cell BK277.out 1).trans rfl; have hfz23_0 := blk_frozen BK277.out 0; have hfz23_1 := blk_frozen BK277.out 1) | ((with_reducible refine gate_callee (f := 53) rfl ?_); refine goesL_ (some 58) rfl rfl Tryd.func53 zq21 rfl #[.int .i64 (x4_1.length : Int), .agg #[.string t274, .string t275]] rfl zq1 ?_; (with_reducible refine (impl_EncodeRecord.calls k1 (x4_1.length : Int) t274 t275 t278 true _ ?side1 A11.out).mono ?_); (case side1 => exact Glob.below HGL.out zq78); rintro e w24 ⟨rfl, hb⟩; refine ⟨_, rfl, ?_⟩; have n0_ := am (Kd.R_below zq82 hb); have n1_ := am (blk_below (g := gb277) (o := .cells #[.string t274, .string t275] 70 (0, 0)) zq81 hb); have n2_ := am (below_step zq78 hb); clear HO_4; clear BK277; clear HB; have HO_4 := n0_; have BK277 := n1_; have HB := n2_; clear n0_ n1_ n2_; (try clear hb); (try clear hb2); (try clear hk); (try clear hi); have hcz25_0 : w24.cell? ⟨gb277, 0, none⟩ = some (.string t274) := (blk_cell BK277.out 0).trans rfl; have hcz25_1 : w24.cell? ⟨gb277, 1, none⟩ = some (.string t275) := (blk_cell BK277.out 1).trans rfl; have hfz25_0 := blk_frozen BK277.out 0; have hfz25_1 := blk_frozen BK277.out 1) | ((with_reducible refine gate_builtin (b := .append) (xs := #[.tmp 73, .tmp 75]) rfl ?_); at_builtin; refine Kd.R_append k70 (w0 := w) w.heap.size rfl (.tmp 73) (.tmp 75) 55 70 (.agg #[(.string ⟨#[]⟩), (.string ⟨#[]⟩)]) 32 rfl Tryd.underlying55 info70 rfl zq146 (by omega) (.slice Ao17 x4_1.length co17) x4_1 (⟨t274, t275⟩ : S70) [.string t274, .string t275] (fun k_ => k_ ≠ gb277) (fun _ => False) rfl rfl ?aP (fun _ hk => hk.elim) ?aF ?aO ?aB ?aS ?aL ?_; (case aP => exact k70_mkM _ _ _ (⟨t274, t275⟩ : S70)); (case aB => exact zq78); (case aF => exact (fun k_ hk => Kd.freshB (g := gb277) (o := .cells #[.string t274, .string t275] 70 (0, 0)) zq150 k_ hk)); (case aO => exact (by (with_reducible repeat (first | apply Kd.R_alloc | apply Kd.R_drewN | apply Kd.R_drew)); exact Kd.R_mono HO_4.out (fun _ hk => hk.2))); (case aS => exact (below_size zq78)); (case aL => have := LMc16.out; omega); intro v281 w26 ho hb hg hat; rw [← Ny280.out] at ho; have n0_ := am (blk_grown (g := gb277) (o := .cells #[.string t274, .string t275] 70 (0, 0)) zq150 hg (Kd.R_away HO_4.out (fun _ hk => hk.2))); have n1_ := am (hb); have n2_ := am (ho); clear BK277; clear HB; clear HO_4; have BK277 := n0_; have HB := n1_; have HO282 := n2_; clear n0_ n1_ n2_; clear ho hb hg hat))
           go_roundg k1
           case measure => have := HK1.out; omega
           case rel => exact ⟨(y280), (wrap64 ((wrap64 (x5_1 + (t265.size : Int))) + 1)), zq5, H', ⟨zq129⟩, ⟨by (with_reducible repeat (first | apply Kd.R_alloc | apply Kd.R_drewN | apply Kd.R_drew)); exact Kd.R_mono HO282.out (fun _ hk => trivial)⟩, ⟨zq78⟩⟩
          ·rw [if_neg c16] at H
           exact absurd H (by simp)
         ·rw [if_neg c15] at H
          have c15b0 : (t278.toList == (t265 ++ (⟨#[10]⟩ : ByteArray)).toList) = false := beq_eq_false_iff_ne.mpr c15
          have c15b1 : (t278.toList != (t265 ++ (⟨#[10]⟩ : ByteArray)).toList) = true := bne_iff_ne.mpr c15
          simp only [Option.some.injEq, Prod.mk.injEq] at H
          obtain ⟨rfl, rfl⟩ := H
          obtain ⟨Ao27, co27, eo27⟩ := Kd.R_slice HO_4.out
          subst eo27
          go_wp2_with (first | ((with_reducible refine gate_callee (f := 52) rfl ?_); refine goesL_ (some 29) rfl rfl Tryd.func52 zq21 rfl #[.string (a0.extract (x5_1 : Int).toNat a0.size), .string ⟨#[10]⟩] rfl zq1 ?_; (with_reducible refine (strings_Cut.calls (a0.extract (x5_1 : Int).toNat a0.size) (⟨#[10]⟩ : ByteArray) t265 t266 true _ ?side1 A7.out).mono ?_); (case side1 => exact Glob.below HGL.out zq0); rintro e w28 ⟨rfl, hb⟩; refine ⟨_, rfl, ?_⟩; have n0_ := am (Kd.R_below zq39 hb); have n1_ := am (below_step zq0 hb); clear HO_4; clear HB; have HO_4 := n0_; have HB := n1_; clear n0_ n1_; (try clear hb); (try clear hb2); (try clear hk); (try clear hi)) | ((with_reducible refine gate_callee (f := 52) rfl ?_); refine goesL_ (some 35) rfl rfl Tryd.func52 zq21 rfl #[.string t265, .string ⟨#[35]⟩] rfl zq1 ?_; (with_reducible refine (strings_Cut.calls t265 (⟨#[35]⟩ : ByteArray) t268 t269 t270 _ ?side1 A8.out).mono ?_); (case side1 => exact Glob.below HGL.out zq0); rintro e w29 ⟨rfl, hb⟩; refine ⟨_, rfl, ?_⟩; have n0_ := am (Kd.R_below zq39 hb); have n1_ := am (below_step zq0 hb); clear HO_4; clear HB; have HO_4 := n0_; have HB := n1_; clear n0_ n1_; (try clear hb); (try clear hb2); (try clear hk); (try clear hi)) | ((with_reducible refine gate_callee (f := 52) rfl ?_); refine goesL_ (some 41) rfl rfl Tryd.func52 zq21 rfl #[.string t268, .string ⟨#[32]⟩] rfl zq1 ?_; (with_reducible refine (strings_Cut.calls t268 (⟨#[32]⟩ : ByteArray) t271 t272 t273 _ ?side1 A9.out).mono ?_); (case side1 => exact Glob.below HGL.out zq0); rintro e w30 ⟨rfl, hb⟩; refine ⟨_, rfl, ?_⟩; have n0_ := am (Kd.R_below zq39 hb); have n1_ := am (below_step zq0 hb); clear HO_4; clear HB; have HO_4 := n0_; have HB := n1_; clear n0_ n1_; (try clear hb); (try clear hb2); (try clear hk); (try clear hi)) | ((with_reducible refine gate_callee (f := 52) rfl ?_); refine goesL_ (some 47) rfl rfl Tryd.func52 zq21 rfl #[.string t272, .string ⟨#[64]⟩] rfl zq1 ?_; (with_reducible refine (strings_Cut.calls t272 (⟨#[64]⟩ : ByteArray) t274 t275 t276 _ ?side1 A10.out).mono ?_); (case side1 => exact Glob.below HGL.out zq0); rintro e w31 ⟨rfl, hb⟩; refine ⟨_, rfl, ?_⟩; have n0_ := am (Kd.R_below zq39 hb); have n1_ := am (below_step zq0 hb); clear HO_4; clear HB; have HO_4 := n0_; have HB := n1_; clear n0_ n1_; (try clear hb); (try clear hb2); (try clear hk); (try clear hi)) | ((with_reducible refine gate_dst (N := 18) rfl ?_); refine box_event ?hg (N := 18) ?hd (cs := #[.string ⟨#[]⟩, .string ⟨#[]⟩]) (t := 70) ?hr ?_; (case hd => rfl); (case hg => rfl); (case hr => first | (go_simp; done) | (go_simp; rfl)); intro gb277 hg w32 hbox hb; have n0_ := am (Kd.R_below (Kd.R_elderB zq39 gb277 (Nat.le_of_eq hg.symm)) hb); have n1_ := am (below_step zq0 hb); have n2_ := am (hbox); have n3_ := am ((zq4 : w.heap.size ≤ gb277)); have n4_ := am ((zq4 : w.heap.size ≤ gb277)); clear HO_4; clear HB; have HO_4 := n0_; have HB := n1_; have BK277 := n2_; have GW277 := n3_; have GE277 := n4_; clear n0_ n1_ n2_ n3_ n4_; clear hb hbox hg; have hcz33_0 : w32.cell? ⟨gb277, 0, none⟩ = some (.string ⟨#[]⟩) := (blk_cell BK277.out 0).trans rfl; have hcz33_1 : w32.cell? ⟨gb277, 1, none⟩ = some (.string ⟨#[]⟩) := (blk_cell BK277.out 1).trans rfl; have hfz33_0 := blk_frozen BK277.out 0; have hfz33_1 := blk_frozen BK277.out 1) | ((with_reducible refine gate_callee (f := 53) rfl ?_); refine goesL_ (some 58) rfl rfl Tryd.func53 zq21 rfl #[.int .i64 (x4_1.length : Int), .agg #[.string t274, .string t275]] rfl zq1 ?_; (with_reducible refine (impl_EncodeRecord.calls k1 (x4_1.length : Int) t274 t275 t278 true _ ?side1 A11.out).mono ?_); (case side1 => exact Glob.below HGL.out zq78); rintro e w34 ⟨rfl, hb⟩; refine ⟨_, rfl, ?_⟩; have n0_ := am (Kd.R_below zq82 hb); have n1_ := am (blk_below (g := gb277) (o := .cells #[.string t274, .string t275] 70 (0, 0)) zq81 hb); have n2_ := am (below_step zq78 hb); clear HO_4; clear BK277; clear HB; have HO_4 := n0_; have BK277 := n1_; have HB := n2_; clear n0_ n1_ n2_; (try clear hb); (try clear hb2); (try clear hk); (try clear hi)))
          go_ret2
          exact ⟨_, zq2, zq85, zq78⟩
        ·rw [if_neg c14] at H
         exact absurd H (by simp)
       ·replace c13 := Bool.eq_false_iff.mpr c13
        subst c13
        have H1 : (some (x4_1, x5_1)) = some (r1, r2) := by rw [if_neg (show ¬ (false = true) by decide)] at H; exact H
        clear H
        have H := H1
        clear H1
        simp only [Option.some.injEq, Prod.mk.injEq] at H
        obtain ⟨rfl, rfl⟩ := H
        obtain ⟨Ao35, co35, eo35⟩ := Kd.R_slice HO_4.out
        subst eo35
        go_wp2_with (first | ((with_reducible refine gate_callee (f := 52) rfl ?_); refine goesL_ (some 29) rfl rfl Tryd.func52 zq21 rfl #[.string (a0.extract (x5_1 : Int).toNat a0.size), .string ⟨#[10]⟩] rfl zq1 ?_; (with_reducible refine (strings_Cut.calls (a0.extract (x5_1 : Int).toNat a0.size) (⟨#[10]⟩ : ByteArray) t265 t266 true _ ?side1 A7.out).mono ?_); (case side1 => exact Glob.below HGL.out zq0); rintro e w36 ⟨rfl, hb⟩; refine ⟨_, rfl, ?_⟩; have n0_ := am (Kd.R_below zq39 hb); have n1_ := am (below_step zq0 hb); clear HO_4; clear HB; have HO_4 := n0_; have HB := n1_; clear n0_ n1_; (try clear hb); (try clear hb2); (try clear hk); (try clear hi)) | ((with_reducible refine gate_callee (f := 52) rfl ?_); refine goesL_ (some 35) rfl rfl Tryd.func52 zq21 rfl #[.string t265, .string ⟨#[35]⟩] rfl zq1 ?_; (with_reducible refine (strings_Cut.calls t265 (⟨#[35]⟩ : ByteArray) t268 t269 t270 _ ?side1 A8.out).mono ?_); (case side1 => exact Glob.below HGL.out zq0); rintro e w37 ⟨rfl, hb⟩; refine ⟨_, rfl, ?_⟩; have n0_ := am (Kd.R_below zq39 hb); have n1_ := am (below_step zq0 hb); clear HO_4; clear HB; have HO_4 := n0_; have HB := n1_; clear n0_ n1_; (try clear hb); (try clear hb2); (try clear hk); (try clear hi)) | ((with_reducible refine gate_callee (f := 52) rfl ?_); refine goesL_ (some 41) rfl rfl Tryd.func52 zq21 rfl #[.string t268, .string ⟨#[32]⟩] rfl zq1 ?_; (with_reducible refine (strings_Cut.calls t268 (⟨#[32]⟩ : ByteArray) t271 t272 t273 _ ?side1 A9.out).mono ?_); (case side1 => exact Glob.below HGL.out zq0); rintro e w38 ⟨rfl, hb⟩; refine ⟨_, rfl, ?_⟩; have n0_ := am (Kd.R_below zq39 hb); have n1_ := am (below_step zq0 hb); clear HO_4; clear HB; have HO_4 := n0_; have HB := n1_; clear n0_ n1_; (try clear hb); (try clear hb2); (try clear hk); (try clear hi)) | ((with_reducible refine gate_callee (f := 52) rfl ?_); refine goesL_ (some 47) rfl rfl Tryd.func52 zq21 rfl #[.string t272, .string ⟨#[64]⟩] rfl zq1 ?_; (with_reducible refine (strings_Cut.calls t272 (⟨#[64]⟩ : ByteArray) t274 t275 t276 _ ?side1 A10.out).mono ?_); (case side1 => exact Glob.below HGL.out zq0); rintro e w39 ⟨rfl, hb⟩; refine ⟨_, rfl, ?_⟩; have n0_ := am (Kd.R_below zq39 hb); have n1_ := am (below_step zq0 hb); clear HO_4; clear HB; have HO_4 := n0_; have HB := n1_; clear n0_ n1_; (try clear hb); (try clear hb2); (try clear hk); (try clear hi)) | ((with_reducible refine gate_dst (N := 18) rfl ?_); refine box_event ?hg (N := 18) ?hd (cs := #[.string ⟨#[]⟩, .string ⟨#[]⟩]) (t := 70) ?hr ?_; (case hd => rfl); (case hg => rfl); (case hr => first | (go_simp; done) | (go_simp; rfl)); intro gb277 hg w40 hbox hb; have n0_ := am (Kd.R_below (Kd.R_elderB zq39 gb277 (Nat.le_of_eq hg.symm)) hb); have n1_ := am (below_step zq0 hb); have n2_ := am (hbox); have n3_ := am ((zq4 : w.heap.size ≤ gb277)); have n4_ := am ((zq4 : w.heap.size ≤ gb277)); clear HO_4; clear HB; have HO_4 := n0_; have HB := n1_; have BK277 := n2_; have GW277 := n3_; have GE277 := n4_; clear n0_ n1_ n2_ n3_ n4_; clear hb hbox hg; have hcz41_0 : w40.cell? ⟨gb277, 0, none⟩ = some (.string ⟨#[]⟩) := (blk_cell BK277.out 0).trans rfl; have hcz41_1 : w40.cell? ⟨gb277, 1, none⟩ = some (.string ⟨#[]⟩) := (blk_cell BK277.out 1).trans rfl; have hfz41_0 := blk_frozen BK277.out 0; have hfz41_1 := blk_frozen BK277.out 1) | ((with_reducible refine gate_callee (f := 53) rfl ?_); refine goesL_ (some 58) rfl rfl Tryd.func53 zq21 rfl #[.int .i64 (x4_1.length : Int), .agg #[.string t274, .string t275]] rfl zq1 ?_; (with_reducible refine (impl_EncodeRecord.calls k1 (x4_1.length : Int) t274 t275 t278 false _ ?side1 A11.out).mono ?_); (case side1 => exact Glob.below HGL.out zq78); rintro e w42 ⟨rfl, hb⟩; refine ⟨_, rfl, ?_⟩; have n0_ := am (Kd.R_below zq82 hb); have n1_ := am (blk_below (g := gb277) (o := .cells #[.string t274, .string t275] 70 (0, 0)) zq81 hb); have n2_ := am (below_step zq78 hb); clear HO_4; clear BK277; clear HB; have HO_4 := n0_; have BK277 := n1_; have HB := n2_; clear n0_ n1_ n2_; (try clear hb); (try clear hb2); (try clear hk); (try clear hi)))
        go_ret2
        exact ⟨_, zq2, zq85, zq78⟩
      ·replace c12 := Bool.eq_false_iff.mpr c12
       subst c12
       have H1 : (some (x4_1, x5_1)) = some (r1, r2) := by rw [if_neg (show ¬ (false = true) by decide)] at H; exact H
       clear H
       have H := H1
       clear H1
       simp only [Option.some.injEq, Prod.mk.injEq] at H
       obtain ⟨rfl, rfl⟩ := H
       obtain ⟨Ao43, co43, eo43⟩ := Kd.R_slice HO_4.out
       subst eo43
       go_wp2_with (first | ((with_reducible refine gate_callee (f := 52) rfl ?_); refine goesL_ (some 29) rfl rfl Tryd.func52 zq21 rfl #[.string (a0.extract (x5_1 : Int).toNat a0.size), .string ⟨#[10]⟩] rfl zq1 ?_; (with_reducible refine (strings_Cut.calls (a0.extract (x5_1 : Int).toNat a0.size) (⟨#[10]⟩ : ByteArray) t265 t266 false _ ?side1 A7.out).mono ?_); (case side1 => exact Glob.below HGL.out zq0); rintro e w44 ⟨rfl, hb⟩; refine ⟨_, rfl, ?_⟩; have n0_ := am (Kd.R_below zq39 hb); have n1_ := am (below_step zq0 hb); clear HO_4; clear HB; have HO_4 := n0_; have HB := n1_; clear n0_ n1_; (try clear hb); (try clear hb2); (try clear hk); (try clear hi)) | ((with_reducible refine gate_callee (f := 52) rfl ?_); refine goesL_ (some 35) rfl rfl Tryd.func52 zq21 rfl #[.string t265, .string ⟨#[35]⟩] rfl zq1 ?_; (with_reducible refine (strings_Cut.calls t265 (⟨#[35]⟩ : ByteArray) t268 t269 t270 _ ?side1 A8.out).mono ?_); (case side1 => exact Glob.below HGL.out zq0); rintro e w45 ⟨rfl, hb⟩; refine ⟨_, rfl, ?_⟩; have n0_ := am (Kd.R_below zq39 hb); have n1_ := am (below_step zq0 hb); clear HO_4; clear HB; have HO_4 := n0_; have HB := n1_; clear n0_ n1_; (try clear hb); (try clear hb2); (try clear hk); (try clear hi)) | ((with_reducible refine gate_callee (f := 52) rfl ?_); refine goesL_ (some 41) rfl rfl Tryd.func52 zq21 rfl #[.string t268, .string ⟨#[32]⟩] rfl zq1 ?_; (with_reducible refine (strings_Cut.calls t268 (⟨#[32]⟩ : ByteArray) t271 t272 t273 _ ?side1 A9.out).mono ?_); (case side1 => exact Glob.below HGL.out zq0); rintro e w46 ⟨rfl, hb⟩; refine ⟨_, rfl, ?_⟩; have n0_ := am (Kd.R_below zq39 hb); have n1_ := am (below_step zq0 hb); clear HO_4; clear HB; have HO_4 := n0_; have HB := n1_; clear n0_ n1_; (try clear hb); (try clear hb2); (try clear hk); (try clear hi)) | ((with_reducible refine gate_callee (f := 52) rfl ?_); refine goesL_ (some 47) rfl rfl Tryd.func52 zq21 rfl #[.string t272, .string ⟨#[64]⟩] rfl zq1 ?_; (with_reducible refine (strings_Cut.calls t272 (⟨#[64]⟩ : ByteArray) t274 t275 t276 _ ?side1 A10.out).mono ?_); (case side1 => exact Glob.below HGL.out zq0); rintro e w47 ⟨rfl, hb⟩; refine ⟨_, rfl, ?_⟩; have n0_ := am (Kd.R_below zq39 hb); have n1_ := am (below_step zq0 hb); clear HO_4; clear HB; have HO_4 := n0_; have HB := n1_; clear n0_ n1_; (try clear hb); (try clear hb2); (try clear hk); (try clear hi)) | ((with_reducible refine gate_dst (N := 18) rfl ?_); refine box_event ?hg (N := 18) ?hd (cs := #[.string ⟨#[]⟩, .string ⟨#[]⟩]) (t := 70) ?hr ?_; (case hd => rfl); (case hg => rfl); (case hr => first | (go_simp; done) | (go_simp; rfl)); intro gb277 hg w48 hbox hb; have n0_ := am (Kd.R_below (Kd.R_elderB zq39 gb277 (Nat.le_of_eq hg.symm)) hb); have n1_ := am (below_step zq0 hb); have n2_ := am (hbox); have n3_ := am ((zq4 : w.heap.size ≤ gb277)); have n4_ := am ((zq4 : w.heap.size ≤ gb277)); clear HO_4; clear HB; have HO_4 := n0_; have HB := n1_; have BK277 := n2_; have GW277 := n3_; have GE277 := n4_; clear n0_ n1_ n2_ n3_ n4_; clear hb hbox hg; have hcz49_0 : w48.cell? ⟨gb277, 0, none⟩ = some (.string ⟨#[]⟩) := (blk_cell BK277.out 0).trans rfl; have hcz49_1 : w48.cell? ⟨gb277, 1, none⟩ = some (.string ⟨#[]⟩) := (blk_cell BK277.out 1).trans rfl; have hfz49_0 := blk_frozen BK277.out 0; have hfz49_1 := blk_frozen BK277.out 1) | ((with_reducible refine gate_callee (f := 53) rfl ?_); refine goesL_ (some 58) rfl rfl Tryd.func53 zq21 rfl #[.int .i64 (x4_1.length : Int), .agg #[.string t274, .string t275]] rfl zq1 ?_; (with_reducible refine (impl_EncodeRecord.calls k1 (x4_1.length : Int) t274 t275 t278 t279 _ ?side1 A11.out).mono ?_); (case side1 => exact Glob.below HGL.out zq78); rintro e w50 ⟨rfl, hb⟩; refine ⟨_, rfl, ?_⟩; have n0_ := am (Kd.R_below zq82 hb); have n1_ := am (blk_below (g := gb277) (o := .cells #[.string t274, .string t275] 70 (0, 0)) zq81 hb); have n2_ := am (below_step zq78 hb); clear HO_4; clear BK277; clear HB; have HO_4 := n0_; have BK277 := n1_; have HB := n2_; clear n0_ n1_ n2_; (try clear hb); (try clear hb2); (try clear hk); (try clear hi)))
       go_ret2
       exact ⟨_, zq2, zq85, zq78⟩
     ·rw [if_neg c6] at H
      exact absurd H (by simp)
    ·rw [if_neg c5] at H
     exact absurd H (by simp)
   ·rw [if_neg c4] at H
    have c4b0 : decide ((x4_1.length : Int) < 60) = false := decide_eq_false c4
    have c4b1 : decide (x4_1.length < 60) = false := decide_eq_false (by omega)
    clear c4
    simp only [Option.some.injEq, Prod.mk.injEq] at H
    obtain ⟨rfl, rfl⟩ := H
    obtain ⟨Ao51, co51, eo51⟩ := Kd.R_slice HO_4.out
    subst eo51
    go_wp2
    go_ret2
    exact ⟨_, zq2, zq39, zq0⟩
def impl_Log_records.f (k : Nat) (a0_0 : ByteArray) (a0_1 : ByteArray) (a0_2 : Int) : Option ((List (S70)) × Bool) := if (wrap64 ((a0_0.size : Int) + (a0_1.size : Int))) > 30000 then (some (([] : List (S70)), false)) else (if a0_0.size + a0_1.size ≤ 9223372036854775807 then ((impl_readRecords.f k (a0_0 ++ a0_1)).bind fun bt284 => ((impl_readRecords.f k a0_0).bind fun bt288 => (if bt284.2 = (wrap64 ((a0_0.size : Int) + (a0_1.size : Int))) then (if bt288.2 = (a0_0.size : Int) then (some (bt284.1, ((bt284.1.length : Int) == a0_2))) else (some (bt284.1, false))) else (some (bt284.1, false))))) else (none))
set_option maxHeartbeats 8000000 in
set_option maxRecDepth 100000 in
theorem impl_Log_records.calls (k : Nat) (a0_0 : ByteArray) (a0_1 : ByteArray) (a0_2 : Int) (r1 : List (S70)) (r2 : Bool) (w : World) (hgl : Glob w) (h : impl_Log_records.f k a0_0 a0_1 a0_2 = some (r1, r2)) :
  Calls Tryd.prog 26 #[.agg #[.string a0_0, .string a0_1, .int .i64 a0_2]] w fun e w' => ∃ v0_ : Value, e = .returned (.tuple #[v0_, .bool r2]) ∧ Kd.R k70 70 w' w.heap.size (fun _ => True) v0_ r1 ∧ Below w.heap.size w w' := by
 have hu38 := Tryd.underlying38
 have HB := am (Below.refl w.heap.size w)
 have HGL := am hgl
 clear hgl
 have H : (if (wrap64 ((a0_0.size : Int) + (a0_1.size : Int))) > 30000 then (some (([] : List (S70)), false)) else (if a0_0.size + a0_1.size ≤ 9223372036854775807 then ((impl_readRecords.f k (a0_0 ++ a0_1)).bind fun bt284 => ((impl_readRecords.f k a0_0).bind fun bt288 => (if bt284.2 = (wrap64 ((a0_0.size : Int) + (a0_1.size : Int))) then (if bt288.2 = (a0_0.size : Int) then (some (bt284.1, ((bt284.1.length : Int) == a0_2))) else (some (bt284.1, false))) else (some (bt284.1, false))))) else (none))) = some (r1, r2) := h
 clear h
 by_cases c2 : (wrap64 ((a0_0.size : Int) + (a0_1.size : Int))) > 30000
 ·rw [if_pos c2] at H
  have c2b0 : decide (30000 < (wrap64 ((a0_0.size : Int) + (a0_1.size : Int)))) = true := decide_eq_true c2
  clear c2
  simp only [Option.some.injEq, Prod.mk.injEq] at H
  obtain ⟨rfl, rfl⟩ := H
  (try (have hz_ : wrap64 ((a0_0.size : Int) + (a0_1.size : Int)) = (a0_0.size : Int) + (a0_1.size : Int) := zq145; simp only [hz_] at c2b0; clear hz_))
  go_enter Tryd.func26, Tryd.ntmps26
  go_wp2_with (first | ((with_reducible refine gate_dst (N := 1) rfl ?_); (try (refine gate_guard (by rfl) ?_; dsimp only)); refine box_event ?hg (N := 1) ?hd (cs := #[.string a0_0, .string a0_1, .int .i64 a0_2]) (t := 38) ?hr ?_; (case hd => rfl); (case hg => rfl); (case hr => first | (go_simp; done) | (go_simp; rfl)); intro gb283 hg w3 hbox hb; have n0_ := am (below_step zq0 hb); have n1_ := am (hbox); have n2_ := am ((zq4 : w.heap.size ≤ gb283)); have n3_ := am ((zq4 : w.heap.size ≤ gb283)); clear HB; have HB := n0_; have BK283 := n1_; have GW283 := n2_; have GE283 := n3_; clear n0_ n1_ n2_ n3_; clear hb hbox hg; have hcz4_0 : w3.cell? ⟨gb283, 0, none⟩ = some (.string a0_0) := (blk_cell BK283.out 0).trans rfl; have hcz4_1 : w3.cell? ⟨gb283, 1, none⟩ = some (.string a0_1) := (blk_cell BK283.out 1).trans rfl; have hcz4_2 : w3.cell? ⟨gb283, 2, none⟩ = some (.int .i64 a0_2) := (blk_cell BK283.out 2).trans rfl; have hfz4_0 := blk_frozen BK283.out 0; have hfz4_1 := blk_frozen BK283.out 1; have hfz4_2 := blk_frozen BK283.out 2))
  repeat (go_quiet (first | ((with_reducible refine gate_dst (N := 1) rfl ?_); (try (refine gate_guard (by rfl) ?_; dsimp only)); refine box_event ?hg (N := 1) ?hd (cs := #[.string a0_0, .string a0_1, .int .i64 a0_2]) (t := 38) ?hr ?_; (case hd => rfl); (case hg => rfl); (case hr => first | (go_simp; done) | (go_simp; rfl)); intro gb283 hg w3 hbox hb; have n0_ := am (below_step zq0 hb); have n1_ := am (hbox); have n2_ := am ((zq4 : w.heap.size ≤ gb283)); have n3_ := am ((zq4 : w.heap.size ≤ gb283)); clear HB; have HB := n0_; have BK283 := n1_; have GW283 := n2_; have GE283 := n3_; clear n0_ n1_ n2_ n3_; clear hb hbox hg; have hcz4_0 : w3.cell? ⟨gb283, 0, none⟩ = some (.string a0_0) := (blk_cell BK283.out 0).trans rfl; have hcz4_1 : w3.cell? ⟨gb283, 1, none⟩ = some (.string a0_1) := (blk_cell BK283.out 1).trans rfl; have hcz4_2 : w3.cell? ⟨gb283, 2, none⟩ = some (.int .i64 a0_2) := (blk_cell BK283.out 2).trans rfl; have hfz4_0 := blk_frozen BK283.out 0; have hfz4_1 := blk_frozen BK283.out 1; have hfz4_2 := blk_frozen BK283.out 2)); try go_wp2_with (first | ((with_reducible refine gate_dst (N := 1) rfl ?_); (try (refine gate_guard (by rfl) ?_; dsimp only)); refine box_event ?hg (N := 1) ?hd (cs := #[.string a0_0, .string a0_1, .int .i64 a0_2]) (t := 38) ?hr ?_; (case hd => rfl); (case hg => rfl); (case hr => first | (go_simp; done) | (go_simp; rfl)); intro gb283 hg w3 hbox hb; have n0_ := am (below_step zq0 hb); have n1_ := am (hbox); have n2_ := am ((zq4 : w.heap.size ≤ gb283)); have n3_ := am ((zq4 : w.heap.size ≤ gb283)); clear HB; have HB := n0_; have BK283 := n1_; have GW283 := n2_; have GE283 := n3_; clear n0_ n1_ n2_ n3_; clear hb hbox hg; have hcz4_0 : w3.cell? ⟨gb283, 0, none⟩ = some (.string a0_0) := (blk_cell BK283.out 0).trans rfl; have hcz4_1 : w3.cell? ⟨gb283, 1, none⟩ = some (.string a0_1) := (blk_cell BK283.out 1).trans rfl; have hcz4_2 : w3.cell? ⟨gb283, 2, none⟩ = some (.int .i64 a0_2) := (blk_cell BK283.out 2).trans rfl; have hfz4_0 := blk_frozen BK283.out 0; have hfz4_1 := blk_frozen BK283.out 1; have hfz4_2 := blk_frozen BK283.out 2)))
  go_ret2
  exact ⟨_, zq2, by first | exact Kd.R_nil _ _ _ _ _ | exact Kd.N_nil _ _ _ _ _ | exact Kd.V_nil _ _ _ _ _ | exact Kd.Q_nil _ _ _ _ _ | exact Kd.S_nil _ _ _ _ _, zq77⟩
 ·rw [if_neg c2] at H
  have c2b0 : decide (30000 < (wrap64 ((a0_0.size : Int) + (a0_1.size : Int)))) = false := decide_eq_false c2
  clear c2
  by_cases c5 : a0_0.size + a0_1.size ≤ 9223372036854775807
  ·rw [if_pos c5] at H
   have c5b0 := eq_true c5
   have c5b1 : decide (a0_0.size + a0_1.size ≤ 9223372036854775807) = true := decide_eq_true c5
   try have c5b2 : (9223372036854775807 < a0_0.size + a0_1.size) = False := eq_false (Nat.not_lt.2 c5)
   replace H := bem H
   obtain ⟨⟨t284, t285⟩, A60, H⟩ := H
   replace H : ((impl_readRecords.f k a0_0).bind fun bt288 => (if t285 = (wrap64 ((a0_0.size : Int) + (a0_1.size : Int))) then (if bt288.2 = (a0_0.size : Int) then (some (t284, ((t284.length : Int) == a0_2))) else (some (t284, false))) else (some (t284, false)))) = some (r1, r2) := H
   have A6 := am A60
   clear A60
   replace H := bem H
   obtain ⟨⟨t288, t289⟩, A70, H⟩ := H
   replace H : (if t285 = (wrap64 ((a0_0.size : Int) + (a0_1.size : Int))) then (if t289 = (a0_0.size : Int) then (some (t284, ((t284.length : Int) == a0_2))) else (some (t284, false))) else (some (t284, false))) = some (r1, r2) := H
   have A7 := am A70
   clear A70
   by_cases c8 : t285 = (wrap64 ((a0_0.size : Int) + (a0_1.size : Int)))
   ·rw [if_pos c8] at H
    have c8b0 : (t285 == (wrap64 ((a0_0.size : Int) + (a0_1.size : Int)))) = true := beq_iff_eq.mpr c8
    have c8b1 : (t285 != (wrap64 ((a0_0.size : Int) + (a0_1.size : Int)))) = false := bne_eq_false_iff_eq.mpr c8
    clear c8
    by_cases c9 : t289 = (a0_0.size : Int)
    ·rw [if_pos c9] at H
     have c9b0 : (t289 == (a0_0.size : Int)) = true := beq_iff_eq.mpr c9
     have c9b1 : (t289 != (a0_0.size : Int)) = false := bne_eq_false_iff_eq.mpr c9
     clear c9
     simp only [Option.some.injEq, Prod.mk.injEq] at H
     obtain ⟨rfl, rfl⟩ := H
     (try (have hz_ : wrap64 ((a0_0.size : Int) + (a0_1.size : Int)) = (a0_0.size : Int) + (a0_1.size : Int) := zq145; simp only [hz_] at c2b0 c8b0 c8b1; clear hz_))
     go_enter Tryd.func26, Tryd.ntmps26
     go_wp2_with (first | ((with_reducible refine gate_dst (N := 1) rfl ?_); (try (refine gate_guard (by rfl) ?_; dsimp only)); refine box_event ?hg (N := 1) ?hd (cs := #[.string a0_0, .string a0_1, .int .i64 a0_2]) (t := 38) ?hr ?_; (case hd => rfl); (case hg => rfl); (case hr => first | (go_simp; done) | (go_simp; rfl)); intro gb283 hg w10 hbox hb; have n0_ := am (below_step zq0 hb); have n1_ := am (hbox); have n2_ := am ((zq4 : w.heap.size ≤ gb283)); have n3_ := am ((zq4 : w.heap.size ≤ gb283)); clear HB; have HB := n0_; have BK283 := n1_; have GW283 := n2_; have GE283 := n3_; clear n0_ n1_ n2_ n3_; clear hb hbox hg; have hcz11_0 : w10.cell? ⟨gb283, 0, none⟩ = some (.string a0_0) := (blk_cell BK283.out 0).trans rfl; have hcz11_1 : w10.cell? ⟨gb283, 1, none⟩ = some (.string a0_1) := (blk_cell BK283.out 1).trans rfl; have hcz11_2 : w10.cell? ⟨gb283, 2, none⟩ = some (.int .i64 a0_2) := (blk_cell BK283.out 2).trans rfl; have hfz11_0 := blk_frozen BK283.out 0; have hfz11_1 := blk_frozen BK283.out 1; have hfz11_2 := blk_frozen BK283.out 2) | (go_at_call 38; (with_reducible refine (impl_readRecords.calls k (a0_0 ++ a0_1) t284 t285 _ ?side1 A6.out).mono ?_); (case side1 => exact Glob.below HGL.out zq77); rintro e w12 ⟨v286, rfl, ho0, hb⟩; have n0_ := am (Kd.R_lower ho0 (below_size zq77)); have n1_ := am (blk_below (g := gb283) (o := .cells #[.string a0_0, .string a0_1, .int .i64 a0_2] 38 (0, 0)) zq79 hb); have n2_ := am (below_step zq77 hb); clear BK283; clear HB; have HO287 := n0_; have BK283 := n1_; have HB := n2_; clear n0_ n1_ n2_; (try clear hb); (try clear hb2); (try clear hk); (try clear hi); (try clear ho0); have hcz13_0 : w12.cell? ⟨gb283, 0, none⟩ = some (.string a0_0) := (blk_cell BK283.out 0).trans rfl; have hcz13_1 : w12.cell? ⟨gb283, 1, none⟩ = some (.string a0_1) := (blk_cell BK283.out 1).trans rfl; have hcz13_2 : w12.cell? ⟨gb283, 2, none⟩ = some (.int .i64 a0_2) := (blk_cell BK283.out 2).trans rfl; have hfz13_0 := blk_frozen BK283.out 0; have hfz13_1 := blk_frozen BK283.out 1; have hfz13_2 := blk_frozen BK283.out 2) | (go_at_call 38; (with_reducible refine (impl_readRecords.calls k a0_0 t288 t289 _ ?side1 A7.out).mono ?_); (case side1 => exact Glob.below HGL.out zq77); rintro e w14 ⟨v290, rfl, ho0, hb⟩; have n0_ := am (Kd.R_elder' zq80 (Kd.R_base ho0) hb); have n1_ := am (Kd.R_lower (Kd.R_new' ho0 (Kd.R_lt zq80)) (below_size zq77)); have n2_ := am (blk_below (g := gb283) (o := .cells #[.string a0_0, .string a0_1, .int .i64 a0_2] 38 (0, 0)) zq79 hb); have n3_ := am (below_step zq77 hb); clear HO287; clear BK283; clear HB; have HO287 := n0_; have HO291 := n1_; have BK283 := n2_; have HB := n3_; clear n0_ n1_ n2_ n3_; (try clear hb); (try clear hb2); (try clear hk); (try clear hi); (try clear ho0); have hcz15_0 : w14.cell? ⟨gb283, 0, none⟩ = some (.string a0_0) := (blk_cell BK283.out 0).trans rfl; have hcz15_1 : w14.cell? ⟨gb283, 1, none⟩ = some (.string a0_1) := (blk_cell BK283.out 1).trans rfl; have hcz15_2 : w14.cell? ⟨gb283, 2, none⟩ = some (.int .i64 a0_2) := (blk_cell BK283.out 2).trans rfl; have hfz15_0 := blk_frozen BK283.out 0; have hfz15_1 := blk_frozen BK283.out 1; have hfz15_2 := blk_frozen BK283.out 2; obtain ⟨Ao16, co16, eo16⟩ := Kd.R_slice HO287.out; subst eo16))
     repeat (go_quiet (first | ((with_reducible refine gate_dst (N := 1) rfl ?_); (try (refine gate_guard (by rfl) ?_; dsimp only)); refine box_event ?hg (N := 1) ?hd (cs := #[.string a0_0, .string a0_1, .int .i64 a0_2]) (t := 38) ?hr ?_; (case hd => rfl); (case hg => rfl); (case hr => first | (go_simp; done) | (go_simp; rfl)); intro gb283 hg w10 hbox hb; have n0_ := am (below_step zq0 hb); have n1_ := am (hbox); have n2_ := am ((zq4 : w.heap.size ≤ gb283)); have n3_ := am ((zq4 : w.heap.size ≤ gb283)); clear HB; have HB := n0_; have BK283 := n1_; have GW283 := n2_; have GE283 := n3_; clear n0_ n1_ n2_ n3_; clear hb hbox hg; have hcz11_0 : w10.cell? ⟨gb283, 0, none⟩ = some (.string a0_0) := (blk_cell BK283.out 0).trans rfl; have hcz11_1 : w10.cell? ⟨gb283, 1, none⟩ = some (.string a0_1) := (blk_cell BK283.out 1).trans rfl; have hcz11_2 : w10.cell? ⟨gb283, 2, none⟩ = some (.int .i64 a0_2) := (blk_cell BK283.out 2).trans rfl; have hfz11_0 := blk_frozen BK283.out 0; have hfz11_1 := blk_frozen BK283.out 1; have hfz11_2 := blk_frozen BK283.out 2) | (go_at_call 38; (with_reducible refine (impl_readRecords.calls k (a0_0 ++ a0_1) t284 t285 _ ?side1 A6.out).mono ?_); (case side1 => exact Glob.below HGL.out zq77); rintro e w12 ⟨v286, rfl, ho0, hb⟩; have n0_ := am (Kd.R_lower ho0 (below_size zq77)); have n1_ := am (blk_below (g := gb283) (o := .cells #[.string a0_0, .string a0_1, .int .i64 a0_2] 38 (0, 0)) zq79 hb); have n2_ := am (below_step zq77 hb); clear BK283; clear HB; have HO287 := n0_; have BK283 := n1_; have HB := n2_; clear n0_ n1_ n2_; (try clear hb); (try clear hb2); (try clear hk); (try clear hi); (try clear ho0); have hcz13_0 : w12.cell? ⟨gb283, 0, none⟩ = some (.string a0_0) := (blk_cell BK283.out 0).trans rfl; have hcz13_1 : w12.cell? ⟨gb283, 1, none⟩ = some (.string a0_1) := (blk_cell BK283.out 1).trans rfl; have hcz13_2 : w12.cell? ⟨gb283, 2, none⟩ = some (.int .i64 a0_2) := (blk_cell BK283.out 2).trans rfl; have hfz13_0 := blk_frozen BK283.out 0; have hfz13_1 := blk_frozen BK283.out 1; have hfz13_2 := blk_frozen BK283.out 2) | (go_at_call 38; (with_reducible refine (impl_readRecords.calls k a0_0 t288 t289 _ ?side1 A7.out).mono ?_); (case side1 => exact Glob.below HGL.out zq77); rintro e w14 ⟨v290, rfl, ho0, hb⟩; have n0_ := am (Kd.R_elder' zq80 (Kd.R_base ho0) hb); have n1_ := am (Kd.R_lower (Kd.R_new' ho0 (Kd.R_lt zq80)) (below_size zq77)); have n2_ := am (blk_below (g := gb283) (o := .cells #[.string a0_0, .string a0_1, .int .i64 a0_2] 38 (0, 0)) zq79 hb); have n3_ := am (below_step zq77 hb); clear HO287; clear BK283; clear HB; have HO287 := n0_; have HO291 := n1_; have BK283 := n2_; have HB := n3_; clear n0_ n1_ n2_ n3_; (try clear hb); (try clear hb2); (try clear hk); (try clear hi); (try clear ho0); have hcz15_0 : w14.cell? ⟨gb283, 0, none⟩ = some (.string a0_0) := (blk_cell BK283.out 0).trans rfl; have hcz15_1 : w14.cell? ⟨gb283, 1, none⟩ = some (.string a0_1) := (blk_cell BK283.out 1).trans rfl; have hcz15_2 : w14.cell? ⟨gb283, 2, none⟩ = some (.int .i64 a0_2) := (blk_cell BK283.out 2).trans rfl; have hfz15_0 := blk_frozen BK283.out 0; have hfz15_1 := blk_frozen BK283.out 1; have hfz15_2 := blk_frozen BK283.out 2; obtain ⟨Ao16, co16, eo16⟩ := Kd.R_slice HO287.out; subst eo16)); try go_wp2_with (first | ((with_reducible refine gate_dst (N := 1) rfl ?_); (try (refine gate_guard (by rfl) ?_; dsimp only)); refine box_event ?hg (N := 1) ?hd (cs := #[.string a0_0, .string a0_1, .int .i64 a0_2]) (t := 38) ?hr ?_; (case hd => rfl); (case hg => rfl); (case hr => first | (go_simp; done) | (go_simp; rfl)); intro gb283 hg w10 hbox hb; have n0_ := am (below_step zq0 hb); have n1_ := am (hbox); have n2_ := am ((zq4 : w.heap.size ≤ gb283)); have n3_ := am ((zq4 : w.heap.size ≤ gb283)); clear HB; have HB := n0_; have BK283 := n1_; have GW283 := n2_; have GE283 := n3_; clear n0_ n1_ n2_ n3_; clear hb hbox hg; have hcz11_0 : w10.cell? ⟨gb283, 0, none⟩ = some (.string a0_0) := (blk_cell BK283.out 0).trans rfl; have hcz11_1 : w10.cell? ⟨gb283, 1, none⟩ = some (.string a0_1) := (blk_cell BK283.out 1).trans rfl; have hcz11_2 : w10.cell? ⟨gb283, 2, none⟩ = some (.int .i64 a0_2) := (blk_cell BK283.out 2).trans rfl; have hfz11_0 := blk_frozen BK283.out 0; have hfz11_1 := blk_frozen BK283.out 1; have hfz11_2 := blk_frozen BK283.out 2) | (go_at_call 38; (with_reducible refine (impl_readRecords.calls k (a0_0 ++ a0_1) t284 t285 _ ?side1 A6.out).mono ?_); (case side1 => exact Glob.below HGL.out zq77); rintro e w12 ⟨v286, rfl, ho0, hb⟩; have n0_ := am (Kd.R_lower ho0 (below_size zq77)); have n1_ := am (blk_below (g := gb283) (o := .cells #[.string a0_0, .string a0_1, .int .i64 a0_2] 38 (0, 0)) zq79 hb); have n2_ := am (below_step zq77 hb); clear BK283; clear HB; have HO287 := n0_; have BK283 := n1_; have HB := n2_; clear n0_ n1_ n2_; (try clear hb); (try clear hb2); (try clear hk); (try clear hi); (try clear ho0); have hcz13_0 : w12.cell? ⟨gb283, 0, none⟩ = some (.string a0_0) := (blk_cell BK283.out 0).trans rfl; have hcz13_1 : w12.cell? ⟨gb283, 1, none⟩ = some (.string a0_1) := (blk_cell BK283.out 1).trans rfl; have hcz13_2 : w12.cell? ⟨gb283, 2, none⟩ = some (.int .i64 a0_2) := (blk_cell BK283.out 2).trans rfl; have hfz13_0 := blk_frozen BK283.out 0; have hfz13_1 := blk_frozen BK283.out 1; have hfz13_2 := blk_frozen BK283.out 2) | (go_at_call 38; (with_reducible refine (impl_readRecords.calls k a0_0 t288 t289 _ ?side1 A7.out).mono ?_); (case side1 => exact Glob.below HGL.out zq77); rintro e w14 ⟨v290, rfl, ho0, hb⟩; have n0_ := am (Kd.R_elder' zq80 (Kd.R_base ho0) hb); have n1_ := am (Kd.R_lower (Kd.R_new' ho0 (Kd.R_lt zq80)) (below_size zq77)); have n2_ := am (blk_below (g := gb283) (o := .cells #[.string a0_0, .string a0_1, .int .i64 a0_2] 38 (0, 0)) zq79 hb); have n3_ := am (below_step zq77 hb); clear HO287; clear BK283; clear HB; have HO287 := n0_; have HO291 := n1_; have BK283 := n2_; have HB := n3_; clear n0_ n1_ n2_ n3_; (try clear hb); (try clear hb2); (try clear hk); (try clear hi); (try clear ho0); have hcz15_0 : w14.cell? ⟨gb283, 0, none⟩ = some (.string a0_0) := (blk_cell BK283.out 0).trans rfl; have hcz15_1 : w14.cell? ⟨gb283, 1, none⟩ = some (.string a0_1) := (blk_cell BK283.out 1).trans rfl; have hcz15_2 : w14.cell? ⟨gb283, 2, none⟩ = some (.int .i64 a0_2) := (blk_cell BK283.out 2).trans rfl; have hfz15_0 := blk_frozen BK283.out 0; have hfz15_1 := blk_frozen BK283.out 1; have hfz15_2 := blk_frozen BK283.out 2; obtain ⟨Ao16, co16, eo16⟩ := Kd.R_slice HO287.out; subst eo16)))
     go_ret2
     exact ⟨_, zq2, zq84, zq77⟩
    ·rw [if_neg c9] at H
     have c9b0 : (t289 == (a0_0.size : Int)) = false := beq_eq_false_iff_ne.mpr c9
     have c9b1 : (t289 != (a0_0.size : Int)) = true := bne_iff_ne.mpr c9
     simp only [Option.some.injEq, Prod.mk.injEq] at H
     obtain ⟨rfl, rfl⟩ := H
     (try (have hz_ : wrap64 ((a0_0.size : Int) + (a0_1.size : Int)) = (a0_0.size : Int) + (a0_1.size : Int) := zq145; simp only [hz_] at c2b0 c8b0 c8b1; clear hz_))
     go_enter Tryd.func26, Tryd.ntmps26
     go_wp2_with (first | ((with_reducible refine gate_dst (N := 1) rfl ?_); (try (refine gate_guard (by rfl) ?_; dsimp only)); refine box_event ?hg (N := 1) ?hd (cs := #[.string a0_0, .string a0_1, .int .i64 a0_2]) (t := 38) ?hr ?_; (case hd => rfl); (case hg => rfl); (case hr => first | (go_simp; done) | (go_simp; rfl)); intro gb283 hg w17 hbox hb; have n0_ := am (below_step zq0 hb); have n1_ := am (hbox); have n2_ := am ((zq4 : w.heap.size ≤ gb283)); have n3_ := am ((zq4 : w.heap.size ≤ gb283)); clear HB; have HB := n0_; have BK283 := n1_; have GW283 := n2_; have GE283 := n3_; clear n0_ n1_ n2_ n3_; clear hb hbox hg; have hcz18_0 : w17.cell? ⟨gb283, 0, none⟩ = some (.string a0_0) := (blk_cell BK283.out 0).trans rfl; have hcz18_1 : w17.cell? ⟨gb283, 1, none⟩ = some (.string a0_1) := (blk_cell BK283.out 1).trans rfl; have hcz18_2 : w17.cell? ⟨gb283, 2, none⟩ = some (.int .i64 a0_2) := (blk_cell BK283.out 2).trans rfl; have hfz18_0 := blk_frozen BK283.out 0; have hfz18_1 := blk_frozen BK283.out 1; have hfz18_2 := blk_frozen BK283.out 2) | (go_at_call 38; (with_reducible refine (impl_readRecords.calls k (a0_0 ++ a0_1) t284 t285 _ ?side1 A6.out).mono ?_); (case side1 => exact Glob.below HGL.out zq77); rintro e w19 ⟨v286, rfl, ho0, hb⟩; have n0_ := am (Kd.R_lower ho0 (below_size zq77)); have n1_ := am (blk_below (g := gb283) (o := .cells #[.string a0_0, .string a0_1, .int .i64 a0_2] 38 (0, 0)) zq79 hb); have n2_ := am (below_step zq77 hb); clear BK283; clear HB; have HO287 := n0_; have BK283 := n1_; have HB := n2_; clear n0_ n1_ n2_; (try clear hb); (try clear hb2); (try clear hk); (try clear hi); (try clear ho0); have hcz20_0 : w19.cell? ⟨gb283, 0, none⟩ = some (.string a0_0) := (blk_cell BK283.out 0).trans rfl; have hcz20_1 : w19.cell? ⟨gb283, 1, none⟩ = some (.string a0_1) := (blk_cell BK283.out 1).trans rfl; have hcz20_2 : w19.cell? ⟨gb283, 2, none⟩ = some (.int .i64 a0_2) := (blk_cell BK283.out 2).trans rfl; have hfz20_0 := blk_frozen BK283.out 0; have hfz20_1 := blk_frozen BK283.out 1; have hfz20_2 := blk_frozen BK283.out 2) | (go_at_call 38; (with_reducible refine (impl_readRecords.calls k a0_0 t288 t289 _ ?side1 A7.out).mono ?_); (case side1 => exact Glob.below HGL.out zq77); rintro e w21 ⟨v290, rfl, ho0, hb⟩; have n0_ := am (Kd.R_elder' zq80 (Kd.R_base ho0) hb); have n1_ := am (Kd.R_lower (Kd.R_new' ho0 (Kd.R_lt zq80)) (below_size zq77)); have n2_ := am (blk_below (g := gb283) (o := .cells #[.string a0_0, .string a0_1, .int .i64 a0_2] 38 (0, 0)) zq79 hb); have n3_ := am (below_step zq77 hb); clear HO287; clear BK283; clear HB; have HO287 := n0_; have HO291 := n1_; have BK283 := n2_; have HB := n3_; clear n0_ n1_ n2_ n3_; (try clear hb); (try clear hb2); (try clear hk); (try clear hi); (try clear ho0); have hcz22_0 : w21.cell? ⟨gb283, 0, none⟩ = some (.string a0_0) := (blk_cell BK283.out 0).trans rfl; have hcz22_1 : w21.cell? ⟨gb283, 1, none⟩ = some (.string a0_1) := (blk_cell BK283.out 1).trans rfl; have hcz22_2 : w21.cell? ⟨gb283, 2, none⟩ = some (.int .i64 a0_2) := (blk_cell BK283.out 2).trans rfl; have hfz22_0 := blk_frozen BK283.out 0; have hfz22_1 := blk_frozen BK283.out 1; have hfz22_2 := blk_frozen BK283.out 2))
     repeat (go_quiet (first | ((with_reducible refine gate_dst (N := 1) rfl ?_); (try (refine gate_guard (by rfl) ?_; dsimp only)); refine box_event ?hg (N := 1) ?hd (cs := #[.string a0_0, .string a0_1, .int .i64 a0_2]) (t := 38) ?hr ?_; (case hd => rfl); (case hg => rfl); (case hr => first | (go_simp; done) | (go_simp; rfl)); intro gb283 hg w17 hbox hb; have n0_ := am (below_step zq0 hb); have n1_ := am (hbox); have n2_ := am ((zq4 : w.heap.size ≤ gb283)); have n3_ := am ((zq4 : w.heap.size ≤ gb283)); clear HB; have HB := n0_; have BK283 := n1_; have GW283 := n2_; have GE283 := n3_; clear n0_ n1_ n2_ n3_; clear hb hbox hg; have hcz18_0 : w17.cell? ⟨gb283, 0, none⟩ = some (.string a0_0) := (blk_cell BK283.out 0).trans rfl; have hcz18_1 : w17.cell? ⟨gb283, 1, none⟩ = some (.string a0_1) := (blk_cell BK283.out 1).trans rfl; have hcz18_2 : w17.cell? ⟨gb283, 2, none⟩ = some (.int .i64 a0_2) := (blk_cell BK283.out 2).trans rfl; have hfz18_0 := blk_frozen BK283.out 0; have hfz18_1 := blk_frozen BK283.out 1; have hfz18_2 := blk_frozen BK283.out 2) | (go_at_call 38; (with_reducible refine (impl_readRecords.calls k (a0_0 ++ a0_1) t284 t285 _ ?side1 A6.out).mono ?_); (case side1 => exact Glob.below HGL.out zq77); rintro e w19 ⟨v286, rfl, ho0, hb⟩; have n0_ := am (Kd.R_lower ho0 (below_size zq77)); have n1_ := am (blk_below (g := gb283) (o := .cells #[.string a0_0, .string a0_1, .int .i64 a0_2] 38 (0, 0)) zq79 hb); have n2_ := am (below_step zq77 hb); clear BK283; clear HB; have HO287 := n0_; have BK283 := n1_; have HB := n2_; clear n0_ n1_ n2_; (try clear hb); (try clear hb2); (try clear hk); (try clear hi); (try clear ho0); have hcz20_0 : w19.cell? ⟨gb283, 0, none⟩ = some (.string a0_0) := (blk_cell BK283.out 0).trans rfl; have hcz20_1 : w19.cell? ⟨gb283, 1, none⟩ = some (.string a0_1) := (blk_cell BK283.out 1).trans rfl; have hcz20_2 : w19.cell? ⟨gb283, 2, none⟩ = some (.int .i64 a0_2) := (blk_cell BK283.out 2).trans rfl; have hfz20_0 := blk_frozen BK283.out 0; have hfz20_1 := blk_frozen BK283.out 1; have hfz20_2 := blk_frozen BK283.out 2) | (go_at_call 38; (with_reducible refine (impl_readRecords.calls k a0_0 t288 t289 _ ?side1 A7.out).mono ?_); (case side1 => exact Glob.below HGL.out zq77); rintro e w21 ⟨v290, rfl, ho0, hb⟩; have n0_ := am (Kd.R_elder' zq80 (Kd.R_base ho0) hb); have n1_ := am (Kd.R_lower (Kd.R_new' ho0 (Kd.R_lt zq80)) (below_size zq77)); have n2_ := am (blk_below (g := gb283) (o := .cells #[.string a0_0, .string a0_1, .int .i64 a0_2] 38 (0, 0)) zq79 hb); have n3_ := am (below_step zq77 hb); clear HO287; clear BK283; clear HB; have HO287 := n0_; have HO291 := n1_; have BK283 := n2_; have HB := n3_; clear n0_ n1_ n2_ n3_; (try clear hb); (try clear hb2); (try clear hk); (try clear hi); (try clear ho0); have hcz22_0 : w21.cell? ⟨gb283, 0, none⟩ = some (.string a0_0) := (blk_cell BK283.out 0).trans rfl; have hcz22_1 : w21.cell? ⟨gb283, 1, none⟩ = some (.string a0_1) := (blk_cell BK283.out 1).trans rfl; have hcz22_2 : w21.cell? ⟨gb283, 2, none⟩ = some (.int .i64 a0_2) := (blk_cell BK283.out 2).trans rfl; have hfz22_0 := blk_frozen BK283.out 0; have hfz22_1 := blk_frozen BK283.out 1; have hfz22_2 := blk_frozen BK283.out 2)); try go_wp2_with (first | ((with_reducible refine gate_dst (N := 1) rfl ?_); (try (refine gate_guard (by rfl) ?_; dsimp only)); refine box_event ?hg (N := 1) ?hd (cs := #[.string a0_0, .string a0_1, .int .i64 a0_2]) (t := 38) ?hr ?_; (case hd => rfl); (case hg => rfl); (case hr => first | (go_simp; done) | (go_simp; rfl)); intro gb283 hg w17 hbox hb; have n0_ := am (below_step zq0 hb); have n1_ := am (hbox); have n2_ := am ((zq4 : w.heap.size ≤ gb283)); have n3_ := am ((zq4 : w.heap.size ≤ gb283)); clear HB; have HB := n0_; have BK283 := n1_; have GW283 := n2_; have GE283 := n3_; clear n0_ n1_ n2_ n3_; clear hb hbox hg; have hcz18_0 : w17.cell? ⟨gb283, 0, none⟩ = some (.string a0_0) := (blk_cell BK283.out 0).trans rfl; have hcz18_1 : w17.cell? ⟨gb283, 1, none⟩ = some (.string a0_1) := (blk_cell BK283.out 1).trans rfl; have hcz18_2 : w17.cell? ⟨gb283, 2, none⟩ = some (.int .i64 a0_2) := (blk_cell BK283.out 2).trans rfl; have hfz18_0 := blk_frozen BK283.out 0; have hfz18_1 := blk_frozen BK283.out 1; have hfz18_2 := blk_frozen BK283.out 2) | (go_at_call 38; (with_reducible refine (impl_readRecords.calls k (a0_0 ++ a0_1) t284 t285 _ ?side1 A6.out).mono ?_); (case side1 => exact Glob.below HGL.out zq77); rintro e w19 ⟨v286, rfl, ho0, hb⟩; have n0_ := am (Kd.R_lower ho0 (below_size zq77)); have n1_ := am (blk_below (g := gb283) (o := .cells #[.string a0_0, .string a0_1, .int .i64 a0_2] 38 (0, 0)) zq79 hb); have n2_ := am (below_step zq77 hb); clear BK283; clear HB; have HO287 := n0_; have BK283 := n1_; have HB := n2_; clear n0_ n1_ n2_; (try clear hb); (try clear hb2); (try clear hk); (try clear hi); (try clear ho0); have hcz20_0 : w19.cell? ⟨gb283, 0, none⟩ = some (.string a0_0) := (blk_cell BK283.out 0).trans rfl; have hcz20_1 : w19.cell? ⟨gb283, 1, none⟩ = some (.string a0_1) := (blk_cell BK283.out 1).trans rfl; have hcz20_2 : w19.cell? ⟨gb283, 2, none⟩ = some (.int .i64 a0_2) := (blk_cell BK283.out 2).trans rfl; have hfz20_0 := blk_frozen BK283.out 0; have hfz20_1 := blk_frozen BK283.out 1; have hfz20_2 := blk_frozen BK283.out 2) | (go_at_call 38; (with_reducible refine (impl_readRecords.calls k a0_0 t288 t289 _ ?side1 A7.out).mono ?_); (case side1 => exact Glob.below HGL.out zq77); rintro e w21 ⟨v290, rfl, ho0, hb⟩; have n0_ := am (Kd.R_elder' zq80 (Kd.R_base ho0) hb); have n1_ := am (Kd.R_lower (Kd.R_new' ho0 (Kd.R_lt zq80)) (below_size zq77)); have n2_ := am (blk_below (g := gb283) (o := .cells #[.string a0_0, .string a0_1, .int .i64 a0_2] 38 (0, 0)) zq79 hb); have n3_ := am (below_step zq77 hb); clear HO287; clear BK283; clear HB; have HO287 := n0_; have HO291 := n1_; have BK283 := n2_; have HB := n3_; clear n0_ n1_ n2_ n3_; (try clear hb); (try clear hb2); (try clear hk); (try clear hi); (try clear ho0); have hcz22_0 : w21.cell? ⟨gb283, 0, none⟩ = some (.string a0_0) := (blk_cell BK283.out 0).trans rfl; have hcz22_1 : w21.cell? ⟨gb283, 1, none⟩ = some (.string a0_1) := (blk_cell BK283.out 1).trans rfl; have hcz22_2 : w21.cell? ⟨gb283, 2, none⟩ = some (.int .i64 a0_2) := (blk_cell BK283.out 2).trans rfl; have hfz22_0 := blk_frozen BK283.out 0; have hfz22_1 := blk_frozen BK283.out 1; have hfz22_2 := blk_frozen BK283.out 2)))
     go_ret2
     exact ⟨_, zq2, zq84, zq77⟩
   ·rw [if_neg c8] at H
    have c8b0 : (t285 == (wrap64 ((a0_0.size : Int) + (a0_1.size : Int)))) = false := beq_eq_false_iff_ne.mpr c8
    have c8b1 : (t285 != (wrap64 ((a0_0.size : Int) + (a0_1.size : Int)))) = true := bne_iff_ne.mpr c8
    simp only [Option.some.injEq, Prod.mk.injEq] at H
    obtain ⟨rfl, rfl⟩ := H
    (try (have hz_ : wrap64 ((a0_0.size : Int) + (a0_1.size : Int)) = (a0_0.size : Int) + (a0_1.size : Int) := zq145; simp only [hz_] at c2b0 c8b0 c8b1; clear hz_))
    go_enter Tryd.func26, Tryd.ntmps26
    go_wp2_with (first | ((with_reducible refine gate_dst (N := 1) rfl ?_); (try (refine gate_guard (by rfl) ?_; dsimp only)); refine box_event ?hg (N := 1) ?hd (cs := #[.string a0_0, .string a0_1, .int .i64 a0_2]) (t := 38) ?hr ?_; (case hd => rfl); (case hg => rfl); (case hr => first | (go_simp; done) | (go_simp; rfl)); intro gb283 hg w23 hbox hb; have n0_ := am (below_step zq0 hb); have n1_ := am (hbox); have n2_ := am ((zq4 : w.heap.size ≤ gb283)); have n3_ := am ((zq4 : w.heap.size ≤ gb283)); clear HB; have HB := n0_; have BK283 := n1_; have GW283 := n2_; have GE283 := n3_; clear n0_ n1_ n2_ n3_; clear hb hbox hg; have hcz24_0 : w23.cell? ⟨gb283, 0, none⟩ = some (.string a0_0) := (blk_cell BK283.out 0).trans rfl; have hcz24_1 : w23.cell? ⟨gb283, 1, none⟩ = some (.string a0_1) := (blk_cell BK283.out 1).trans rfl; have hcz24_2 : w23.cell? ⟨gb283, 2, none⟩ = some (.int .i64 a0_2) := (blk_cell BK283.out 2).trans rfl; have hfz24_0 := blk_frozen BK283.out 0; have hfz24_1 := blk_frozen BK283.out 1; have hfz24_2 := blk_frozen BK283.out 2) | (go_at_call 38; (with_reducible refine (impl_readRecords.calls k (a0_0 ++ a0_1) t284 t285 _ ?side1 A6.out).mono ?_); (case side1 => exact Glob.below HGL.out zq77); rintro e w25 ⟨v286, rfl, ho0, hb⟩; have n0_ := am (Kd.R_lower ho0 (below_size zq77)); have n1_ := am (blk_below (g := gb283) (o := .cells #[.string a0_0, .string a0_1, .int .i64 a0_2] 38 (0, 0)) zq79 hb); have n2_ := am (below_step zq77 hb); clear BK283; clear HB; have HO287 := n0_; have BK283 := n1_; have HB := n2_; clear n0_ n1_ n2_; (try clear hb); (try clear hb2); (try clear hk); (try clear hi); (try clear ho0); have hcz26_0 : w25.cell? ⟨gb283, 0, none⟩ = some (.string a0_0) := (blk_cell BK283.out 0).trans rfl; have hcz26_1 : w25.cell? ⟨gb283, 1, none⟩ = some (.string a0_1) := (blk_cell BK283.out 1).trans rfl; have hcz26_2 : w25.cell? ⟨gb283, 2, none⟩ = some (.int .i64 a0_2) := (blk_cell BK283.out 2).trans rfl; have hfz26_0 := blk_frozen BK283.out 0; have hfz26_1 := blk_frozen BK283.out 1; have hfz26_2 := blk_frozen BK283.out 2) | (go_at_call 38; (with_reducible refine (impl_readRecords.calls k a0_0 t288 t289 _ ?side1 A7.out).mono ?_); (case side1 => exact Glob.below HGL.out zq77); rintro e w27 ⟨v290, rfl, ho0, hb⟩; have n0_ := am (Kd.R_elder' zq80 (Kd.R_base ho0) hb); have n1_ := am (Kd.R_lower (Kd.R_new' ho0 (Kd.R_lt zq80)) (below_size zq77)); have n2_ := am (blk_below (g := gb283) (o := .cells #[.string a0_0, .string a0_1, .int .i64 a0_2] 38 (0, 0)) zq79 hb); have n3_ := am (below_step zq77 hb); clear HO287; clear BK283; clear HB; have HO287 := n0_; have HO291 := n1_; have BK283 := n2_; have HB := n3_; clear n0_ n1_ n2_ n3_; (try clear hb); (try clear hb2); (try clear hk); (try clear hi); (try clear ho0); have hcz28_0 : w27.cell? ⟨gb283, 0, none⟩ = some (.string a0_0) := (blk_cell BK283.out 0).trans rfl; have hcz28_1 : w27.cell? ⟨gb283, 1, none⟩ = some (.string a0_1) := (blk_cell BK283.out 1).trans rfl; have hcz28_2 : w27.cell? ⟨gb283, 2, none⟩ = some (.int .i64 a0_2) := (blk_cell BK283.out 2).trans rfl; have hfz28_0 := blk_frozen BK283.out 0; have hfz28_1 := blk_frozen BK283.out 1; have hfz28_2 := blk_frozen BK283.out 2))
    repeat (go_quiet (first | ((with_reducible refine gate_dst (N := 1) rfl ?_); (try (refine gate_guard (by rfl) ?_; dsimp only)); refine box_event ?hg (N := 1) ?hd (cs := #[.string a0_0, .string a0_1, .int .i64 a0_2]) (t := 38) ?hr ?_; (case hd => rfl); (case hg => rfl); (case hr => first | (go_simp; done) | (go_simp; rfl)); intro gb283 hg w23 hbox hb; have n0_ := am (below_step zq0 hb); have n1_ := am (hbox); have n2_ := am ((zq4 : w.heap.size ≤ gb283)); have n3_ := am ((zq4 : w.heap.size ≤ gb283)); clear HB; have HB := n0_; have BK283 := n1_; have GW283 := n2_; have GE283 := n3_; clear n0_ n1_ n2_ n3_; clear hb hbox hg; have hcz24_0 : w23.cell? ⟨gb283, 0, none⟩ = some (.string a0_0) := (blk_cell BK283.out 0).trans rfl; have hcz24_1 : w23.cell? ⟨gb283, 1, none⟩ = some (.string a0_1) := (blk_cell BK283.out 1).trans rfl; have hcz24_2 : w23.cell? ⟨gb283, 2, none⟩ = some (.int .i64 a0_2) := (blk_cell BK283.out 2).trans rfl; have hfz24_0 := blk_frozen BK283.out 0; have hfz24_1 := blk_frozen BK283.out 1; have hfz24_2 := blk_frozen BK283.out 2) | (go_at_call 38; (with_reducible refine (impl_readRecords.calls k (a0_0 ++ a0_1) t284 t285 _ ?side1 A6.out).mono ?_); (case side1 => exact Glob.below HGL.out zq77); rintro e w25 ⟨v286, rfl, ho0, hb⟩; have n0_ := am (Kd.R_lower ho0 (below_size zq77)); have n1_ := am (blk_below (g := gb283) (o := .cells #[.string a0_0, .string a0_1, .int .i64 a0_2] 38 (0, 0)) zq79 hb); have n2_ := am (below_step zq77 hb); clear BK283; clear HB; have HO287 := n0_; have BK283 := n1_; have HB := n2_; clear n0_ n1_ n2_; (try clear hb); (try clear hb2); (try clear hk); (try clear hi); (try clear ho0); have hcz26_0 : w25.cell? ⟨gb283, 0, none⟩ = some (.string a0_0) := (blk_cell BK283.out 0).trans rfl; have hcz26_1 : w25.cell? ⟨gb283, 1, none⟩ = some (.string a0_1) := (blk_cell BK283.out 1).trans rfl; have hcz26_2 : w25.cell? ⟨gb283, 2, none⟩ = some (.int .i64 a0_2) := (blk_cell BK283.out 2).trans rfl; have hfz26_0 := blk_frozen BK283.out 0; have hfz26_1 := blk_frozen BK283.out 1; have hfz26_2 := blk_frozen BK283.out 2) | (go_at_call 38; (with_reducible refine (impl_readRecords.calls k a0_0 t288 t289 _ ?side1 A7.out).mono ?_); (case side1 => exact Glob.below HGL.out zq77); rintro e w27 ⟨v290, rfl, ho0, hb⟩; have n0_ := am (Kd.R_elder' zq80 (Kd.R_base ho0) hb); have n1_ := am (Kd.R_lower (Kd.R_new' ho0 (Kd.R_lt zq80)) (below_size zq77)); have n2_ := am (blk_below (g := gb283) (o := .cells #[.string a0_0, .string a0_1, .int .i64 a0_2] 38 (0, 0)) zq79 hb); have n3_ := am (below_step zq77 hb); clear HO287; clear BK283; clear HB; have HO287 := n0_; have HO291 := n1_; have BK283 := n2_; have HB := n3_; clear n0_ n1_ n2_ n3_; (try clear hb); (try clear hb2); (try clear hk); (try clear hi); (try clear ho0); have hcz28_0 : w27.cell? ⟨gb283, 0, none⟩ = some (.string a0_0) := (blk_cell BK283.out 0).trans rfl; have hcz28_1 : w27.cell? ⟨gb283, 1, none⟩ = some (.string a0_1) := (blk_cell BK283.out 1).trans rfl; have hcz28_2 : w27.cell? ⟨gb283, 2, none⟩ = some (.int .i64 a0_2) := (blk_cell BK283.out 2).trans rfl; have hfz28_0 := blk_frozen BK283.out 0; have hfz28_1 := blk_frozen BK283.out 1; have hfz28_2 := blk_frozen BK283.out 2)); try go_wp2_with (first | ((with_reducible refine gate_dst (N := 1) rfl ?_); (try (refine gate_guard (by rfl) ?_; dsimp only)); refine box_event ?hg (N := 1) ?hd (cs := #[.string a0_0, .string a0_1, .int .i64 a0_2]) (t := 38) ?hr ?_; (case hd => rfl); (case hg => rfl); (case hr => first | (go_simp; done) | (go_simp; rfl)); intro gb283 hg w23 hbox hb; have n0_ := am (below_step zq0 hb); have n1_ := am (hbox); have n2_ := am ((zq4 : w.heap.size ≤ gb283)); have n3_ := am ((zq4 : w.heap.size ≤ gb283)); clear HB; have HB := n0_; have BK283 := n1_; have GW283 := n2_; have GE283 := n3_; clear n0_ n1_ n2_ n3_; clear hb hbox hg; have hcz24_0 : w23.cell? ⟨gb283, 0, none⟩ = some (.string a0_0) := (blk_cell BK283.out 0).trans rfl; have hcz24_1 : w23.cell? ⟨gb283, 1, none⟩ = some (.string a0_1) := (blk_cell BK283.out 1).trans rfl; have hcz24_2 : w23.cell? ⟨gb283, 2, none⟩ = some (.int .i64 a0_2) := (blk_cell BK283.out 2).trans rfl; have hfz24_0 := blk_frozen BK283.out 0; have hfz24_1 := blk_frozen BK283.out 1; have hfz24_2 := blk_frozen BK283.out 2) | (go_at_call 38; (with_reducible refine (impl_readRecords.calls k (a0_0 ++ a0_1) t284 t285 _ ?side1 A6.out).mono ?_); (case side1 => exact Glob.below HGL.out zq77); rintro e w25 ⟨v286, rfl, ho0, hb⟩; have n0_ := am (Kd.R_lower ho0 (below_size zq77)); have n1_ := am (blk_below (g := gb283) (o := .cells #[.string a0_0, .string a0_1, .int .i64 a0_2] 38 (0, 0)) zq79 hb); have n2_ := am (below_step zq77 hb); clear BK283; clear HB; have HO287 := n0_; have BK283 := n1_; have HB := n2_; clear n0_ n1_ n2_; (try clear hb); (try clear hb2); (try clear hk); (try clear hi); (try clear ho0); have hcz26_0 : w25.cell? ⟨gb283, 0, none⟩ = some (.string a0_0) := (blk_cell BK283.out 0).trans rfl; have hcz26_1 : w25.cell? ⟨gb283, 1, none⟩ = some (.string a0_1) := (blk_cell BK283.out 1).trans rfl; have hcz26_2 : w25.cell? ⟨gb283, 2, none⟩ = some (.int .i64 a0_2) := (blk_cell BK283.out 2).trans rfl; have hfz26_0 := blk_frozen BK283.out 0; have hfz26_1 := blk_frozen BK283.out 1; have hfz26_2 := blk_frozen BK283.out 2) | (go_at_call 38; (with_reducible refine (impl_readRecords.calls k a0_0 t288 t289 _ ?side1 A7.out).mono ?_); (case side1 => exact Glob.below HGL.out zq77); rintro e w27 ⟨v290, rfl, ho0, hb⟩; have n0_ := am (Kd.R_elder' zq80 (Kd.R_base ho0) hb); have n1_ := am (Kd.R_lower (Kd.R_new' ho0 (Kd.R_lt zq80)) (below_size zq77)); have n2_ := am (blk_below (g := gb283) (o := .cells #[.string a0_0, .string a0_1, .int .i64 a0_2] 38 (0, 0)) zq79 hb); have n3_ := am (below_step zq77 hb); clear HO287; clear BK283; clear HB; have HO287 := n0_; have HO291 := n1_; have BK283 := n2_; have HB := n3_; clear n0_ n1_ n2_ n3_; (try clear hb); (try clear hb2); (try clear hk); (try clear hi); (try clear ho0); have hcz28_0 : w27.cell? ⟨gb283, 0, none⟩ = some (.string a0_0) := (blk_cell BK283.out 0).trans rfl; have hcz28_1 : w27.cell? ⟨gb283, 1, none⟩ = some (.string a0_1) := (blk_cell BK283.out 1).trans rfl; have hcz28_2 : w27.cell? ⟨gb283, 2, none⟩ = some (.int .i64 a0_2) := (blk_cell BK283.out 2).trans rfl; have hfz28_0 := blk_frozen BK283.out 0; have hfz28_1 := blk_frozen BK283.out 1; have hfz28_2 := blk_frozen BK283.out 2)))
    go_ret2
    exact ⟨_, zq2, zq84, zq77⟩
  ·rw [if_neg c5] at H
   exact absurd H (by simp)
def impl_IsValidLog.f (k : Nat) (a0_0 : ByteArray) (a0_1 : ByteArray) (a0_2 : Int) : Option (Bool) := (impl_Log_records.f k a0_0 a0_1 a0_2).bind fun bt293 => (some bt293.2)
set_option maxHeartbeats 8000000 in
set_option maxRecDepth 100000 in
theorem impl_IsValidLog.calls (k : Nat) (a0_0 : ByteArray) (a0_1 : ByteArray) (a0_2 : Int) (r : Bool) (w : World) (hgl : Glob w) (h : impl_IsValidLog.f k a0_0 a0_1 a0_2 = some r) :
  Calls Tryd.prog 16 #[.agg #[.string a0_0, .string a0_1, .int .i64 a0_2]] w fun e w' => e = .returned (.bool r) ∧ Below w.heap.size w w' := by
 have hu38 := Tryd.underlying38
 have HB := am (Below.refl w.heap.size w)
 have HGL := am hgl
 clear hgl
 have H : ((impl_Log_records.f k a0_0 a0_1 a0_2).bind fun bt293 => (some bt293.2)) = some r := h
 clear h
 replace H := bem H
 obtain ⟨⟨t293, t296⟩, A20, H⟩ := H
 replace H : (some t296) = some r := H
 have A2 := am A20
 clear A20
 obtain rfl := Option.some.inj H
 go_enter Tryd.func16, Tryd.ntmps16
 go_wp2_with (first | ((with_reducible refine gate_dst (N := 1) rfl ?_); refine box_event ?hg (N := 1) ?hd (cs := #[.string a0_0, .string a0_1, .int .i64 a0_2]) (t := 38) ?hr ?_; (case hd => rfl); (case hg => rfl); (case hr => first | (go_simp; done) | (go_simp; rfl)); intro gb292 hg w3 hbox hb; have n0_ := am (below_step zq0 hb); have n1_ := am (hbox); have n2_ := am ((zq4 : w.heap.size ≤ gb292)); have n3_ := am ((zq4 : w.heap.size ≤ gb292)); clear HB; have HB := n0_; have BK292 := n1_; have GW292 := n2_; have GE292 := n3_; clear n0_ n1_ n2_ n3_; clear hb hbox hg; have hcz4_0 : w3.cell? ⟨gb292, 0, none⟩ = some (.string a0_0) := (blk_cell BK292.out 0).trans rfl; have hcz4_1 : w3.cell? ⟨gb292, 1, none⟩ = some (.string a0_1) := (blk_cell BK292.out 1).trans rfl; have hcz4_2 : w3.cell? ⟨gb292, 2, none⟩ = some (.int .i64 a0_2) := (blk_cell BK292.out 2).trans rfl; have hfz4_0 := blk_frozen BK292.out 0; have hfz4_1 := blk_frozen BK292.out 1; have hfz4_2 := blk_frozen BK292.out 2) | ((with_reducible refine gate_callee (f := 26) rfl ?_); refine goesL_ (some 7) rfl rfl Tryd.func26 zq21 rfl #[.agg #[.string a0_0, .string a0_1, .int .i64 a0_2]] rfl zq1 ?_; (with_reducible refine (impl_Log_records.calls k a0_0 a0_1 a0_2 t293 t296 _ ?side1 A2.out).mono ?_); (case side1 => exact Glob.below HGL.out zq83); rintro e w5 ⟨v294, rfl, ho0, hb⟩; refine ⟨_, rfl, ?_⟩; have n0_ := am (Kd.R_lower ho0 (below_size zq83)); have n1_ := am (blk_below (g := gb292) (o := .cells #[.string a0_0, .string a0_1, .int .i64 a0_2] 38 (0, 0)) (by (with_reducible repeat (first | refine blk_drewN ?_ _ | refine blk_drew ?_ | refine blk_alloc ?_ _)); exact BK292.out) hb); have n2_ := am (below_step zq83 hb); clear BK292; clear HB; have HO295 := n0_; have BK292 := n1_; have HB := n2_; clear n0_ n1_ n2_; (try clear hb); (try clear hb2); (try clear hk); (try clear hi); (try clear ho0)))
 go_ret
 exact ⟨zq2, zq83⟩
def impl_IsValidConsole.f (k : Nat) (l0_0 : List (List (S66))) (a0_1 : Int) (a0_2 : Int) (a0_3 : ByteArray) (a0_4 : ByteArray) (a0_5 : Int) : Option (Bool) := (impl_IsBench.f l0_0 a0_1 a0_2).bind fun t298 => (if t298 = true then ((impl_IsValidLog.f k a0_3 a0_4 a0_5).bind fun t299 => (some t299)) else (some false))
set_option maxHeartbeats 8000000 in
set_option maxRecDepth 100000 in
theorem impl_IsValidConsole.calls (k : Nat) (A0_0 : Option Addr) (c0_0 : Nat) (l0_0 : List (List (S66))) (a0_1 : Int) (a0_2 : Int) (a0_3 : ByteArray) (a0_4 : ByteArray) (a0_5 : Int) (r : Bool) (w : World) (hr0_0 : Kd.C (Kd.slice 66 k66) w A0_0 l0_0.length l0_0) (hc0_0 : l0_0.length ≤ c0_0) (hgl : Glob w) (h : impl_IsValidConsole.f k l0_0 a0_1 a0_2 a0_3 a0_4 a0_5 = some r) :
  Calls Tryd.prog 7 #[.agg #[.slice A0_0 l0_0.length c0_0, .int .i64 a0_1, .int .i64 a0_2, .string a0_3, .string a0_4, .int .i64 a0_5]] w fun e w' => e = .returned (.bool r) ∧ Below w.heap.size w w' := by
 have hu40 := Tryd.underlying40
 have hu37 := Tryd.underlying37
 have hu38 := Tryd.underlying38
 have HR0_0 := am hr0_0
 have HC0_0 := am hc0_0
 clear hr0_0 hc0_0
 have HB := am (Below.refl w.heap.size w)
 have HGL := am hgl
 clear hgl
 have H : ((impl_IsBench.f l0_0 a0_1 a0_2).bind fun t298 => (if t298 = true then ((impl_IsValidLog.f k a0_3 a0_4 a0_5).bind fun t299 => (some t299)) else (some false))) = some r := h
 clear h
 replace H := bem H
 obtain ⟨t298, A20, H⟩ := H
 replace H : (if t298 = true then ((impl_IsValidLog.f k a0_3 a0_4 a0_5).bind fun t299 => (some t299)) else (some false)) = some r := H
 have A2 := am A20
 clear A20
 by_cases c3 : t298 = true
 ·subst c3
  have H1 : ((impl_IsValidLog.f k a0_3 a0_4 a0_5).bind fun t299 => (some t299)) = some r := by rw [if_pos rfl] at H; exact H
  clear H
  have H := H1
  clear H1
  replace H := bem H
  obtain ⟨t299, A40, H⟩ := H
  replace H : (some t299) = some r := H
  have A4 := am A40
  clear A40
  obtain rfl := Option.some.inj H
  go_enter Tryd.func7, Tryd.ntmps7
  go_wp2_with (first | ((with_reducible refine gate_dst (N := 1) rfl ?_); refine box_event ?hg (N := 1) ?hd (cs := #[.slice A0_0 l0_0.length c0_0, .int .i64 a0_1, .int .i64 a0_2, .string a0_3, .string a0_4, .int .i64 a0_5]) (t := 40) ?hr ?_; (case hd => rfl); (case hg => rfl); (case hr => first | (go_simp; done) | (go_simp; rfl)); intro gb297 hg w5 hbox hb; have n0_ := am (below_step zq0 hb); have n1_ := am (hbox); have n2_ := am ((zq4 : w.heap.size ≤ gb297)); have n3_ := am ((zq4 : w.heap.size ≤ gb297)); clear HB; have HB := n0_; have BK297 := n1_; have GW297 := n2_; have GE297 := n3_; clear n0_ n1_ n2_ n3_; clear hb hbox hg; have hcz6_0 : w5.cell? ⟨gb297, 0, none⟩ = some (.slice A0_0 l0_0.length c0_0) := (blk_cell BK297.out 0).trans rfl; have hcz6_1 : w5.cell? ⟨gb297, 1, none⟩ = some (.int .i64 a0_1) := (blk_cell BK297.out 1).trans rfl; have hcz6_2 : w5.cell? ⟨gb297, 2, none⟩ = some (.int .i64 a0_2) := (blk_cell BK297.out 2).trans rfl; have hcz6_3 : w5.cell? ⟨gb297, 3, none⟩ = some (.string a0_3) := (blk_cell BK297.out 3).trans rfl; have hcz6_4 : w5.cell? ⟨gb297, 4, none⟩ = some (.string a0_4) := (blk_cell BK297.out 4).trans rfl; have hcz6_5 : w5.cell? ⟨gb297, 5, none⟩ = some (.int .i64 a0_5) := (blk_cell BK297.out 5).trans rfl; have hfz6_0 := blk_frozen BK297.out 0; have hfz6_1 := blk_frozen BK297.out 1; have hfz6_2 := blk_frozen BK297.out 2; have hfz6_3 := blk_frozen BK297.out 3; have hfz6_4 := blk_frozen BK297.out 4; have hfz6_5 := blk_frozen BK297.out 5) | ((with_reducible refine gate_callee (f := 15) rfl ?_); refine goesL_ (some 5) rfl rfl Tryd.func15 zq21 rfl #[.agg #[.slice A0_0 l0_0.length c0_0, .int .i64 a0_1, .int .i64 a0_2]] rfl zq1 ?_; (with_reducible refine (impl_IsBench.calls _ _ l0_0 a0_1 a0_2 true _ ?side1 ?side2 A2.out).mono ?_); (case side1 => repeat (first | exact (Kd.C_below HR0_0.out HB.out) | (with_reducible refine Kd.C_alloc ?_ _) | (with_reducible refine Kd.C_drewN ?_ _) | (with_reducible refine Kd.C_drew ?_))); (case side2 => exact HC0_0.out); rintro e w7 ⟨rfl, hb⟩; refine ⟨_, rfl, ?_⟩; have n0_ := am (blk_below (g := gb297) (o := .cells #[.slice A0_0 l0_0.length c0_0, .int .i64 a0_1, .int .i64 a0_2, .string a0_3, .string a0_4, .int .i64 a0_5] 40 (0, 0)) zq92 hb); have n1_ := am (below_step zq88 hb); clear BK297; clear HB; have BK297 := n0_; have HB := n1_; clear n0_ n1_; (try clear hb); (try clear hb2); (try clear hk); (try clear hi); have hcz8_0 : w7.cell? ⟨gb297, 0, none⟩ = some (.slice A0_0 l0_0.length c0_0) := (blk_cell BK297.out 0).trans rfl; have hcz8_1 : w7.cell? ⟨gb297, 1, none⟩ = some (.int .i64 a0_1) := (blk_cell BK297.out 1).trans rfl; have hcz8_2 : w7.cell? ⟨gb297, 2, none⟩ = some (.int .i64 a0_2) := (blk_cell BK297.out 2).trans rfl; have hcz8_3 : w7.cell? ⟨gb297, 3, none⟩ = some (.string a0_3) := (blk_cell BK297.out 3).trans rfl; have hcz8_4 : w7.cell? ⟨gb297, 4, none⟩ = some (.string a0_4) := (blk_cell BK297.out 4).trans rfl; have hcz8_5 : w7.cell? ⟨gb297, 5, none⟩ = some (.int .i64 a0_5) := (blk_cell BK297.out 5).trans rfl; have hfz8_0 := blk_frozen BK297.out 0; have hfz8_1 := blk_frozen BK297.out 1; have hfz8_2 := blk_frozen BK297.out 2; have hfz8_3 := blk_frozen BK297.out 3; have hfz8_4 := blk_frozen BK297.out 4; have hfz8_5 := blk_frozen BK297.out 5) | (go_at_call 16; (with_reducible refine (impl_IsValidLog.calls k a0_3 a0_4 a0_5 t299 _ ?side1 A4.out).mono ?_); (case side1 => exact Glob.below HGL.out zq88); rintro e w9 ⟨rfl, hb⟩; have n0_ := am (blk_below (g := gb297) (o := .cells #[.slice A0_0 l0_0.length c0_0, .int .i64 a0_1, .int .i64 a0_2, .string a0_3, .string a0_4, .int .i64 a0_5] 40 (0, 0)) zq92 hb); have n1_ := am (below_step zq88 hb); clear BK297; clear HB; have BK297 := n0_; have HB := n1_; clear n0_ n1_; (try clear hb); (try clear hb2); (try clear hk); (try clear hi)))
  go_ret
  exact ⟨zq2, zq88⟩
 ·replace c3 := Bool.eq_false_iff.mpr c3
  subst c3
  have H1 : (some false) = some r := by rw [if_neg (show ¬ (false = true) by decide)] at H; exact H
  clear H
  have H := H1
  clear H1
  obtain rfl := Option.some.inj H
  go_enter Tryd.func7, Tryd.ntmps7
  go_wp2_with (first | ((with_reducible refine gate_dst (N := 1) rfl ?_); refine box_event ?hg (N := 1) ?hd (cs := #[.slice A0_0 l0_0.length c0_0, .int .i64 a0_1, .int .i64 a0_2, .string a0_3, .string a0_4, .int .i64 a0_5]) (t := 40) ?hr ?_; (case hd => rfl); (case hg => rfl); (case hr => first | (go_simp; done) | (go_simp; rfl)); intro gb297 hg w10 hbox hb; have n0_ := am (below_step zq0 hb); have n1_ := am (hbox); have n2_ := am ((zq4 : w.heap.size ≤ gb297)); have n3_ := am ((zq4 : w.heap.size ≤ gb297)); clear HB; have HB := n0_; have BK297 := n1_; have GW297 := n2_; have GE297 := n3_; clear n0_ n1_ n2_ n3_; clear hb hbox hg; have hcz11_0 : w10.cell? ⟨gb297, 0, none⟩ = some (.slice A0_0 l0_0.length c0_0) := (blk_cell BK297.out 0).trans rfl; have hcz11_1 : w10.cell? ⟨gb297, 1, none⟩ = some (.int .i64 a0_1) := (blk_cell BK297.out 1).trans rfl; have hcz11_2 : w10.cell? ⟨gb297, 2, none⟩ = some (.int .i64 a0_2) := (blk_cell BK297.out 2).trans rfl; have hcz11_3 : w10.cell? ⟨gb297, 3, none⟩ = some (.string a0_3) := (blk_cell BK297.out 3).trans rfl; have hcz11_4 : w10.cell? ⟨gb297, 4, none⟩ = some (.string a0_4) := (blk_cell BK297.out 4).trans rfl; have hcz11_5 : w10.cell? ⟨gb297, 5, none⟩ = some (.int .i64 a0_5) := (blk_cell BK297.out 5).trans rfl; have hfz11_0 := blk_frozen BK297.out 0; have hfz11_1 := blk_frozen BK297.out 1; have hfz11_2 := blk_frozen BK297.out 2; have hfz11_3 := blk_frozen BK297.out 3; have hfz11_4 := blk_frozen BK297.out 4; have hfz11_5 := blk_frozen BK297.out 5) | ((with_reducible refine gate_callee (f := 15) rfl ?_); refine goesL_ (some 5) rfl rfl Tryd.func15 zq21 rfl #[.agg #[.slice A0_0 l0_0.length c0_0, .int .i64 a0_1, .int .i64 a0_2]] rfl zq1 ?_; (with_reducible refine (impl_IsBench.calls _ _ l0_0 a0_1 a0_2 false _ ?side1 ?side2 A2.out).mono ?_); (case side1 => repeat (first | exact (Kd.C_below HR0_0.out HB.out) | (with_reducible refine Kd.C_alloc ?_ _) | (with_reducible refine Kd.C_drewN ?_ _) | (with_reducible refine Kd.C_drew ?_))); (case side2 => exact HC0_0.out); rintro e w12 ⟨rfl, hb⟩; refine ⟨_, rfl, ?_⟩; have n0_ := am (blk_below (g := gb297) (o := .cells #[.slice A0_0 l0_0.length c0_0, .int .i64 a0_1, .int .i64 a0_2, .string a0_3, .string a0_4, .int .i64 a0_5] 40 (0, 0)) zq92 hb); have n1_ := am (below_step zq88 hb); clear BK297; clear HB; have BK297 := n0_; have HB := n1_; clear n0_ n1_; (try clear hb); (try clear hb2); (try clear hk); (try clear hi)))
  go_ret
  exact ⟨zq2, zq88⟩
def laws_eqStep.f (a0_0 : Int) (a0_1 : Int) (a0_2 : Int) (a1_0 : Int) (a1_1 : Int) (a1_2 : Int) : Option (Bool) := if a0_0 = a1_0 then (if a0_1 = a1_1 then (if a0_2 = a1_2 then (some true) else (some false)) else (some false)) else (some false)
set_option maxHeartbeats 8000000 in
set_option maxRecDepth 100000 in
theorem laws_eqStep.calls (a0_0 : Int) (a0_1 : Int) (a0_2 : Int) (a1_0 : Int) (a1_1 : Int) (a1_2 : Int) (r : Bool) (w : World) (h : laws_eqStep.f a0_0 a0_1 a0_2 a1_0 a1_1 a1_2 = some r) :
  Calls Tryd.prog 63 #[.agg #[.int .i64 a0_0, .int .i64 a0_1, .int .i64 a0_2], .agg #[.int .i64 a1_0, .int .i64 a1_1, .int .i64 a1_2]] w fun e w' => e = .returned (.bool r) ∧ Below w.heap.size w w' := by
 have hu66 := Tryd.underlying66
 have HB := am (Below.refl w.heap.size w)
 have H : (if a0_0 = a1_0 then (if a0_1 = a1_1 then (if a0_2 = a1_2 then (some true) else (some false)) else (some false)) else (some false)) = some r := h
 clear h
 by_cases c3 : a0_0 = a1_0
 ·rw [if_pos c3] at H
  have c3b0 : (a0_0 == a1_0) = true := beq_iff_eq.mpr c3
  have c3b1 : (a0_0 != a1_0) = false := bne_eq_false_iff_eq.mpr c3
  clear c3
  by_cases c4 : a0_1 = a1_1
  ·rw [if_pos c4] at H
   have c4b0 : (a0_1 == a1_1) = true := beq_iff_eq.mpr c4
   have c4b1 : (a0_1 != a1_1) = false := bne_eq_false_iff_eq.mpr c4
   clear c4
   by_cases c5 : a0_2 = a1_2
   ·rw [if_pos c5] at H
    have c5b0 : (a0_2 == a1_2) = true := beq_iff_eq.mpr c5
    have c5b1 : (a0_2 != a1_2) = false := bne_eq_false_iff_eq.mpr c5
    clear c5
    obtain rfl := Option.some.inj H
    go_enter Tryd.func63, Tryd.ntmps63
    go_wp2_with (first | ((with_reducible refine gate_dst (N := 2) rfl ?_); refine box_event ?hg (N := 2) ?hd (cs := #[.int .i64 a0_0, .int .i64 a0_1, .int .i64 a0_2]) (t := 66) ?hr ?_; (case hd => rfl); (case hg => rfl); (case hr => first | (go_simp; done) | (go_simp; rfl)); intro gb300 hg w6 hbox hb; have n0_ := am (below_step zq0 hb); have n1_ := am (hbox); have n2_ := am ((zq4 : w.heap.size ≤ gb300)); have n3_ := am ((zq4 : w.heap.size ≤ gb300)); clear HB; have HB := n0_; have BK300 := n1_; have GW300 := n2_; have GE300 := n3_; clear n0_ n1_ n2_ n3_; clear hb hbox hg) | ((with_reducible refine gate_dst (N := 3) rfl ?_); refine box_event ?hg (N := 3) ?hd (cs := #[.int .i64 a1_0, .int .i64 a1_1, .int .i64 a1_2]) (t := 66) ?hr ?_; (case hd => rfl); (case hg => rfl); (case hr => first | (go_simp; done) | (go_simp; rfl)); intro gb301 hg w7 hbox hb; have n0_ := am (blk_below (g := gb300) (o := .cells #[.int .i64 a0_0, .int .i64 a0_1, .int .i64 a0_2] 66 (0, 0)) zq87 hb); have n1_ := am (below_step zq86 hb); have n2_ := am (hbox); have n3_ := am ((zq93 : w.heap.size ≤ gb301)); have n4_ := am ((zq93 : w.heap.size ≤ gb301)); have n5_ := am ((zq90 : gb300 ≠ gb301)); have n6_ := am ((zq91 : gb301 ≠ gb300)); clear BK300; clear HB; have BK300 := n0_; have HB := n1_; have BK301 := n2_; have GW301 := n3_; have GE301 := n4_; have NB300_301 := n5_; have NB301_300 := n6_; clear n0_ n1_ n2_ n3_ n4_ n5_ n6_; clear hb hbox hg; have hnb8 := NB300_301.out; have hnc8 := NB301_300.out; have hcz9_0 : w7.cell? ⟨gb300, 0, none⟩ = some (.int .i64 a0_0) := (blk_cell BK300.out 0).trans rfl; have hcz9_1 : w7.cell? ⟨gb300, 1, none⟩ = some (.int .i64 a0_1) := (blk_cell BK300.out 1).trans rfl; have hcz9_2 : w7.cell? ⟨gb300, 2, none⟩ = some (.int .i64 a0_2) := (blk_cell BK300.out 2).trans rfl; have hfz9_0 := blk_frozen BK300.out 0; have hfz9_1 := blk_frozen BK300.out 1; have hfz9_2 := blk_frozen BK300.out 2; have hcz10_0 : w7.cell? ⟨gb301, 0, none⟩ = some (.int .i64 a1_0) := (blk_cell BK301.out 0).trans rfl; have hcz10_1 : w7.cell? ⟨gb301, 1, none⟩ = some (.int .i64 a1_1) := (blk_cell BK301.out 1).trans rfl; have hcz10_2 : w7.cell? ⟨gb301, 2, none⟩ = some (.int .i64 a1_2) := (blk_cell BK301.out 2).trans rfl; have hfz10_0 := blk_frozen BK301.out 0; have hfz10_1 := blk_frozen BK301.out 1; have hfz10_2 := blk_frozen BK301.out 2))
    go_ret
    exact ⟨zq2, zq89⟩
   ·rw [if_neg c5] at H
    have c5b0 : (a0_2 == a1_2) = false := beq_eq_false_iff_ne.mpr c5
    have c5b1 : (a0_2 != a1_2) = true := bne_iff_ne.mpr c5
    obtain rfl := Option.some.inj H
    go_enter Tryd.func63, Tryd.ntmps63
    go_wp2_with (first | ((with_reducible refine gate_dst (N := 2) rfl ?_); refine box_event ?hg (N := 2) ?hd (cs := #[.int .i64 a0_0, .int .i64 a0_1, .int .i64 a0_2]) (t := 66) ?hr ?_; (case hd => rfl); (case hg => rfl); (case hr => first | (go_simp; done) | (go_simp; rfl)); intro gb300 hg w11 hbox hb; have n0_ := am (below_step zq0 hb); have n1_ := am (hbox); have n2_ := am ((zq4 : w.heap.size ≤ gb300)); have n3_ := am ((zq4 : w.heap.size ≤ gb300)); clear HB; have HB := n0_; have BK300 := n1_; have GW300 := n2_; have GE300 := n3_; clear n0_ n1_ n2_ n3_; clear hb hbox hg) | ((with_reducible refine gate_dst (N := 3) rfl ?_); refine box_event ?hg (N := 3) ?hd (cs := #[.int .i64 a1_0, .int .i64 a1_1, .int .i64 a1_2]) (t := 66) ?hr ?_; (case hd => rfl); (case hg => rfl); (case hr => first | (go_simp; done) | (go_simp; rfl)); intro gb301 hg w12 hbox hb; have n0_ := am (blk_below (g := gb300) (o := .cells #[.int .i64 a0_0, .int .i64 a0_1, .int .i64 a0_2] 66 (0, 0)) zq87 hb); have n1_ := am (below_step zq86 hb); have n2_ := am (hbox); have n3_ := am ((zq93 : w.heap.size ≤ gb301)); have n4_ := am ((zq93 : w.heap.size ≤ gb301)); have n5_ := am ((zq90 : gb300 ≠ gb301)); have n6_ := am ((zq91 : gb301 ≠ gb300)); clear BK300; clear HB; have BK300 := n0_; have HB := n1_; have BK301 := n2_; have GW301 := n3_; have GE301 := n4_; have NB300_301 := n5_; have NB301_300 := n6_; clear n0_ n1_ n2_ n3_ n4_ n5_ n6_; clear hb hbox hg; have hnb13 := NB300_301.out; have hnc13 := NB301_300.out; have hcz14_0 : w12.cell? ⟨gb300, 0, none⟩ = some (.int .i64 a0_0) := (blk_cell BK300.out 0).trans rfl; have hcz14_1 : w12.cell? ⟨gb300, 1, none⟩ = some (.int .i64 a0_1) := (blk_cell BK300.out 1).trans rfl; have hcz14_2 : w12.cell? ⟨gb300, 2, none⟩ = some (.int .i64 a0_2) := (blk_cell BK300.out 2).trans rfl; have hfz14_0 := blk_frozen BK300.out 0; have hfz14_1 := blk_frozen BK300.out 1; have hfz14_2 := blk_frozen BK300.out 2; have hcz15_0 : w12.cell? ⟨gb301, 0, none⟩ = some (.int .i64 a1_0) := (blk_cell BK301.out 0).trans rfl; have hcz15_1 : w12.cell? ⟨gb301, 1, none⟩ = some (.int .i64 a1_1) := (blk_cell BK301.out 1).trans rfl; have hcz15_2 : w12.cell? ⟨gb301, 2, none⟩ = some (.int .i64 a1_2) := (blk_cell BK301.out 2).trans rfl; have hfz15_0 := blk_frozen BK301.out 0; have hfz15_1 := blk_frozen BK301.out 1; have hfz15_2 := blk_frozen BK301.out 2))
    go_ret
    exact ⟨zq2, zq89⟩
  ·rw [if_neg c4] at H
   have c4b0 : (a0_1 == a1_1) = false := beq_eq_false_iff_ne.mpr c4
   have c4b1 : (a0_1 != a1_1) = true := bne_iff_ne.mpr c4
   obtain rfl := Option.some.inj H
   go_enter Tryd.func63, Tryd.ntmps63
   go_wp2_with (first | ((with_reducible refine gate_dst (N := 2) rfl ?_); refine box_event ?hg (N := 2) ?hd (cs := #[.int .i64 a0_0, .int .i64 a0_1, .int .i64 a0_2]) (t := 66) ?hr ?_; (case hd => rfl); (case hg => rfl); (case hr => first | (go_simp; done) | (go_simp; rfl)); intro gb300 hg w16 hbox hb; have n0_ := am (below_step zq0 hb); have n1_ := am (hbox); have n2_ := am ((zq4 : w.heap.size ≤ gb300)); have n3_ := am ((zq4 : w.heap.size ≤ gb300)); clear HB; have HB := n0_; have BK300 := n1_; have GW300 := n2_; have GE300 := n3_; clear n0_ n1_ n2_ n3_; clear hb hbox hg) | ((with_reducible refine gate_dst (N := 3) rfl ?_); refine box_event ?hg (N := 3) ?hd (cs := #[.int .i64 a1_0, .int .i64 a1_1, .int .i64 a1_2]) (t := 66) ?hr ?_; (case hd => rfl); (case hg => rfl); (case hr => first | (go_simp; done) | (go_simp; rfl)); intro gb301 hg w17 hbox hb; have n0_ := am (blk_below (g := gb300) (o := .cells #[.int .i64 a0_0, .int .i64 a0_1, .int .i64 a0_2] 66 (0, 0)) zq87 hb); have n1_ := am (below_step zq86 hb); have n2_ := am (hbox); have n3_ := am ((zq93 : w.heap.size ≤ gb301)); have n4_ := am ((zq93 : w.heap.size ≤ gb301)); have n5_ := am ((zq90 : gb300 ≠ gb301)); have n6_ := am ((zq91 : gb301 ≠ gb300)); clear BK300; clear HB; have BK300 := n0_; have HB := n1_; have BK301 := n2_; have GW301 := n3_; have GE301 := n4_; have NB300_301 := n5_; have NB301_300 := n6_; clear n0_ n1_ n2_ n3_ n4_ n5_ n6_; clear hb hbox hg; have hnb18 := NB300_301.out; have hnc18 := NB301_300.out; have hcz19_0 : w17.cell? ⟨gb300, 0, none⟩ = some (.int .i64 a0_0) := (blk_cell BK300.out 0).trans rfl; have hcz19_1 : w17.cell? ⟨gb300, 1, none⟩ = some (.int .i64 a0_1) := (blk_cell BK300.out 1).trans rfl; have hcz19_2 : w17.cell? ⟨gb300, 2, none⟩ = some (.int .i64 a0_2) := (blk_cell BK300.out 2).trans rfl; have hfz19_0 := blk_frozen BK300.out 0; have hfz19_1 := blk_frozen BK300.out 1; have hfz19_2 := blk_frozen BK300.out 2; have hcz20_0 : w17.cell? ⟨gb301, 0, none⟩ = some (.int .i64 a1_0) := (blk_cell BK301.out 0).trans rfl; have hcz20_1 : w17.cell? ⟨gb301, 1, none⟩ = some (.int .i64 a1_1) := (blk_cell BK301.out 1).trans rfl; have hcz20_2 : w17.cell? ⟨gb301, 2, none⟩ = some (.int .i64 a1_2) := (blk_cell BK301.out 2).trans rfl; have hfz20_0 := blk_frozen BK301.out 0; have hfz20_1 := blk_frozen BK301.out 1; have hfz20_2 := blk_frozen BK301.out 2))
   go_ret
   exact ⟨zq2, zq89⟩
 ·rw [if_neg c3] at H
  have c3b0 : (a0_0 == a1_0) = false := beq_eq_false_iff_ne.mpr c3
  have c3b1 : (a0_0 != a1_0) = true := bne_iff_ne.mpr c3
  obtain rfl := Option.some.inj H
  go_enter Tryd.func63, Tryd.ntmps63
  go_wp2_with (first | ((with_reducible refine gate_dst (N := 2) rfl ?_); refine box_event ?hg (N := 2) ?hd (cs := #[.int .i64 a0_0, .int .i64 a0_1, .int .i64 a0_2]) (t := 66) ?hr ?_; (case hd => rfl); (case hg => rfl); (case hr => first | (go_simp; done) | (go_simp; rfl)); intro gb300 hg w21 hbox hb; have n0_ := am (below_step zq0 hb); have n1_ := am (hbox); have n2_ := am ((zq4 : w.heap.size ≤ gb300)); have n3_ := am ((zq4 : w.heap.size ≤ gb300)); clear HB; have HB := n0_; have BK300 := n1_; have GW300 := n2_; have GE300 := n3_; clear n0_ n1_ n2_ n3_; clear hb hbox hg) | ((with_reducible refine gate_dst (N := 3) rfl ?_); refine box_event ?hg (N := 3) ?hd (cs := #[.int .i64 a1_0, .int .i64 a1_1, .int .i64 a1_2]) (t := 66) ?hr ?_; (case hd => rfl); (case hg => rfl); (case hr => first | (go_simp; done) | (go_simp; rfl)); intro gb301 hg w22 hbox hb; have n0_ := am (blk_below (g := gb300) (o := .cells #[.int .i64 a0_0, .int .i64 a0_1, .int .i64 a0_2] 66 (0, 0)) zq87 hb); have n1_ := am (below_step zq86 hb); have n2_ := am (hbox); have n3_ := am ((zq93 : w.heap.size ≤ gb301)); have n4_ := am ((zq93 : w.heap.size ≤ gb301)); have n5_ := am ((zq90 : gb300 ≠ gb301)); have n6_ := am ((zq91 : gb301 ≠ gb300)); clear BK300; clear HB; have BK300 := n0_; have HB := n1_; have BK301 := n2_; have GW301 := n3_; have GE301 := n4_; have NB300_301 := n5_; have NB301_300 := n6_; clear n0_ n1_ n2_ n3_ n4_ n5_ n6_; clear hb hbox hg; have hnb23 := NB300_301.out; have hnc23 := NB301_300.out; have hcz24_0 : w22.cell? ⟨gb300, 0, none⟩ = some (.int .i64 a0_0) := (blk_cell BK300.out 0).trans rfl; have hcz24_1 : w22.cell? ⟨gb300, 1, none⟩ = some (.int .i64 a0_1) := (blk_cell BK300.out 1).trans rfl; have hcz24_2 : w22.cell? ⟨gb300, 2, none⟩ = some (.int .i64 a0_2) := (blk_cell BK300.out 2).trans rfl; have hfz24_0 := blk_frozen BK300.out 0; have hfz24_1 := blk_frozen BK300.out 1; have hfz24_2 := blk_frozen BK300.out 2; have hcz25_0 : w22.cell? ⟨gb301, 0, none⟩ = some (.int .i64 a1_0) := (blk_cell BK301.out 0).trans rfl; have hcz25_1 : w22.cell? ⟨gb301, 1, none⟩ = some (.int .i64 a1_1) := (blk_cell BK301.out 1).trans rfl; have hcz25_2 : w22.cell? ⟨gb301, 2, none⟩ = some (.int .i64 a1_2) := (blk_cell BK301.out 2).trans rfl; have hfz25_0 := blk_frozen BK301.out 0; have hfz25_1 := blk_frozen BK301.out 1; have hfz25_2 := blk_frozen BK301.out 2))
  go_ret
  exact ⟨zq2, zq89⟩
def laws_eqStepS.l0 : Nat → List (S66) → List (S66) → Int → Option (Bool)
 | 0, _, _, _ => none
 | k + 1, x0, x1, x5 => if x5 < (x0.length : Int) then (if 0 ≤ x5 then (if x5 < (x1.length : Int) then ((laws_eqStep.f ((rd_T66 x0 x5).f0) ((rd_T66 x0 x5).f1) ((rd_T66 x0 x5).f2) ((rd_T66 x1 x5).f0) ((rd_T66 x1 x5).f1) ((rd_T66 x1 x5).f2)).bind fun t304 => (if t304 = true then (laws_eqStepS.l0 k x0 x1 (wrap64 (x5 + 1))) else (some false))) else (none)) else (none)) else (some true)
def laws_eqStepS.f (k : Nat) (l0 : List (S66)) (l1 : List (S66)) : Option (Bool) := if (l0.length : Int) = (l1.length : Int) then (laws_eqStepS.l0 k l0 l1 0) else (some false)
def laws_eqStepS.T6 : Bool × List (List Nat × List Nat) := (true, [([], []), ([], []), ([0, 1], [0, 1]), ([2], [2]), ([], []), ([], []), ([4, 5], [4, 5]), ([6], [6]), ([3, 7], [3, 7]), ([8], [8])])
def laws_eqStepS.B6 : List Nat := [0, 0, 3, 7, 0, 0, 48, 112, 255, 511]
theorem laws_eqStepS.tab6 : rtab .any (opsOf Tryd.f54 6) = laws_eqStepS.T6 := by kernel_rfl
theorem laws_eqStepS.bits6 : waitsOk laws_eqStepS.T6.2 laws_eqStepS.B6 = true := by kernel_rfl
set_option maxHeartbeats 8000000 in
set_option maxRecDepth 100000 in
theorem laws_eqStepS.calls (k : Nat) (A0 : Option Addr) (c0 : Nat) (l0 : List (S66)) (A1 : Option Addr) (c1 : Nat) (l1 : List (S66)) (r : Bool) (w : World) (hr0 : Kd.C k66 w A0 l0.length l0) (hc0 : l0.length ≤ c0) (hr1 : Kd.C k66 w A1 l1.length l1) (hc1 : l1.length ≤ c1) (h : laws_eqStepS.f k l0 l1 = some r) :
  Calls Tryd.prog 54 #[.slice A0 l0.length c0, .slice A1 l1.length c1] w fun e w' => e = .returned (.bool r) ∧ Below w.heap.size w w' := by
 have hu66 := Tryd.underlying66
 have HR0 := am hr0
 have HC0 := am hc0
 clear hr0 hc0
 have HR1 := am hr1
 have HC1 := am hc1
 clear hr1 hc1
 have HB := am (Below.refl w.heap.size w)
 have H : (if (l0.length : Int) = (l1.length : Int) then (laws_eqStepS.l0 k l0 l1 0) else (some false)) = some r := h
 clear h
 by_cases c3 : (l0.length : Int) = (l1.length : Int)
 ·rw [if_pos c3] at H
  have c3b0 : ((l0.length : Int) == (l1.length : Int)) = true := beq_iff_eq.mpr c3
  have c3b1 : ((l0.length : Int) != (l1.length : Int)) = false := bne_eq_false_iff_eq.mpr c3
  have c3b2 : (l0.length == l1.length) = true := by first | simpa using c3 | (simp at c3 ⊢; omega)
  clear c3
  have H' := am H
  clear H
  go_enter Tryd.func54, Tryd.ntmps54
  go_wp2
  go_loopg [5] k (fun kq v5 w' => ∃ (x5_1 : Int), v5 = .int .i64 x5_1 ∧ Aside0 (laws_eqStepS.l0 kq l0 l1 x5_1 = some r) ∧ Aside0 (kq ≤ k) ∧ Aside0 (Below w.heap.size w w'))
  case atStart => exact ⟨(0), zq5, H', ⟨Nat.le_refl _⟩, ⟨zq0⟩⟩
  case round =>
   clear H'
   try clear c1
   try clear p2
   try clear c3
   try clear c3b0
   try clear c3b1
   try clear c3b2
   obtain ⟨x5_1, rfl, HA, HK1, HB⟩ := hrel
   cases gk with
   | zero => exact absurd HA.out (by simp [laws_eqStepS.l0])
   | succ k1 =>
    have H := HA.out
    clear HA
    simp only [laws_eqStepS.l0] at H
    by_cases c4 : x5_1 < (l0.length : Int)
    ·rw [if_pos c4] at H
     have c4b0 : decide (x5_1 < (l0.length : Int)) = true := decide_eq_true c4
     clear c4
     by_cases c5 : 0 ≤ x5_1
     ·rw [if_pos c5] at H
      have c5b0 : decide (0 ≤ x5_1) = true := decide_eq_true c5
      clear c5
      by_cases c6 : x5_1 < (l1.length : Int)
      ·rw [if_pos c6] at H
       have c6b0 : decide (x5_1 < (l1.length : Int)) = true := decide_eq_true c6
       clear c6
       replace H := bem H
       obtain ⟨t304, A70, H⟩ := H
       replace H : (if t304 = true then (laws_eqStepS.l0 k1 l0 l1 (wrap64 (x5_1 + 1))) else (some false)) = some r := H
       have A7 := am A70
       clear A70
       by_cases c8 : t304 = true
       ·subst c8
        have H1 : (laws_eqStepS.l0 k1 l0 l1 (wrap64 (x5_1 + 1))) = some r := by rw [if_pos rfl] at H; exact H
        clear H
        have H := H1
        clear H1
        have H' := am H
        clear H
        try go_wp2
        have n0_ := am (below_drew1 HB.out)
        clear HB
        have HB := n0_
        clear n0_
        have p302 : 0 ≤ (x5_1 : Int) := of_decide_eq_true zq19
        have q302 : x5_1 < (l0.length : Int) := of_decide_eq_true zq19
        obtain ⟨ad302, e302, hx302_0, hx302_1, hx302_2⟩ := at_T66 HR0.out x5_1 p302 q302
        have hw302_2 := hx302_2
        have hw302_1 := hx302_1
        have hw302_0 := hx302_0
        cases e302
        replace hx302_0 := (HB.out.cell (World.block_lt_of_cell? w _ hx302_0)).trans hx302_0
        replace hx302_1 := (HB.out.cell (World.block_lt_of_cell? w _ hx302_1)).trans hx302_1
        replace hx302_2 := (HB.out.cell (World.block_lt_of_cell? w _ hx302_2)).trans hx302_2
        replace p302 := eq_true p302
        replace q302 := eq_true q302
        have p303 : 0 ≤ (x5_1 : Int) := of_decide_eq_true zq19
        have q303 : x5_1 < (l1.length : Int) := of_decide_eq_true zq19
        obtain ⟨ad303, e303, hx303_0, hx303_1, hx303_2⟩ := at_T66 HR1.out x5_1 p303 q303
        have hw303_2 := hx303_2
        have hw303_1 := hx303_1
        have hw303_0 := hx303_0
        cases e303
        replace hx303_0 := (HB.out.cell (World.block_lt_of_cell? w _ hx303_0)).trans hx303_0
        replace hx303_1 := (HB.out.cell (World.block_lt_of_cell? w _ hx303_1)).trans hx303_1
        replace hx303_2 := (HB.out.cell (World.block_lt_of_cell? w _ hx303_2)).trans hx303_2
        replace p303 := eq_true p303
        replace q303 := eq_true q303
        refine start_ (n := 10) (S := fun w' => w'.cell? (ad302.add ((x5_1).toNat * 3)) = some (.int .i64 ((rd_T66 l0 x5_1).f0)) ∧ w'.cell? ⟨(ad302.add ((x5_1).toNat * 3)).block, (ad302.add ((x5_1).toNat * 3)).off + 1, none⟩ = some (.int .i64 ((rd_T66 l0 x5_1).f1)) ∧ w'.cell? ⟨(ad302.add ((x5_1).toNat * 3)).block, (ad302.add ((x5_1).toNat * 3)).off + 2, none⟩ = some (.int .i64 ((rd_T66 l0 x5_1).f2)) ∧ w'.cell? (ad303.add ((x5_1).toNat * 3)) = some (.int .i64 ((rd_T66 l1 x5_1).f0)) ∧ w'.cell? ⟨(ad303.add ((x5_1).toNat * 3)).block, (ad303.add ((x5_1).toNat * 3)).off + 1, none⟩ = some (.int .i64 ((rd_T66 l1 x5_1).f1)) ∧ w'.cell? ⟨(ad303.add ((x5_1).toNat * 3)).block, (ad303.add ((x5_1).toNat * 3)).off + 2, none⟩ = some (.int .i64 ((rd_T66 l1 x5_1).f2))) (ds := []) #[false, false, false, false, false, false, false, false, false, false] zq21 rfl rfl ⟨((HB.out.cell (World.block_lt_of_cell? w _ hw302_0)).trans hw302_0), ((HB.out.cell (World.block_lt_of_cell? w _ hw302_1)).trans hw302_1), ((HB.out.cell (World.block_lt_of_cell? w _ hw302_2)).trans hw302_2), ((HB.out.cell (World.block_lt_of_cell? w _ hw303_0)).trans hw303_0), ((HB.out.cell (World.block_lt_of_cell? w _ hw303_1)).trans hw303_1), ((HB.out.cell (World.block_lt_of_cell? w _ hw303_2)).trans hw303_2)⟩ (fun hHeld => ?_); refine with_tabW laws_eqStepS.tab6 laws_eqStepS.bits6 (fun HT_ HW_ => ?_)
        generalize wr.drew = w9 at HB hx302_0 hx302_1 hx302_2 hx303_0 hx303_1 hx303_2 hHeld ⊢
        refine pure_ (i := 0) (N := some 17) (v := ?_) (a' := ?_) #[true, false, false, false, false, false, false, false, false, false] rfl rfl (any_of HT_.out zq21) (fun _ _ _ h => h) (Or.inl ⟨by rfl, ?_⟩) ?_ ?_
        rotate_left
        ·intro w'
         go_simp
         with_reducible rfl
        rotate_left
        ·simp only [Act.put, List.setIfInBounds_toArray, List.set_cons_zero, List.set_cons_succ, i64_w, i32_w]
         rfl
        refine pure_ (i := 1) (N := some 18) (v := ?_) (a' := ?_) #[true, true, false, false, false, false, false, false, false, false] rfl rfl (any_of HT_.out zq21) (fun _ _ _ h => h) (Or.inl ⟨by rfl, ?_⟩) ?_ ?_
        rotate_left
        ·intro w'
         go_simp
         with_reducible rfl
        rotate_left
        ·simp only [Act.put, List.setIfInBounds_toArray, List.set_cons_zero, List.set_cons_succ, i64_w, i32_w]
         rfl
        refine pure_ (i := 2) (N := some 19) (v := ?_) (a' := ?_) #[true, true, true, false, false, false, false, false, false, false] rfl rfl (any_of HT_.out zq21) (fun _ _ _ h => h) (Or.inl ⟨by rfl, ?_⟩) ?_ ?_
        rotate_left
        ·intro w'
         go_simp
         with_reducible rfl
        rotate_left
        ·simp only [Act.put, List.setIfInBounds_toArray, List.set_cons_zero, List.set_cons_succ, i64_w, i32_w]
         rfl
        refine pure_ (i := 4) (N := some 21) (v := ?_) (a' := ?_) #[true, true, true, false, true, false, false, false, false, false] rfl rfl (any_of HT_.out zq21) (fun _ _ _ h => h) (Or.inl ⟨by rfl, ?_⟩) ?_ ?_
        rotate_left
        ·intro w'
         go_simp
         with_reducible rfl
        rotate_left
        ·simp only [Act.put, List.setIfInBounds_toArray, List.set_cons_zero, List.set_cons_succ, i64_w, i32_w]
         rfl
        refine pure_ (i := 5) (N := some 22) (v := ?_) (a' := ?_) #[true, true, true, false, true, true, false, false, false, false] rfl rfl (any_of HT_.out zq21) (fun _ _ _ h => h) (Or.inl ⟨by rfl, ?_⟩) ?_ ?_
        rotate_left
        ·intro w'
         go_simp
         with_reducible rfl
        rotate_left
        ·simp only [Act.put, List.setIfInBounds_toArray, List.set_cons_zero, List.set_cons_succ, i64_w, i32_w]
         rfl
        refine pure_ (i := 6) (N := some 23) (v := ?_) (a' := ?_) #[true, true, true, false, true, true, true, false, false, false] rfl rfl (any_of HT_.out zq21) (fun _ _ _ h => h) (Or.inl ⟨by rfl, ?_⟩) ?_ ?_
        rotate_left
        ·intro w'
         go_simp
         with_reducible rfl
        rotate_left
        ·simp only [Act.put, List.setIfInBounds_toArray, List.set_cons_zero, List.set_cons_succ, i64_w, i32_w]
         rfl
        refine take_ (i := 3) (N := some 20) (v := ?_) (a' := ?_) #[true, true, true, true, true, true, true, false, false, false] rfl rfl (take_ofW HT_.out HW_.out zq21) (fun _ _ _ h => h) (Or.inl ⟨by rfl, ?_⟩) hHeld ?_ ?_
        rotate_left
        ·rintro w' ⟨s0, s1, s2, s3, s4, s5⟩
         go_simp
         with_reducible rfl
        rotate_left
        ·simp only [Act.put, List.setIfInBounds_toArray, List.set_cons_zero, List.set_cons_succ, i64_w, i32_w]
         rfl
        refine take_ (i := 7) (N := some 24) (v := ?_) (a' := ?_) #[true, true, true, true, true, true, true, true, false, false] rfl rfl (take_ofW HT_.out HW_.out zq21) (fun _ _ _ h => h) (Or.inl ⟨by rfl, ?_⟩) hHeld ?_ ?_
        rotate_left
        ·rintro w' ⟨s0, s1, s2, s3, s4, s5⟩
         go_simp
         with_reducible rfl
        rotate_left
        ·simp only [Act.put, List.setIfInBounds_toArray, List.set_cons_zero, List.set_cons_succ, i64_w, i32_w]
         rfl
        refine one_ (i := 8) (N := some 25) #[true, true, true, true, true, true, true, true, true, false] rfl rfl (one_of HT_.out zq21) zq146 (fun K hK => ?_)
        refine goes_ Tryd.func63 zq21 rfl #[.agg #[.int .i64 ((rd_T66 l0 x5_1).f0), .int .i64 ((rd_T66 l0 x5_1).f1), .int .i64 ((rd_T66 l0 x5_1).f2)], .agg #[.int .i64 ((rd_T66 l1 x5_1).f0), .int .i64 ((rd_T66 l1 x5_1).f1), .int .i64 ((rd_T66 l1 x5_1).f2)]] (by rfl) rfl rfl zq1 ?_
        with_reducible refine (laws_eqStep.calls ((rd_T66 l0 x5_1).f0) ((rd_T66 l0 x5_1).f1) ((rd_T66 l0 x5_1).f2) ((rd_T66 l1 x5_1).f0) ((rd_T66 l1 x5_1).f1) ((rd_T66 l1 x5_1).f2) true _ A7.out).mono ?_
        rintro e w10 ⟨rfl, hb⟩
        refine ⟨_, rfl, ?_⟩
        have n0_ := am (below_step zq0 hb)
        clear HB
        have HB := n0_
        clear n0_
        (try clear hb)
        (try clear hb2)
        (try clear hk)
        (try clear hi)
        refine hK.out _ _ ⟨((HB.out.cell (World.block_lt_of_cell? w _ hw302_0)).trans hw302_0), ((HB.out.cell (World.block_lt_of_cell? w _ hw302_1)).trans hw302_1), ((HB.out.cell (World.block_lt_of_cell? w _ hw302_2)).trans hw302_2), ((HB.out.cell (World.block_lt_of_cell? w _ hw303_0)).trans hw303_0), ((HB.out.cell (World.block_lt_of_cell? w _ hw303_1)).trans hw303_1), ((HB.out.cell (World.block_lt_of_cell? w _ hw303_2)).trans hw303_2)⟩ (fun hHeld => ?_)
        clear hK K
        refine norm_ (a' := ?_) ?_ ?_
        rotate_left
        ·show Act.put _ (some 25) _ = _
         simp only [Act.put, List.setIfInBounds_toArray, List.set_cons_zero, List.set_cons_succ, i64_w, i32_w]
         rfl
        refine pure_ (i := 9) (N := some 26) (v := ?_) (a' := ?_) #[true, true, true, true, true, true, true, true, true, true] rfl rfl (any_of HT_.out zq21) (fun _ _ _ h => h) (Or.inl ⟨by rfl, ?_⟩) ?_ ?_
        rotate_left
        ·intro w'
         go_simp
         with_reducible rfl
        rotate_left
        ·simp only [Act.put, List.setIfInBounds_toArray, List.set_cons_zero, List.set_cons_succ, i64_w, i32_w]
         rfl
        refine done_ (done_of HT_.out zq21) ?_
        try go_wp2
        go_roundg k1
        case measure => have := HK1.out; omega
        case rel => exact ⟨(wrap64 (x5_1 + 1)), zq5, H', ⟨zq129⟩, ⟨zq0⟩⟩
       ·replace c8 := Bool.eq_false_iff.mpr c8
        subst c8
        have H1 : (some false) = some r := by rw [if_neg (show ¬ (false = true) by decide)] at H; exact H
        clear H
        have H := H1
        clear H1
        obtain rfl := Option.some.inj H
        try go_wp2
        have n0_ := am (below_drew1 HB.out)
        clear HB
        have HB := n0_
        clear n0_
        have p302 : 0 ≤ (x5_1 : Int) := of_decide_eq_true zq19
        have q302 : x5_1 < (l0.length : Int) := of_decide_eq_true zq19
        obtain ⟨ad302, e302, hx302_0, hx302_1, hx302_2⟩ := at_T66 HR0.out x5_1 p302 q302
        have hw302_2 := hx302_2
        have hw302_1 := hx302_1
        have hw302_0 := hx302_0
        cases e302
        replace hx302_0 := (HB.out.cell (World.block_lt_of_cell? w _ hx302_0)).trans hx302_0
        replace hx302_1 := (HB.out.cell (World.block_lt_of_cell? w _ hx302_1)).trans hx302_1
        replace hx302_2 := (HB.out.cell (World.block_lt_of_cell? w _ hx302_2)).trans hx302_2
        replace p302 := eq_true p302
        replace q302 := eq_true q302
        have p303 : 0 ≤ (x5_1 : Int) := of_decide_eq_true zq19
        have q303 : x5_1 < (l1.length : Int) := of_decide_eq_true zq19
        obtain ⟨ad303, e303, hx303_0, hx303_1, hx303_2⟩ := at_T66 HR1.out x5_1 p303 q303
        have hw303_2 := hx303_2
        have hw303_1 := hx303_1
        have hw303_0 := hx303_0
        cases e303
        replace hx303_0 := (HB.out.cell (World.block_lt_of_cell? w _ hx303_0)).trans hx303_0
        replace hx303_1 := (HB.out.cell (World.block_lt_of_cell? w _ hx303_1)).trans hx303_1
        replace hx303_2 := (HB.out.cell (World.block_lt_of_cell? w _ hx303_2)).trans hx303_2
        replace p303 := eq_true p303
        replace q303 := eq_true q303
        refine start_ (n := 10) (S := fun w' => w'.cell? (ad302.add ((x5_1).toNat * 3)) = some (.int .i64 ((rd_T66 l0 x5_1).f0)) ∧ w'.cell? ⟨(ad302.add ((x5_1).toNat * 3)).block, (ad302.add ((x5_1).toNat * 3)).off + 1, none⟩ = some (.int .i64 ((rd_T66 l0 x5_1).f1)) ∧ w'.cell? ⟨(ad302.add ((x5_1).toNat * 3)).block, (ad302.add ((x5_1).toNat * 3)).off + 2, none⟩ = some (.int .i64 ((rd_T66 l0 x5_1).f2)) ∧ w'.cell? (ad303.add ((x5_1).toNat * 3)) = some (.int .i64 ((rd_T66 l1 x5_1).f0)) ∧ w'.cell? ⟨(ad303.add ((x5_1).toNat * 3)).block, (ad303.add ((x5_1).toNat * 3)).off + 1, none⟩ = some (.int .i64 ((rd_T66 l1 x5_1).f1)) ∧ w'.cell? ⟨(ad303.add ((x5_1).toNat * 3)).block, (ad303.add ((x5_1).toNat * 3)).off + 2, none⟩ = some (.int .i64 ((rd_T66 l1 x5_1).f2))) (ds := []) #[false, false, false, false, false, false, false, false, false, false] zq21 rfl rfl ⟨((HB.out.cell (World.block_lt_of_cell? w _ hw302_0)).trans hw302_0), ((HB.out.cell (World.block_lt_of_cell? w _ hw302_1)).trans hw302_1), ((HB.out.cell (World.block_lt_of_cell? w _ hw302_2)).trans hw302_2), ((HB.out.cell (World.block_lt_of_cell? w _ hw303_0)).trans hw303_0), ((HB.out.cell (World.block_lt_of_cell? w _ hw303_1)).trans hw303_1), ((HB.out.cell (World.block_lt_of_cell? w _ hw303_2)).trans hw303_2)⟩ (fun hHeld => ?_); refine with_tabW laws_eqStepS.tab6 laws_eqStepS.bits6 (fun HT_ HW_ => ?_)
        generalize wr.drew = w11 at HB hx302_0 hx302_1 hx302_2 hx303_0 hx303_1 hx303_2 hHeld ⊢
        refine pure_ (i := 0) (N := some 17) (v := ?_) (a' := ?_) #[true, false, false, false, false, false, false, false, false, false] rfl rfl (any_of HT_.out zq21) (fun _ _ _ h => h) (Or.inl ⟨by rfl, ?_⟩) ?_ ?_
        rotate_left
        ·intro w'
         go_simp
         with_reducible rfl
        rotate_left
        ·simp only [Act.put, List.setIfInBounds_toArray, List.set_cons_zero, List.set_cons_succ, i64_w, i32_w]
         rfl
        refine pure_ (i := 1) (N := some 18) (v := ?_) (a' := ?_) #[true, true, false, false, false, false, false, false, false, false] rfl rfl (any_of HT_.out zq21) (fun _ _ _ h => h) (Or.inl ⟨by rfl, ?_⟩) ?_ ?_
        rotate_left
        ·intro w'
         go_simp
         with_reducible rfl
        rotate_left
        ·simp only [Act.put, List.setIfInBounds_toArray, List.set_cons_zero, List.set_cons_succ, i64_w, i32_w]
         rfl
        refine pure_ (i := 2) (N := some 19) (v := ?_) (a' := ?_) #[true, true, true, false, false, false, false, false, false, false] rfl rfl (any_of HT_.out zq21) (fun _ _ _ h => h) (Or.inl ⟨by rfl, ?_⟩) ?_ ?_
        rotate_left
        ·intro w'
         go_simp
         with_reducible rfl
        rotate_left
        ·simp only [Act.put, List.setIfInBounds_toArray, List.set_cons_zero, List.set_cons_succ, i64_w, i32_w]
         rfl
        refine pure_ (i := 4) (N := some 21) (v := ?_) (a' := ?_) #[true, true, true, false, true, false, false, false, false, false] rfl rfl (any_of HT_.out zq21) (fun _ _ _ h => h) (Or.inl ⟨by rfl, ?_⟩) ?_ ?_
        rotate_left
        ·intro w'
         go_simp
         with_reducible rfl
        rotate_left
        ·simp only [Act.put, List.setIfInBounds_toArray, List.set_cons_zero, List.set_cons_succ, i64_w, i32_w]
         rfl
        refine pure_ (i := 5) (N := some 22) (v := ?_) (a' := ?_) #[true, true, true, false, true, true, false, false, false, false] rfl rfl (any_of HT_.out zq21) (fun _ _ _ h => h) (Or.inl ⟨by rfl, ?_⟩) ?_ ?_
        rotate_left
        ·intro w'
         go_simp
         with_reducible rfl
        rotate_left
        ·simp only [Act.put, List.setIfInBounds_toArray, List.set_cons_zero, List.set_cons_succ, i64_w, i32_w]
         rfl
        refine pure_ (i := 6) (N := some 23) (v := ?_) (a' := ?_) #[true, true, true, false, true, true, true, false, false, false] rfl rfl (any_of HT_.out zq21) (fun _ _ _ h => h) (Or.inl ⟨by rfl, ?_⟩) ?_ ?_
        rotate_left
        ·intro w'
         go_simp
         with_reducible rfl
        rotate_left
        ·simp only [Act.put, List.setIfInBounds_toArray, List.set_cons_zero, List.set_cons_succ, i64_w, i32_w]
         rfl
        refine take_ (i := 3) (N := some 20) (v := ?_) (a' := ?_) #[true, true, true, true, true, true, true, false, false, false] rfl rfl (take_ofW HT_.out HW_.out zq21) (fun _ _ _ h => h) (Or.inl ⟨by rfl, ?_⟩) hHeld ?_ ?_
        rotate_left
        ·rintro w' ⟨s0, s1, s2, s3, s4, s5⟩
         go_simp
         with_reducible rfl
        rotate_left
        ·simp only [Act.put, List.setIfInBounds_toArray, List.set_cons_zero, List.set_cons_succ, i64_w, i32_w]
         rfl
        refine take_ (i := 7) (N := some 24) (v := ?_) (a' := ?_) #[true, true, true, true, true, true, true, true, false, false] rfl rfl (take_ofW HT_.out HW_.out zq21) (fun _ _ _ h => h) (Or.inl ⟨by rfl, ?_⟩) hHeld ?_ ?_
        rotate_left
        ·rintro w' ⟨s0, s1, s2, s3, s4, s5⟩
         go_simp
         with_reducible rfl
        rotate_left
        ·simp only [Act.put, List.setIfInBounds_toArray, List.set_cons_zero, List.set_cons_succ, i64_w, i32_w]
         rfl
        refine one_ (i := 8) (N := some 25) #[true, true, true, true, true, true, true, true, true, false] rfl rfl (one_of HT_.out zq21) zq146 (fun K hK => ?_)
        refine goes_ Tryd.func63 zq21 rfl #[.agg #[.int .i64 ((rd_T66 l0 x5_1).f0), .int .i64 ((rd_T66 l0 x5_1).f1), .int .i64 ((rd_T66 l0 x5_1).f2)], .agg #[.int .i64 ((rd_T66 l1 x5_1).f0), .int .i64 ((rd_T66 l1 x5_1).f1), .int .i64 ((rd_T66 l1 x5_1).f2)]] (by rfl) rfl rfl zq1 ?_
        with_reducible refine (laws_eqStep.calls ((rd_T66 l0 x5_1).f0) ((rd_T66 l0 x5_1).f1) ((rd_T66 l0 x5_1).f2) ((rd_T66 l1 x5_1).f0) ((rd_T66 l1 x5_1).f1) ((rd_T66 l1 x5_1).f2) false _ A7.out).mono ?_
        rintro e w12 ⟨rfl, hb⟩
        refine ⟨_, rfl, ?_⟩
        have n0_ := am (below_step zq0 hb)
        clear HB
        have HB := n0_
        clear n0_
        (try clear hb)
        (try clear hb2)
        (try clear hk)
        (try clear hi)
        refine hK.out _ _ ⟨((HB.out.cell (World.block_lt_of_cell? w _ hw302_0)).trans hw302_0), ((HB.out.cell (World.block_lt_of_cell? w _ hw302_1)).trans hw302_1), ((HB.out.cell (World.block_lt_of_cell? w _ hw302_2)).trans hw302_2), ((HB.out.cell (World.block_lt_of_cell? w _ hw303_0)).trans hw303_0), ((HB.out.cell (World.block_lt_of_cell? w _ hw303_1)).trans hw303_1), ((HB.out.cell (World.block_lt_of_cell? w _ hw303_2)).trans hw303_2)⟩ (fun hHeld => ?_)
        clear hK K
        refine norm_ (a' := ?_) ?_ ?_
        rotate_left
        ·show Act.put _ (some 25) _ = _
         simp only [Act.put, List.setIfInBounds_toArray, List.set_cons_zero, List.set_cons_succ, i64_w, i32_w]
         rfl
        refine pure_ (i := 9) (N := some 26) (v := ?_) (a' := ?_) #[true, true, true, true, true, true, true, true, true, true] rfl rfl (any_of HT_.out zq21) (fun _ _ _ h => h) (Or.inl ⟨by rfl, ?_⟩) ?_ ?_
        rotate_left
        ·intro w'
         go_simp
         with_reducible rfl
        rotate_left
        ·simp only [Act.put, List.setIfInBounds_toArray, List.set_cons_zero, List.set_cons_succ, i64_w, i32_w]
         rfl
        refine done_ (done_of HT_.out zq21) ?_
        try go_wp2
        go_ret
        exact ⟨zq2, zq0⟩
      ·rw [if_neg c6] at H
       exact absurd H (by simp)
     ·rw [if_neg c5] at H
      exact absurd H (by simp)
    ·rw [if_neg c4] at H
     have c4b0 : decide (x5_1 < (l0.length : Int)) = false := decide_eq_false c4
     clear c4
     obtain rfl := Option.some.inj H
     go_wp2
     go_ret
     exact ⟨zq2, zq0⟩
 ·rw [if_neg c3] at H
  have c3b0 : ((l0.length : Int) == (l1.length : Int)) = false := beq_eq_false_iff_ne.mpr c3
  have c3b1 : ((l0.length : Int) != (l1.length : Int)) = true := bne_iff_ne.mpr c3
  have c3b2 : (l0.length == l1.length) = false := by first | simpa using c3 | (simp at c3 ⊢; omega)
  obtain rfl := Option.some.inj H
  go_enter Tryd.func54, Tryd.ntmps54
  go_wp2
  go_ret
  exact ⟨zq2, zq0⟩
def laws_eqStepSS.l0 : Nat → List (List (S66)) → List (List (S66)) → Int → Option (Bool)
 | 0, _, _, _ => none
 | k + 1, x0, x1, x5 => if x5 < (x0.length : Int) then (if 0 ≤ x5 then (if x5 < (x1.length : Int) then ((laws_eqStepS.f k (rd_L4 x0 x5) (rd_L4 x1 x5)).bind fun t307 => (if t307 = true then (laws_eqStepSS.l0 k x0 x1 (wrap64 (x5 + 1))) else (some false))) else (none)) else (none)) else (some true)
def laws_eqStepSS.f (k : Nat) (l0 : List (List (S66))) (l1 : List (List (S66))) : Option (Bool) := if (l0.length : Int) = (l1.length : Int) then (laws_eqStepSS.l0 k l0 l1 0) else (some false)
def laws_eqStepSS.T6 : Bool × List (List Nat × List Nat) := (true, [([], []), ([], []), ([0, 1], [0, 1]), ([2], [2]), ([], []), ([], []), ([4, 5], [4, 5]), ([6], [6]), ([3, 7], [3, 7]), ([8], [8])])
def laws_eqStepSS.B6 : List Nat := [0, 0, 3, 7, 0, 0, 48, 112, 255, 511]
theorem laws_eqStepSS.tab6 : rtab .any (opsOf Tryd.f39 6) = laws_eqStepSS.T6 := by kernel_rfl
theorem laws_eqStepSS.bits6 : waitsOk laws_eqStepSS.T6.2 laws_eqStepSS.B6 = true := by kernel_rfl
set_option maxHeartbeats 8000000 in
set_option maxRecDepth 100000 in
theorem laws_eqStepSS.calls (k : Nat) (A0 : Option Addr) (c0 : Nat) (l0 : List (List (S66))) (A1 : Option Addr) (c1 : Nat) (l1 : List (List (S66))) (r : Bool) (w : World) (hr0 : Kd.C (Kd.slice 66 k66) w A0 l0.length l0) (hc0 : l0.length ≤ c0) (hr1 : Kd.C (Kd.slice 66 k66) w A1 l1.length l1) (hc1 : l1.length ≤ c1) (h : laws_eqStepSS.f k l0 l1 = some r) :
  Calls Tryd.prog 39 #[.slice A0 l0.length c0, .slice A1 l1.length c1] w fun e w' => e = .returned (.bool r) ∧ Below w.heap.size w w' := by
 have HR0 := am hr0
 have HC0 := am hc0
 clear hr0 hc0
 have HR1 := am hr1
 have HC1 := am hc1
 clear hr1 hc1
 have HB := am (Below.refl w.heap.size w)
 have H : (if (l0.length : Int) = (l1.length : Int) then (laws_eqStepSS.l0 k l0 l1 0) else (some false)) = some r := h
 clear h
 by_cases c3 : (l0.length : Int) = (l1.length : Int)
 ·rw [if_pos c3] at H
  have c3b0 : ((l0.length : Int) == (l1.length : Int)) = true := beq_iff_eq.mpr c3
  have c3b1 : ((l0.length : Int) != (l1.length : Int)) = false := bne_eq_false_iff_eq.mpr c3
  have c3b2 : (l0.length == l1.length) = true := by first | simpa using c3 | (simp at c3 ⊢; omega)
  clear c3
  have H' := am H
  clear H
  go_enter Tryd.func39, Tryd.ntmps39
  go_wp2
  go_loopg [5] k (fun kq v5 w' => ∃ (x5_1 : Int), v5 = .int .i64 x5_1 ∧ Aside0 (laws_eqStepSS.l0 kq l0 l1 x5_1 = some r) ∧ Aside0 (kq ≤ k) ∧ Aside0 (Below w.heap.size w w'))
  case atStart => exact ⟨(0), zq5, H', ⟨Nat.le_refl _⟩, ⟨zq0⟩⟩
  case round =>
   clear H'
   try clear c1
   try clear p2
   try clear c3
   try clear c3b0
   try clear c3b1
   try clear c3b2
   obtain ⟨x5_1, rfl, HA, HK1, HB⟩ := hrel
   cases gk with
   | zero => exact absurd HA.out (by simp [laws_eqStepSS.l0])
   | succ k1 =>
    have H := HA.out
    clear HA
    simp only [laws_eqStepSS.l0] at H
    by_cases c4 : x5_1 < (l0.length : Int)
    ·rw [if_pos c4] at H
     have c4b0 : decide (x5_1 < (l0.length : Int)) = true := decide_eq_true c4
     clear c4
     by_cases c5 : 0 ≤ x5_1
     ·rw [if_pos c5] at H
      have c5b0 : decide (0 ≤ x5_1) = true := decide_eq_true c5
      clear c5
      by_cases c6 : x5_1 < (l1.length : Int)
      ·rw [if_pos c6] at H
       have c6b0 : decide (x5_1 < (l1.length : Int)) = true := decide_eq_true c6
       clear c6
       replace H := bem H
       obtain ⟨t307, A70, H⟩ := H
       replace H : (if t307 = true then (laws_eqStepSS.l0 k1 l0 l1 (wrap64 (x5_1 + 1))) else (some false)) = some r := H
       have A7 := am A70
       clear A70
       by_cases c8 : t307 = true
       ·subst c8
        have H1 : (laws_eqStepSS.l0 k1 l0 l1 (wrap64 (x5_1 + 1))) = some r := by rw [if_pos rfl] at H; exact H
        clear H
        have H := H1
        clear H1
        have H' := am H
        clear H
        try go_wp2
        have n0_ := am (below_drew1 HB.out)
        clear HB
        have HB := n0_
        clear n0_
        have p305 : 0 ≤ (x5_1 : Int) := of_decide_eq_true zq19
        have q305 : x5_1 < (l0.length : Int) := of_decide_eq_true zq19
        obtain ⟨ad305, A305_0, c305_0, e305, hx305_0, hl305_0, hi305_0⟩ := at_L4 HR0.out x5_1 p305 q305
        have hw305_0 := hx305_0
        cases e305
        replace hx305_0 := (HB.out.cell (World.block_lt_of_cell? w _ hx305_0)).trans hx305_0
        have HR305_0 := am hi305_0
        have HC305_0 := am hl305_0
        clear hi305_0 hl305_0
        replace p305 := eq_true p305
        replace q305 := eq_true q305
        have p306 : 0 ≤ (x5_1 : Int) := of_decide_eq_true zq19
        have q306 : x5_1 < (l1.length : Int) := of_decide_eq_true zq19
        obtain ⟨ad306, A306_0, c306_0, e306, hx306_0, hl306_0, hi306_0⟩ := at_L4 HR1.out x5_1 p306 q306
        have hw306_0 := hx306_0
        cases e306
        replace hx306_0 := (HB.out.cell (World.block_lt_of_cell? w _ hx306_0)).trans hx306_0
        have HR306_0 := am hi306_0
        have HC306_0 := am hl306_0
        clear hi306_0 hl306_0
        replace p306 := eq_true p306
        replace q306 := eq_true q306
        refine start_ (n := 10) (S := fun w' => w'.cell? (ad305.add (x5_1).toNat) = some (.slice A305_0 (rd_L4 l0 x5_1).length c305_0) ∧ w'.cell? (ad306.add (x5_1).toNat) = some (.slice A306_0 (rd_L4 l1 x5_1).length c306_0)) (ds := []) #[false, false, false, false, false, false, false, false, false, false] zq21 rfl rfl ⟨((HB.out.cell (World.block_lt_of_cell? w _ hw305_0)).trans hw305_0), ((HB.out.cell (World.block_lt_of_cell? w _ hw306_0)).trans hw306_0)⟩ (fun hHeld => ?_); refine with_tabW laws_eqStepSS.tab6 laws_eqStepSS.bits6 (fun HT_ HW_ => ?_)
        generalize wr.drew = w9 at HB HR305_0 HR306_0 hx305_0 hx306_0 hHeld ⊢
        refine pure_ (i := 0) (N := some 17) (v := ?_) (a' := ?_) #[true, false, false, false, false, false, false, false, false, false] rfl rfl (any_of HT_.out zq21) (fun _ _ _ h => h) (Or.inl ⟨by rfl, ?_⟩) ?_ ?_
        rotate_left
        ·intro w'
         go_simp
         with_reducible rfl
        rotate_left
        ·simp only [Act.put, List.setIfInBounds_toArray, List.set_cons_zero, List.set_cons_succ, i64_w, i32_w]
         rfl
        refine pure_ (i := 1) (N := some 18) (v := ?_) (a' := ?_) #[true, true, false, false, false, false, false, false, false, false] rfl rfl (any_of HT_.out zq21) (fun _ _ _ h => h) (Or.inl ⟨by rfl, ?_⟩) ?_ ?_
        rotate_left
        ·intro w'
         go_simp
         with_reducible rfl
        rotate_left
        ·simp only [Act.put, List.setIfInBounds_toArray, List.set_cons_zero, List.set_cons_succ, i64_w, i32_w]
         rfl
        refine pure_ (i := 2) (N := some 19) (v := ?_) (a' := ?_) #[true, true, true, false, false, false, false, false, false, false] rfl rfl (any_of HT_.out zq21) (fun _ _ _ h => h) (Or.inl ⟨by rfl, ?_⟩) ?_ ?_
        rotate_left
        ·intro w'
         go_simp
         with_reducible rfl
        rotate_left
        ·simp only [Act.put, List.setIfInBounds_toArray, List.set_cons_zero, List.set_cons_succ, i64_w, i32_w]
         rfl
        refine pure_ (i := 4) (N := some 21) (v := ?_) (a' := ?_) #[true, true, true, false, true, false, false, false, false, false] rfl rfl (any_of HT_.out zq21) (fun _ _ _ h => h) (Or.inl ⟨by rfl, ?_⟩) ?_ ?_
        rotate_left
        ·intro w'
         go_simp
         with_reducible rfl
        rotate_left
        ·simp only [Act.put, List.setIfInBounds_toArray, List.set_cons_zero, List.set_cons_succ, i64_w, i32_w]
         rfl
        refine pure_ (i := 5) (N := some 22) (v := ?_) (a' := ?_) #[true, true, true, false, true, true, false, false, false, false] rfl rfl (any_of HT_.out zq21) (fun _ _ _ h => h) (Or.inl ⟨by rfl, ?_⟩) ?_ ?_
        rotate_left
        ·intro w'
         go_simp
         with_reducible rfl
        rotate_left
        ·simp only [Act.put, List.setIfInBounds_toArray, List.set_cons_zero, List.set_cons_succ, i64_w, i32_w]
         rfl
        refine pure_ (i := 6) (N := some 23) (v := ?_) (a' := ?_) #[true, true, true, false, true, true, true, false, false, false] rfl rfl (any_of HT_.out zq21) (fun _ _ _ h => h) (Or.inl ⟨by rfl, ?_⟩) ?_ ?_
        rotate_left
        ·intro w'
         go_simp
         with_reducible rfl
        rotate_left
        ·simp only [Act.put, List.setIfInBounds_toArray, List.set_cons_zero, List.set_cons_succ, i64_w, i32_w]
         rfl
        refine take_ (i := 3) (N := some 20) (v := ?_) (a' := ?_) #[true, true, true, true, true, true, true, false, false, false] rfl rfl (take_ofW HT_.out HW_.out zq21) (fun _ _ _ h => h) (Or.inl ⟨by rfl, ?_⟩) hHeld ?_ ?_
        rotate_left
        ·rintro w' ⟨s0, s1⟩
         go_simp
         with_reducible rfl
        rotate_left
        ·simp only [Act.put, List.setIfInBounds_toArray, List.set_cons_zero, List.set_cons_succ, i64_w, i32_w]
         rfl
        refine take_ (i := 7) (N := some 24) (v := ?_) (a' := ?_) #[true, true, true, true, true, true, true, true, false, false] rfl rfl (take_ofW HT_.out HW_.out zq21) (fun _ _ _ h => h) (Or.inl ⟨by rfl, ?_⟩) hHeld ?_ ?_
        rotate_left
        ·rintro w' ⟨s0, s1⟩
         go_simp
         with_reducible rfl
        rotate_left
        ·simp only [Act.put, List.setIfInBounds_toArray, List.set_cons_zero, List.set_cons_succ, i64_w, i32_w]
         rfl
        refine one_ (i := 8) (N := some 25) #[true, true, true, true, true, true, true, true, true, false] rfl rfl (one_of HT_.out zq21) zq146 (fun K hK => ?_)
        refine goes_ Tryd.func54 zq21 rfl #[.slice A305_0 (rd_L4 l0 x5_1).length c305_0, .slice A306_0 (rd_L4 l1 x5_1).length c306_0] (by rfl) rfl rfl zq1 ?_
        with_reducible refine (laws_eqStepS.calls k1 _ _ (rd_L4 l0 x5_1) _ _ (rd_L4 l1 x5_1) true _ ?side1 ?side2 ?side3 ?side4 A7.out).mono ?_
        (case side1 => repeat (first | exact (Kd.C_below HR305_0.out HB.out) | (with_reducible refine Kd.C_alloc ?_ _) | (with_reducible refine Kd.C_drewN ?_ _) | (with_reducible refine Kd.C_drew ?_)))
        (case side2 => exact HC305_0.out)
        (case side3 => repeat (first | exact (Kd.C_below HR306_0.out HB.out) | (with_reducible refine Kd.C_alloc ?_ _) | (with_reducible refine Kd.C_drewN ?_ _) | (with_reducible refine Kd.C_drew ?_)))
        (case side4 => exact HC306_0.out)
        rintro e w10 ⟨rfl, hb⟩
        refine ⟨_, rfl, ?_⟩
        have n0_ := am (below_step zq0 hb)
        clear HB
        have HB := n0_
        clear n0_
        (try clear hb)
        (try clear hb2)
        (try clear hk)
        (try clear hi)
        refine hK.out _ _ ⟨((HB.out.cell (World.block_lt_of_cell? w _ hw305_0)).trans hw305_0), ((HB.out.cell (World.block_lt_of_cell? w _ hw306_0)).trans hw306_0)⟩ (fun hHeld => ?_)
        clear hK K
        refine norm_ (a' := ?_) ?_ ?_
        rotate_left
        ·show Act.put _ (some 25) _ = _
         simp only [Act.put, List.setIfInBounds_toArray, List.set_cons_zero, List.set_cons_succ, i64_w, i32_w]
         rfl
        refine pure_ (i := 9) (N := some 26) (v := ?_) (a' := ?_) #[true, true, true, true, true, true, true, true, true, true] rfl rfl (any_of HT_.out zq21) (fun _ _ _ h => h) (Or.inl ⟨by rfl, ?_⟩) ?_ ?_
        rotate_left
        ·intro w'
         go_simp
         with_reducible rfl
        rotate_left
        ·simp only [Act.put, List.setIfInBounds_toArray, List.set_cons_zero, List.set_cons_succ, i64_w, i32_w]
         rfl
        refine done_ (done_of HT_.out zq21) ?_
        try go_wp2
        go_roundg k1
        case measure => have := HK1.out; omega
        case rel => exact ⟨(wrap64 (x5_1 + 1)), zq5, H', ⟨zq129⟩, ⟨zq0⟩⟩
       ·replace c8 := Bool.eq_false_iff.mpr c8
        subst c8
        have H1 : (some false) = some r := by rw [if_neg (show ¬ (false = true) by decide)] at H; exact H
        clear H
        have H := H1
        clear H1
        obtain rfl := Option.some.inj H
        try go_wp2
        have n0_ := am (below_drew1 HB.out)
        clear HB
        have HB := n0_
        clear n0_
        have p305 : 0 ≤ (x5_1 : Int) := of_decide_eq_true zq19
        have q305 : x5_1 < (l0.length : Int) := of_decide_eq_true zq19
        obtain ⟨ad305, A305_0, c305_0, e305, hx305_0, hl305_0, hi305_0⟩ := at_L4 HR0.out x5_1 p305 q305
        have hw305_0 := hx305_0
        cases e305
        replace hx305_0 := (HB.out.cell (World.block_lt_of_cell? w _ hx305_0)).trans hx305_0
        have HR305_0 := am hi305_0
        have HC305_0 := am hl305_0
        clear hi305_0 hl305_0
        replace p305 := eq_true p305
        replace q305 := eq_true q305
        have p306 : 0 ≤ (x5_1 : Int) := of_decide_eq_true zq19
        have q306 : x5_1 < (l1.length : Int) := of_decide_eq_true zq19
        obtain ⟨ad306, A306_0, c306_0, e306, hx306_0, hl306_0, hi306_0⟩ := at_L4 HR1.out x5_1 p306 q306
        have hw306_0 := hx306_0
        cases e306
        replace hx306_0 := (HB.out.cell (World.block_lt_of_cell? w _ hx306_0)).trans hx306_0
        have HR306_0 := am hi306_0
        have HC306_0 := am hl306_0
        clear hi306_0 hl306_0
        replace p306 := eq_true p306
        replace q306 := eq_true q306
        refine start_ (n := 10) (S := fun w' => w'.cell? (ad305.add (x5_1).toNat) = some (.slice A305_0 (rd_L4 l0 x5_1).length c305_0) ∧ w'.cell? (ad306.add (x5_1).toNat) = some (.slice A306_0 (rd_L4 l1 x5_1).length c306_0)) (ds := []) #[false, false, false, false, false, false, false, false, false, false] zq21 rfl rfl ⟨((HB.out.cell (World.block_lt_of_cell? w _ hw305_0)).trans hw305_0), ((HB.out.cell (World.block_lt_of_cell? w _ hw306_0)).trans hw306_0)⟩ (fun hHeld => ?_); refine with_tabW laws_eqStepSS.tab6 laws_eqStepSS.bits6 (fun HT_ HW_ => ?_)
        generalize wr.drew = w11 at HB HR305_0 HR306_0 hx305_0 hx306_0 hHeld ⊢
        refine pure_ (i := 0) (N := some 17) (v := ?_) (a' := ?_) #[true, false, false, false, false, false, false, false, false, false] rfl rfl (any_of HT_.out zq21) (fun _ _ _ h => h) (Or.inl ⟨by rfl, ?_⟩) ?_ ?_
        rotate_left
        ·intro w'
         go_simp
         with_reducible rfl
        rotate_left
        ·simp only [Act.put, List.setIfInBounds_toArray, List.set_cons_zero, List.set_cons_succ, i64_w, i32_w]
         rfl
        refine pure_ (i := 1) (N := some 18) (v := ?_) (a' := ?_) #[true, true, false, false, false, false, false, false, false, false] rfl rfl (any_of HT_.out zq21) (fun _ _ _ h => h) (Or.inl ⟨by rfl, ?_⟩) ?_ ?_
        rotate_left
        ·intro w'
         go_simp
         with_reducible rfl
        rotate_left
        ·simp only [Act.put, List.setIfInBounds_toArray, List.set_cons_zero, List.set_cons_succ, i64_w, i32_w]
         rfl
        refine pure_ (i := 2) (N := some 19) (v := ?_) (a' := ?_) #[true, true, true, false, false, false, false, false, false, false] rfl rfl (any_of HT_.out zq21) (fun _ _ _ h => h) (Or.inl ⟨by rfl, ?_⟩) ?_ ?_
        rotate_left
        ·intro w'
         go_simp
         with_reducible rfl
        rotate_left
        ·simp only [Act.put, List.setIfInBounds_toArray, List.set_cons_zero, List.set_cons_succ, i64_w, i32_w]
         rfl
        refine pure_ (i := 4) (N := some 21) (v := ?_) (a' := ?_) #[true, true, true, false, true, false, false, false, false, false] rfl rfl (any_of HT_.out zq21) (fun _ _ _ h => h) (Or.inl ⟨by rfl, ?_⟩) ?_ ?_
        rotate_left
        ·intro w'
         go_simp
         with_reducible rfl
        rotate_left
        ·simp only [Act.put, List.setIfInBounds_toArray, List.set_cons_zero, List.set_cons_succ, i64_w, i32_w]
         rfl
        refine pure_ (i := 5) (N := some 22) (v := ?_) (a' := ?_) #[true, true, true, false, true, true, false, false, false, false] rfl rfl (any_of HT_.out zq21) (fun _ _ _ h => h) (Or.inl ⟨by rfl, ?_⟩) ?_ ?_
        rotate_left
        ·intro w'
         go_simp
         with_reducible rfl
        rotate_left
        ·simp only [Act.put, List.setIfInBounds_toArray, List.set_cons_zero, List.set_cons_succ, i64_w, i32_w]
         rfl
        refine pure_ (i := 6) (N := some 23) (v := ?_) (a' := ?_) #[true, true, true, false, true, true, true, false, false, false] rfl rfl (any_of HT_.out zq21) (fun _ _ _ h => h) (Or.inl ⟨by rfl, ?_⟩) ?_ ?_
        rotate_left
        ·intro w'
         go_simp
         with_reducible rfl
        rotate_left
        ·simp only [Act.put, List.setIfInBounds_toArray, List.set_cons_zero, List.set_cons_succ, i64_w, i32_w]
         rfl
        refine take_ (i := 3) (N := some 20) (v := ?_) (a' := ?_) #[true, true, true, true, true, true, true, false, false, false] rfl rfl (take_ofW HT_.out HW_.out zq21) (fun _ _ _ h => h) (Or.inl ⟨by rfl, ?_⟩) hHeld ?_ ?_
        rotate_left
        ·rintro w' ⟨s0, s1⟩
         go_simp
         with_reducible rfl
        rotate_left
        ·simp only [Act.put, List.setIfInBounds_toArray, List.set_cons_zero, List.set_cons_succ, i64_w, i32_w]
         rfl
        refine take_ (i := 7) (N := some 24) (v := ?_) (a' := ?_) #[true, true, true, true, true, true, true, true, false, false] rfl rfl (take_ofW HT_.out HW_.out zq21) (fun _ _ _ h => h) (Or.inl ⟨by rfl, ?_⟩) hHeld ?_ ?_
        rotate_left
        ·rintro w' ⟨s0, s1⟩
         go_simp
         with_reducible rfl
        rotate_left
        ·simp only [Act.put, List.setIfInBounds_toArray, List.set_cons_zero, List.set_cons_succ, i64_w, i32_w]
         rfl
        refine one_ (i := 8) (N := some 25) #[true, true, true, true, true, true, true, true, true, false] rfl rfl (one_of HT_.out zq21) zq146 (fun K hK => ?_)
        refine goes_ Tryd.func54 zq21 rfl #[.slice A305_0 (rd_L4 l0 x5_1).length c305_0, .slice A306_0 (rd_L4 l1 x5_1).length c306_0] (by rfl) rfl rfl zq1 ?_
        with_reducible refine (laws_eqStepS.calls k1 _ _ (rd_L4 l0 x5_1) _ _ (rd_L4 l1 x5_1) false _ ?side1 ?side2 ?side3 ?side4 A7.out).mono ?_
        (case side1 => repeat (first | exact (Kd.C_below HR305_0.out HB.out) | (with_reducible refine Kd.C_alloc ?_ _) | (with_reducible refine Kd.C_drewN ?_ _) | (with_reducible refine Kd.C_drew ?_)))
        (case side2 => exact HC305_0.out)
        (case side3 => repeat (first | exact (Kd.C_below HR306_0.out HB.out) | (with_reducible refine Kd.C_alloc ?_ _) | (with_reducible refine Kd.C_drewN ?_ _) | (with_reducible refine Kd.C_drew ?_)))
        (case side4 => exact HC306_0.out)
        rintro e w12 ⟨rfl, hb⟩
        refine ⟨_, rfl, ?_⟩
        have n0_ := am (below_step zq0 hb)
        clear HB
        have HB := n0_
        clear n0_
        (try clear hb)
        (try clear hb2)
        (try clear hk)
        (try clear hi)
        refine hK.out _ _ ⟨((HB.out.cell (World.block_lt_of_cell? w _ hw305_0)).trans hw305_0), ((HB.out.cell (World.block_lt_of_cell? w _ hw306_0)).trans hw306_0)⟩ (fun hHeld => ?_)
        clear hK K
        refine norm_ (a' := ?_) ?_ ?_
        rotate_left
        ·show Act.put _ (some 25) _ = _
         simp only [Act.put, List.setIfInBounds_toArray, List.set_cons_zero, List.set_cons_succ, i64_w, i32_w]
         rfl
        refine pure_ (i := 9) (N := some 26) (v := ?_) (a' := ?_) #[true, true, true, true, true, true, true, true, true, true] rfl rfl (any_of HT_.out zq21) (fun _ _ _ h => h) (Or.inl ⟨by rfl, ?_⟩) ?_ ?_
        rotate_left
        ·intro w'
         go_simp
         with_reducible rfl
        rotate_left
        ·simp only [Act.put, List.setIfInBounds_toArray, List.set_cons_zero, List.set_cons_succ, i64_w, i32_w]
         rfl
        refine done_ (done_of HT_.out zq21) ?_
        try go_wp2
        go_ret
        exact ⟨zq2, zq0⟩
      ·rw [if_neg c6] at H
       exact absurd H (by simp)
     ·rw [if_neg c5] at H
      exact absurd H (by simp)
    ·rw [if_neg c4] at H
     have c4b0 : decide (x5_1 < (l0.length : Int)) = false := decide_eq_false c4
     clear c4
     obtain rfl := Option.some.inj H
     go_wp2
     go_ret
     exact ⟨zq2, zq0⟩
 ·rw [if_neg c3] at H
  have c3b0 : ((l0.length : Int) == (l1.length : Int)) = false := beq_eq_false_iff_ne.mpr c3
  have c3b1 : ((l0.length : Int) != (l1.length : Int)) = true := bne_iff_ne.mpr c3
  have c3b2 : (l0.length == l1.length) = false := by first | simpa using c3 | (simp at c3 ⊢; omega)
  obtain rfl := Option.some.inj H
  go_enter Tryd.func39, Tryd.ntmps39
  go_wp2
  go_ret
  exact ⟨zq2, zq0⟩
def laws_eqProgram.f (k : Nat) (l0_0 : List (List (S66))) (l1_0 : List (List (S66))) : Option (Bool) := (laws_eqStepSS.f k l0_0 l1_0).bind fun t310 => (if t310 = true then (some true) else (some false))
set_option maxHeartbeats 8000000 in
set_option maxRecDepth 100000 in
theorem laws_eqProgram.calls (k : Nat) (A0_0 : Option Addr) (c0_0 : Nat) (l0_0 : List (List (S66))) (A1_0 : Option Addr) (c1_0 : Nat) (l1_0 : List (List (S66))) (r : Bool) (w : World) (hr0_0 : Kd.C (Kd.slice 66 k66) w A0_0 l0_0.length l0_0) (hc0_0 : l0_0.length ≤ c0_0) (hr1_0 : Kd.C (Kd.slice 66 k66) w A1_0 l1_0.length l1_0) (hc1_0 : l1_0.length ≤ c1_0) (h : laws_eqProgram.f k l0_0 l1_0 = some r) :
  Calls Tryd.prog 27 #[.agg #[.slice A0_0 l0_0.length c0_0], .agg #[.slice A1_0 l1_0.length c1_0]] w fun e w' => e = .returned (.bool r) ∧ Below w.heap.size w w' := by
 have hu35 := Tryd.underlying35
 have HR0_0 := am hr0_0
 have HC0_0 := am hc0_0
 clear hr0_0 hc0_0
 have HR1_0 := am hr1_0
 have HC1_0 := am hc1_0
 clear hr1_0 hc1_0
 have HB := am (Below.refl w.heap.size w)
 have H : ((laws_eqStepSS.f k l0_0 l1_0).bind fun t310 => (if t310 = true then (some true) else (some false))) = some r := h
 clear h
 replace H := bem H
 obtain ⟨t310, A30, H⟩ := H
 replace H : (if t310 = true then (some true) else (some false)) = some r := H
 have A3 := am A30
 clear A30
 by_cases c4 : t310 = true
 ·subst c4
  have H1 : (some true) = some r := by rw [if_pos rfl] at H; exact H
  clear H
  have H := H1
  clear H1
  obtain rfl := Option.some.inj H
  go_enter Tryd.func27, Tryd.ntmps27
  go_wp2_with (first | ((with_reducible refine gate_dst (N := 2) rfl ?_); refine box_event ?hg (N := 2) ?hd (cs := #[.slice A0_0 l0_0.length c0_0]) (t := 35) ?hr ?_; (case hd => rfl); (case hg => rfl); (case hr => first | (go_simp; done) | (go_simp; rfl)); intro gb308 hg w5 hbox hb; have n0_ := am (below_step zq0 hb); have n1_ := am (hbox); have n2_ := am ((zq4 : w.heap.size ≤ gb308)); have n3_ := am ((zq4 : w.heap.size ≤ gb308)); clear HB; have HB := n0_; have BK308 := n1_; have GW308 := n2_; have GE308 := n3_; clear n0_ n1_ n2_ n3_; clear hb hbox hg) | ((with_reducible refine gate_dst (N := 3) rfl ?_); refine box_event ?hg (N := 3) ?hd (cs := #[.slice A1_0 l1_0.length c1_0]) (t := 35) ?hr ?_; (case hd => rfl); (case hg => rfl); (case hr => first | (go_simp; done) | (go_simp; rfl)); intro gb309 hg w6 hbox hb; have n0_ := am (blk_below (g := gb308) (o := .cells #[.slice A0_0 l0_0.length c0_0] 35 (0, 0)) zq103 hb); have n1_ := am (below_step zq102 hb); have n2_ := am (hbox); have n3_ := am ((by rw [hg]; exact (below_size zq102) : w.heap.size ≤ gb309)); have n4_ := am ((by rw [hg]; exact (below_size zq102) : w.heap.size ≤ gb309)); have n5_ := am ((zq152 : gb308 ≠ gb309)); have n6_ := am ((zq153 : gb309 ≠ gb308)); clear BK308; clear HB; have BK308 := n0_; have HB := n1_; have BK309 := n2_; have GW309 := n3_; have GE309 := n4_; have NB308_309 := n5_; have NB309_308 := n6_; clear n0_ n1_ n2_ n3_ n4_ n5_ n6_; clear hb hbox hg; have hnb7 := NB308_309.out; have hnc7 := NB309_308.out; have hcz8_0 : w6.cell? ⟨gb308, 0, none⟩ = some (.slice A0_0 l0_0.length c0_0) := (blk_cell BK308.out 0).trans rfl; have hfz8_0 := blk_frozen BK308.out 0; have hcz9_0 : w6.cell? ⟨gb309, 0, none⟩ = some (.slice A1_0 l1_0.length c1_0) := (blk_cell BK309.out 0).trans rfl; have hfz9_0 := blk_frozen BK309.out 0) | ((with_reducible refine gate_callee (f := 39) rfl ?_); refine goesL_ (some 9) rfl rfl Tryd.func39 zq21 rfl #[.slice A0_0 l0_0.length c0_0, .slice A1_0 l1_0.length c1_0] rfl zq1 ?_; (with_reducible refine (laws_eqStepSS.calls k _ _ l0_0 _ _ l1_0 true _ ?side1 ?side2 ?side3 ?side4 A3.out).mono ?_); (case side1 => repeat (first | exact (Kd.C_below HR0_0.out HB.out) | (with_reducible refine Kd.C_alloc ?_ _) | (with_reducible refine Kd.C_drewN ?_ _) | (with_reducible refine Kd.C_drew ?_))); (case side2 => exact HC0_0.out); (case side3 => repeat (first | exact (Kd.C_below HR1_0.out HB.out) | (with_reducible refine Kd.C_alloc ?_ _) | (with_reducible refine Kd.C_drewN ?_ _) | (with_reducible refine Kd.C_drew ?_))); (case side4 => exact HC1_0.out); rintro e w10 ⟨rfl, hb⟩; refine ⟨_, rfl, ?_⟩; have n0_ := am (blk_below (g := gb308) (o := .cells #[.slice A0_0 l0_0.length c0_0] 35 (0, 0)) zq103 hb); have n1_ := am (blk_below (g := gb309) (o := .cells #[.slice A1_0 l1_0.length c1_0] 35 (0, 0)) zq151 hb); have n2_ := am (below_step zq104 hb); clear BK308; clear BK309; clear HB; have BK308 := n0_; have BK309 := n1_; have HB := n2_; clear n0_ n1_ n2_; (try clear hb); (try clear hb2); (try clear hk); (try clear hi)))
  go_ret
  exact ⟨zq2, zq104⟩
 ·replace c4 := Bool.eq_false_iff.mpr c4
  subst c4
  have H1 : (some false) = some r := by rw [if_neg (show ¬ (false = true) by decide)] at H; exact H
  clear H
  have H := H1
  clear H1
  obtain rfl := Option.some.inj H
  go_enter Tryd.func27, Tryd.ntmps27
  go_wp2_with (first | ((with_reducible refine gate_dst (N := 2) rfl ?_); refine box_event ?hg (N := 2) ?hd (cs := #[.slice A0_0 l0_0.length c0_0]) (t := 35) ?hr ?_; (case hd => rfl); (case hg => rfl); (case hr => first | (go_simp; done) | (go_simp; rfl)); intro gb308 hg w11 hbox hb; have n0_ := am (below_step zq0 hb); have n1_ := am (hbox); have n2_ := am ((zq4 : w.heap.size ≤ gb308)); have n3_ := am ((zq4 : w.heap.size ≤ gb308)); clear HB; have HB := n0_; have BK308 := n1_; have GW308 := n2_; have GE308 := n3_; clear n0_ n1_ n2_ n3_; clear hb hbox hg) | ((with_reducible refine gate_dst (N := 3) rfl ?_); refine box_event ?hg (N := 3) ?hd (cs := #[.slice A1_0 l1_0.length c1_0]) (t := 35) ?hr ?_; (case hd => rfl); (case hg => rfl); (case hr => first | (go_simp; done) | (go_simp; rfl)); intro gb309 hg w12 hbox hb; have n0_ := am (blk_below (g := gb308) (o := .cells #[.slice A0_0 l0_0.length c0_0] 35 (0, 0)) zq103 hb); have n1_ := am (below_step zq102 hb); have n2_ := am (hbox); have n3_ := am ((by rw [hg]; exact (below_size zq102) : w.heap.size ≤ gb309)); have n4_ := am ((by rw [hg]; exact (below_size zq102) : w.heap.size ≤ gb309)); have n5_ := am ((zq152 : gb308 ≠ gb309)); have n6_ := am ((zq153 : gb309 ≠ gb308)); clear BK308; clear HB; have BK308 := n0_; have HB := n1_; have BK309 := n2_; have GW309 := n3_; have GE309 := n4_; have NB308_309 := n5_; have NB309_308 := n6_; clear n0_ n1_ n2_ n3_ n4_ n5_ n6_; clear hb hbox hg; have hnb13 := NB308_309.out; have hnc13 := NB309_308.out; have hcz14_0 : w12.cell? ⟨gb308, 0, none⟩ = some (.slice A0_0 l0_0.length c0_0) := (blk_cell BK308.out 0).trans rfl; have hfz14_0 := blk_frozen BK308.out 0; have hcz15_0 : w12.cell? ⟨gb309, 0, none⟩ = some (.slice A1_0 l1_0.length c1_0) := (blk_cell BK309.out 0).trans rfl; have hfz15_0 := blk_frozen BK309.out 0) | ((with_reducible refine gate_callee (f := 39) rfl ?_); refine goesL_ (some 9) rfl rfl Tryd.func39 zq21 rfl #[.slice A0_0 l0_0.length c0_0, .slice A1_0 l1_0.length c1_0] rfl zq1 ?_; (with_reducible refine (laws_eqStepSS.calls k _ _ l0_0 _ _ l1_0 false _ ?side1 ?side2 ?side3 ?side4 A3.out).mono ?_); (case side1 => repeat (first | exact (Kd.C_below HR0_0.out HB.out) | (with_reducible refine Kd.C_alloc ?_ _) | (with_reducible refine Kd.C_drewN ?_ _) | (with_reducible refine Kd.C_drew ?_))); (case side2 => exact HC0_0.out); (case side3 => repeat (first | exact (Kd.C_below HR1_0.out HB.out) | (with_reducible refine Kd.C_alloc ?_ _) | (with_reducible refine Kd.C_drewN ?_ _) | (with_reducible refine Kd.C_drew ?_))); (case side4 => exact HC1_0.out); rintro e w16 ⟨rfl, hb⟩; refine ⟨_, rfl, ?_⟩; have n0_ := am (blk_below (g := gb308) (o := .cells #[.slice A0_0 l0_0.length c0_0] 35 (0, 0)) zq103 hb); have n1_ := am (blk_below (g := gb309) (o := .cells #[.slice A1_0 l1_0.length c1_0] 35 (0, 0)) zq151 hb); have n2_ := am (below_step zq104 hb); clear BK308; clear BK309; clear HB; have BK308 := n0_; have BK309 := n1_; have HB := n2_; clear n0_ n1_ n2_; (try clear hb); (try clear hb2); (try clear hk); (try clear hi)))
  go_ret
  exact ⟨zq2, zq104⟩
def laws_eqBench.f (k : Nat) (l0_0 : List (List (S66))) (a0_1 : Int) (a0_2 : Int) (l1_0 : List (List (S66))) (a1_1 : Int) (a1_2 : Int) : Option (Bool) := (laws_eqProgram.f k l0_0 l1_0).bind fun t313 => (if t313 = true then (if a0_1 = a1_1 then (if a0_2 = a1_2 then (some true) else (some false)) else (some false)) else (some false))
set_option maxHeartbeats 8000000 in
set_option maxRecDepth 100000 in
theorem laws_eqBench.calls (k : Nat) (A0_0 : Option Addr) (c0_0 : Nat) (l0_0 : List (List (S66))) (a0_1 : Int) (a0_2 : Int) (A1_0 : Option Addr) (c1_0 : Nat) (l1_0 : List (List (S66))) (a1_1 : Int) (a1_2 : Int) (r : Bool) (w : World) (hr0_0 : Kd.C (Kd.slice 66 k66) w A0_0 l0_0.length l0_0) (hc0_0 : l0_0.length ≤ c0_0) (hr1_0 : Kd.C (Kd.slice 66 k66) w A1_0 l1_0.length l1_0) (hc1_0 : l1_0.length ≤ c1_0) (h : laws_eqBench.f k l0_0 a0_1 a0_2 l1_0 a1_1 a1_2 = some r) :
  Calls Tryd.prog 17 #[.agg #[.slice A0_0 l0_0.length c0_0, .int .i64 a0_1, .int .i64 a0_2], .agg #[.slice A1_0 l1_0.length c1_0, .int .i64 a1_1, .int .i64 a1_2]] w fun e w' => e = .returned (.bool r) ∧ Below w.heap.size w w' := by
 have hu37 := Tryd.underlying37
 have hu35 := Tryd.underlying35
 have HR0_0 := am hr0_0
 have HC0_0 := am hc0_0
 clear hr0_0 hc0_0
 have HR1_0 := am hr1_0
 have HC1_0 := am hc1_0
 clear hr1_0 hc1_0
 have HB := am (Below.refl w.heap.size w)
 have H : ((laws_eqProgram.f k l0_0 l1_0).bind fun t313 => (if t313 = true then (if a0_1 = a1_1 then (if a0_2 = a1_2 then (some true) else (some false)) else (some false)) else (some false))) = some r := h
 clear h
 replace H := bem H
 obtain ⟨t313, A30, H⟩ := H
 replace H : (if t313 = true then (if a0_1 = a1_1 then (if a0_2 = a1_2 then (some true) else (some false)) else (some false)) else (some false)) = some r := H
 have A3 := am A30
 clear A30
 by_cases c4 : t313 = true
 ·subst c4
  have H1 : (if a0_1 = a1_1 then (if a0_2 = a1_2 then (some true) else (some false)) else (some false)) = some r := by rw [if_pos rfl] at H; exact H
  clear H
  have H := H1
  clear H1
  by_cases c5 : a0_1 = a1_1
  ·rw [if_pos c5] at H
   have c5b0 : (a0_1 == a1_1) = true := beq_iff_eq.mpr c5
   have c5b1 : (a0_1 != a1_1) = false := bne_eq_false_iff_eq.mpr c5
   clear c5
   by_cases c6 : a0_2 = a1_2
   ·rw [if_pos c6] at H
    have c6b0 : (a0_2 == a1_2) = true := beq_iff_eq.mpr c6
    have c6b1 : (a0_2 != a1_2) = false := bne_eq_false_iff_eq.mpr c6
    clear c6
    obtain rfl := Option.some.inj H
    go_enter Tryd.func17, Tryd.ntmps17
    go_wp2_with (first | ((with_reducible refine gate_dst (N := 2) rfl ?_); refine box_event ?hg (N := 2) ?hd (cs := #[.slice A0_0 l0_0.length c0_0, .int .i64 a0_1, .int .i64 a0_2]) (t := 37) ?hr ?_; (case hd => rfl); (case hg => rfl); (case hr => first | (go_simp; done) | (go_simp; rfl)); intro gb311 hg w7 hbox hb; have n0_ := am (below_step zq0 hb); have n1_ := am (hbox); have n2_ := am ((zq4 : w.heap.size ≤ gb311)); have n3_ := am ((zq4 : w.heap.size ≤ gb311)); clear HB; have HB := n0_; have BK311 := n1_; have GW311 := n2_; have GE311 := n3_; clear n0_ n1_ n2_ n3_; clear hb hbox hg) | ((with_reducible refine gate_dst (N := 3) rfl ?_); refine box_event ?hg (N := 3) ?hd (cs := #[.slice A1_0 l1_0.length c1_0, .int .i64 a1_1, .int .i64 a1_2]) (t := 37) ?hr ?_; (case hd => rfl); (case hg => rfl); (case hr => first | (go_simp; done) | (go_simp; rfl)); intro gb312 hg w8 hbox hb; have n0_ := am (blk_below (g := gb311) (o := .cells #[.slice A0_0 l0_0.length c0_0, .int .i64 a0_1, .int .i64 a0_2] 37 (0, 0)) zq96 hb); have n1_ := am (below_step zq94 hb); have n2_ := am (hbox); have n3_ := am ((zq114 : w.heap.size ≤ gb312)); have n4_ := am ((zq114 : w.heap.size ≤ gb312)); have n5_ := am ((zq107 : gb311 ≠ gb312)); have n6_ := am ((zq108 : gb312 ≠ gb311)); clear BK311; clear HB; have BK311 := n0_; have HB := n1_; have BK312 := n2_; have GW312 := n3_; have GE312 := n4_; have NB311_312 := n5_; have NB312_311 := n6_; clear n0_ n1_ n2_ n3_ n4_ n5_ n6_; clear hb hbox hg; have hnb9 := NB311_312.out; have hnc9 := NB312_311.out; have hcz10_0 : w8.cell? ⟨gb311, 0, none⟩ = some (.slice A0_0 l0_0.length c0_0) := (blk_cell BK311.out 0).trans rfl; have hcz10_1 : w8.cell? ⟨gb311, 1, none⟩ = some (.int .i64 a0_1) := (blk_cell BK311.out 1).trans rfl; have hcz10_2 : w8.cell? ⟨gb311, 2, none⟩ = some (.int .i64 a0_2) := (blk_cell BK311.out 2).trans rfl; have hfz10_0 := blk_frozen BK311.out 0; have hfz10_1 := blk_frozen BK311.out 1; have hfz10_2 := blk_frozen BK311.out 2; have hcz11_0 : w8.cell? ⟨gb312, 0, none⟩ = some (.slice A1_0 l1_0.length c1_0) := (blk_cell BK312.out 0).trans rfl; have hcz11_1 : w8.cell? ⟨gb312, 1, none⟩ = some (.int .i64 a1_1) := (blk_cell BK312.out 1).trans rfl; have hcz11_2 : w8.cell? ⟨gb312, 2, none⟩ = some (.int .i64 a1_2) := (blk_cell BK312.out 2).trans rfl; have hfz11_0 := blk_frozen BK312.out 0; have hfz11_1 := blk_frozen BK312.out 1; have hfz11_2 := blk_frozen BK312.out 2) | ((with_reducible refine gate_callee (f := 27) rfl ?_); refine goesL_ (some 9) rfl rfl Tryd.func27 zq21 rfl #[.agg #[.slice A0_0 l0_0.length c0_0], .agg #[.slice A1_0 l1_0.length c1_0]] rfl zq1 ?_; (with_reducible refine (laws_eqProgram.calls k _ _ l0_0 _ _ l1_0 true _ ?side1 ?side2 ?side3 ?side4 A3.out).mono ?_); (case side1 => repeat (first | exact (Kd.C_below HR0_0.out HB.out) | (with_reducible refine Kd.C_alloc ?_ _) | (with_reducible refine Kd.C_drewN ?_ _) | (with_reducible refine Kd.C_drew ?_))); (case side2 => exact HC0_0.out); (case side3 => repeat (first | exact (Kd.C_below HR1_0.out HB.out) | (with_reducible refine Kd.C_alloc ?_ _) | (with_reducible refine Kd.C_drewN ?_ _) | (with_reducible refine Kd.C_drew ?_))); (case side4 => exact HC1_0.out); rintro e w12 ⟨rfl, hb⟩; refine ⟨_, rfl, ?_⟩; have n0_ := am (blk_below (g := gb311) (o := .cells #[.slice A0_0 l0_0.length c0_0, .int .i64 a0_1, .int .i64 a0_2] 37 (0, 0)) zq96 hb); have n1_ := am (blk_below (g := gb312) (o := .cells #[.slice A1_0 l1_0.length c1_0, .int .i64 a1_1, .int .i64 a1_2] 37 (0, 0)) zq113 hb); have n2_ := am (below_step zq98 hb); clear BK311; clear BK312; clear HB; have BK311 := n0_; have BK312 := n1_; have HB := n2_; clear n0_ n1_ n2_; (try clear hb); (try clear hb2); (try clear hk); (try clear hi); have hcz13_0 : w12.cell? ⟨gb311, 0, none⟩ = some (.slice A0_0 l0_0.length c0_0) := (blk_cell BK311.out 0).trans rfl; have hcz13_1 : w12.cell? ⟨gb311, 1, none⟩ = some (.int .i64 a0_1) := (blk_cell BK311.out 1).trans rfl; have hcz13_2 : w12.cell? ⟨gb311, 2, none⟩ = some (.int .i64 a0_2) := (blk_cell BK311.out 2).trans rfl; have hfz13_0 := blk_frozen BK311.out 0; have hfz13_1 := blk_frozen BK311.out 1; have hfz13_2 := blk_frozen BK311.out 2; have hcz14_0 : w12.cell? ⟨gb312, 0, none⟩ = some (.slice A1_0 l1_0.length c1_0) := (blk_cell BK312.out 0).trans rfl; have hcz14_1 : w12.cell? ⟨gb312, 1, none⟩ = some (.int .i64 a1_1) := (blk_cell BK312.out 1).trans rfl; have hcz14_2 : w12.cell? ⟨gb312, 2, none⟩ = some (.int .i64 a1_2) := (blk_cell BK312.out 2).trans rfl; have hfz14_0 := blk_frozen BK312.out 0; have hfz14_1 := blk_frozen BK312.out 1; have hfz14_2 := blk_frozen BK312.out 2))
    go_ret
    exact ⟨zq2, zq98⟩
   ·rw [if_neg c6] at H
    have c6b0 : (a0_2 == a1_2) = false := beq_eq_false_iff_ne.mpr c6
    have c6b1 : (a0_2 != a1_2) = true := bne_iff_ne.mpr c6
    obtain rfl := Option.some.inj H
    go_enter Tryd.func17, Tryd.ntmps17
    go_wp2_with (first | ((with_reducible refine gate_dst (N := 2) rfl ?_); refine box_event ?hg (N := 2) ?hd (cs := #[.slice A0_0 l0_0.length c0_0, .int .i64 a0_1, .int .i64 a0_2]) (t := 37) ?hr ?_; (case hd => rfl); (case hg => rfl); (case hr => first | (go_simp; done) | (go_simp; rfl)); intro gb311 hg w15 hbox hb; have n0_ := am (below_step zq0 hb); have n1_ := am (hbox); have n2_ := am ((zq4 : w.heap.size ≤ gb311)); have n3_ := am ((zq4 : w.heap.size ≤ gb311)); clear HB; have HB := n0_; have BK311 := n1_; have GW311 := n2_; have GE311 := n3_; clear n0_ n1_ n2_ n3_; clear hb hbox hg) | ((with_reducible refine gate_dst (N := 3) rfl ?_); refine box_event ?hg (N := 3) ?hd (cs := #[.slice A1_0 l1_0.length c1_0, .int .i64 a1_1, .int .i64 a1_2]) (t := 37) ?hr ?_; (case hd => rfl); (case hg => rfl); (case hr => first | (go_simp; done) | (go_simp; rfl)); intro gb312 hg w16 hbox hb; have n0_ := am (blk_below (g := gb311) (o := .cells #[.slice A0_0 l0_0.length c0_0, .int .i64 a0_1, .int .i64 a0_2] 37 (0, 0)) zq96 hb); have n1_ := am (below_step zq94 hb); have n2_ := am (hbox); have n3_ := am ((zq114 : w.heap.size ≤ gb312)); have n4_ := am ((zq114 : w.heap.size ≤ gb312)); have n5_ := am ((zq107 : gb311 ≠ gb312)); have n6_ := am ((zq108 : gb312 ≠ gb311)); clear BK311; clear HB; have BK311 := n0_; have HB := n1_; have BK312 := n2_; have GW312 := n3_; have GE312 := n4_; have NB311_312 := n5_; have NB312_311 := n6_; clear n0_ n1_ n2_ n3_ n4_ n5_ n6_; clear hb hbox hg; have hnb17 := NB311_312.out; have hnc17 := NB312_311.out; have hcz18_0 : w16.cell? ⟨gb311, 0, none⟩ = some (.slice A0_0 l0_0.length c0_0) := (blk_cell BK311.out 0).trans rfl; have hcz18_1 : w16.cell? ⟨gb311, 1, none⟩ = some (.int .i64 a0_1) := (blk_cell BK311.out 1).trans rfl; have hcz18_2 : w16.cell? ⟨gb311, 2, none⟩ = some (.int .i64 a0_2) := (blk_cell BK311.out 2).trans rfl; have hfz18_0 := blk_frozen BK311.out 0; have hfz18_1 := blk_frozen BK311.out 1; have hfz18_2 := blk_frozen BK311.out 2; have hcz19_0 : w16.cell? ⟨gb312, 0, none⟩ = some (.slice A1_0 l1_0.length c1_0) := (blk_cell BK312.out 0).trans rfl; have hcz19_1 : w16.cell? ⟨gb312, 1, none⟩ = some (.int .i64 a1_1) := (blk_cell BK312.out 1).trans rfl; have hcz19_2 : w16.cell? ⟨gb312, 2, none⟩ = some (.int .i64 a1_2) := (blk_cell BK312.out 2).trans rfl; have hfz19_0 := blk_frozen BK312.out 0; have hfz19_1 := blk_frozen BK312.out 1; have hfz19_2 := blk_frozen BK312.out 2) | ((with_reducible refine gate_callee (f := 27) rfl ?_); refine goesL_ (some 9) rfl rfl Tryd.func27 zq21 rfl #[.agg #[.slice A0_0 l0_0.length c0_0], .agg #[.slice A1_0 l1_0.length c1_0]] rfl zq1 ?_; (with_reducible refine (laws_eqProgram.calls k _ _ l0_0 _ _ l1_0 true _ ?side1 ?side2 ?side3 ?side4 A3.out).mono ?_); (case side1 => repeat (first | exact (Kd.C_below HR0_0.out HB.out) | (with_reducible refine Kd.C_alloc ?_ _) | (with_reducible refine Kd.C_drewN ?_ _) | (with_reducible refine Kd.C_drew ?_))); (case side2 => exact HC0_0.out); (case side3 => repeat (first | exact (Kd.C_below HR1_0.out HB.out) | (with_reducible refine Kd.C_alloc ?_ _) | (with_reducible refine Kd.C_drewN ?_ _) | (with_reducible refine Kd.C_drew ?_))); (case side4 => exact HC1_0.out); rintro e w20 ⟨rfl, hb⟩; refine ⟨_, rfl, ?_⟩; have n0_ := am (blk_below (g := gb311) (o := .cells #[.slice A0_0 l0_0.length c0_0, .int .i64 a0_1, .int .i64 a0_2] 37 (0, 0)) zq96 hb); have n1_ := am (blk_below (g := gb312) (o := .cells #[.slice A1_0 l1_0.length c1_0, .int .i64 a1_1, .int .i64 a1_2] 37 (0, 0)) zq113 hb); have n2_ := am (below_step zq98 hb); clear BK311; clear BK312; clear HB; have BK311 := n0_; have BK312 := n1_; have HB := n2_; clear n0_ n1_ n2_; (try clear hb); (try clear hb2); (try clear hk); (try clear hi); have hcz21_0 : w20.cell? ⟨gb311, 0, none⟩ = some (.slice A0_0 l0_0.length c0_0) := (blk_cell BK311.out 0).trans rfl; have hcz21_1 : w20.cell? ⟨gb311, 1, none⟩ = some (.int .i64 a0_1) := (blk_cell BK311.out 1).trans rfl; have hcz21_2 : w20.cell? ⟨gb311, 2, none⟩ = some (.int .i64 a0_2) := (blk_cell BK311.out 2).trans rfl; have hfz21_0 := blk_frozen BK311.out 0; have hfz21_1 := blk_frozen BK311.out 1; have hfz21_2 := blk_frozen BK311.out 2; have hcz22_0 : w20.cell? ⟨gb312, 0, none⟩ = some (.slice A1_0 l1_0.length c1_0) := (blk_cell BK312.out 0).trans rfl; have hcz22_1 : w20.cell? ⟨gb312, 1, none⟩ = some (.int .i64 a1_1) := (blk_cell BK312.out 1).trans rfl; have hcz22_2 : w20.cell? ⟨gb312, 2, none⟩ = some (.int .i64 a1_2) := (blk_cell BK312.out 2).trans rfl; have hfz22_0 := blk_frozen BK312.out 0; have hfz22_1 := blk_frozen BK312.out 1; have hfz22_2 := blk_frozen BK312.out 2))
    go_ret
    exact ⟨zq2, zq98⟩
  ·rw [if_neg c5] at H
   have c5b0 : (a0_1 == a1_1) = false := beq_eq_false_iff_ne.mpr c5
   have c5b1 : (a0_1 != a1_1) = true := bne_iff_ne.mpr c5
   obtain rfl := Option.some.inj H
   go_enter Tryd.func17, Tryd.ntmps17
   go_wp2_with (first | ((with_reducible refine gate_dst (N := 2) rfl ?_); refine box_event ?hg (N := 2) ?hd (cs := #[.slice A0_0 l0_0.length c0_0, .int .i64 a0_1, .int .i64 a0_2]) (t := 37) ?hr ?_; (case hd => rfl); (case hg => rfl); (case hr => first | (go_simp; done) | (go_simp; rfl)); intro gb311 hg w23 hbox hb; have n0_ := am (below_step zq0 hb); have n1_ := am (hbox); have n2_ := am ((zq4 : w.heap.size ≤ gb311)); have n3_ := am ((zq4 : w.heap.size ≤ gb311)); clear HB; have HB := n0_; have BK311 := n1_; have GW311 := n2_; have GE311 := n3_; clear n0_ n1_ n2_ n3_; clear hb hbox hg) | ((with_reducible refine gate_dst (N := 3) rfl ?_); refine box_event ?hg (N := 3) ?hd (cs := #[.slice A1_0 l1_0.length c1_0, .int .i64 a1_1, .int .i64 a1_2]) (t := 37) ?hr ?_; (case hd => rfl); (case hg => rfl); (case hr => first | (go_simp; done) | (go_simp; rfl)); intro gb312 hg w24 hbox hb; have n0_ := am (blk_below (g := gb311) (o := .cells #[.slice A0_0 l0_0.length c0_0, .int .i64 a0_1, .int .i64 a0_2] 37 (0, 0)) zq96 hb); have n1_ := am (below_step zq94 hb); have n2_ := am (hbox); have n3_ := am ((zq114 : w.heap.size ≤ gb312)); have n4_ := am ((zq114 : w.heap.size ≤ gb312)); have n5_ := am ((zq107 : gb311 ≠ gb312)); have n6_ := am ((zq108 : gb312 ≠ gb311)); clear BK311; clear HB; have BK311 := n0_; have HB := n1_; have BK312 := n2_; have GW312 := n3_; have GE312 := n4_; have NB311_312 := n5_; have NB312_311 := n6_; clear n0_ n1_ n2_ n3_ n4_ n5_ n6_; clear hb hbox hg; have hnb25 := NB311_312.out; have hnc25 := NB312_311.out; have hcz26_0 : w24.cell? ⟨gb311, 0, none⟩ = some (.slice A0_0 l0_0.length c0_0) := (blk_cell BK311.out 0).trans rfl; have hcz26_1 : w24.cell? ⟨gb311, 1, none⟩ = some (.int .i64 a0_1) := (blk_cell BK311.out 1).trans rfl; have hcz26_2 : w24.cell? ⟨gb311, 2, none⟩ = some (.int .i64 a0_2) := (blk_cell BK311.out 2).trans rfl; have hfz26_0 := blk_frozen BK311.out 0; have hfz26_1 := blk_frozen BK311.out 1; have hfz26_2 := blk_frozen BK311.out 2; have hcz27_0 : w24.cell? ⟨gb312, 0, none⟩ = some (.slice A1_0 l1_0.length c1_0) := (blk_cell BK312.out 0).trans rfl; have hcz27_1 : w24.cell? ⟨gb312, 1, none⟩ = some (.int .i64 a1_1) := (blk_cell BK312.out 1).trans rfl; have hcz27_2 : w24.cell? ⟨gb312, 2, none⟩ = some (.int .i64 a1_2) := (blk_cell BK312.out 2).trans rfl; have hfz27_0 := blk_frozen BK312.out 0; have hfz27_1 := blk_frozen BK312.out 1; have hfz27_2 := blk_frozen BK312.out 2) | ((with_reducible refine gate_callee (f := 27) rfl ?_); refine goesL_ (some 9) rfl rfl Tryd.func27 zq21 rfl #[.agg #[.slice A0_0 l0_0.length c0_0], .agg #[.slice A1_0 l1_0.length c1_0]] rfl zq1 ?_; (with_reducible refine (laws_eqProgram.calls k _ _ l0_0 _ _ l1_0 true _ ?side1 ?side2 ?side3 ?side4 A3.out).mono ?_); (case side1 => repeat (first | exact (Kd.C_below HR0_0.out HB.out) | (with_reducible refine Kd.C_alloc ?_ _) | (with_reducible refine Kd.C_drewN ?_ _) | (with_reducible refine Kd.C_drew ?_))); (case side2 => exact HC0_0.out); (case side3 => repeat (first | exact (Kd.C_below HR1_0.out HB.out) | (with_reducible refine Kd.C_alloc ?_ _) | (with_reducible refine Kd.C_drewN ?_ _) | (with_reducible refine Kd.C_drew ?_))); (case side4 => exact HC1_0.out); rintro e w28 ⟨rfl, hb⟩; refine ⟨_, rfl, ?_⟩; have n0_ := am (blk_below (g := gb311) (o := .cells #[.slice A0_0 l0_0.length c0_0, .int .i64 a0_1, .int .i64 a0_2] 37 (0, 0)) zq96 hb); have n1_ := am (blk_below (g := gb312) (o := .cells #[.slice A1_0 l1_0.length c1_0, .int .i64 a1_1, .int .i64 a1_2] 37 (0, 0)) zq113 hb); have n2_ := am (below_step zq98 hb); clear BK311; clear BK312; clear HB; have BK311 := n0_; have BK312 := n1_; have HB := n2_; clear n0_ n1_ n2_; (try clear hb); (try clear hb2); (try clear hk); (try clear hi); have hcz29_0 : w28.cell? ⟨gb311, 0, none⟩ = some (.slice A0_0 l0_0.length c0_0) := (blk_cell BK311.out 0).trans rfl; have hcz29_1 : w28.cell? ⟨gb311, 1, none⟩ = some (.int .i64 a0_1) := (blk_cell BK311.out 1).trans rfl; have hcz29_2 : w28.cell? ⟨gb311, 2, none⟩ = some (.int .i64 a0_2) := (blk_cell BK311.out 2).trans rfl; have hfz29_0 := blk_frozen BK311.out 0; have hfz29_1 := blk_frozen BK311.out 1; have hfz29_2 := blk_frozen BK311.out 2; have hcz30_0 : w28.cell? ⟨gb312, 0, none⟩ = some (.slice A1_0 l1_0.length c1_0) := (blk_cell BK312.out 0).trans rfl; have hcz30_1 : w28.cell? ⟨gb312, 1, none⟩ = some (.int .i64 a1_1) := (blk_cell BK312.out 1).trans rfl; have hcz30_2 : w28.cell? ⟨gb312, 2, none⟩ = some (.int .i64 a1_2) := (blk_cell BK312.out 2).trans rfl; have hfz30_0 := blk_frozen BK312.out 0; have hfz30_1 := blk_frozen BK312.out 1; have hfz30_2 := blk_frozen BK312.out 2))
   go_ret
   exact ⟨zq2, zq98⟩
 ·replace c4 := Bool.eq_false_iff.mpr c4
  subst c4
  have H1 : (some false) = some r := by rw [if_neg (show ¬ (false = true) by decide)] at H; exact H
  clear H
  have H := H1
  clear H1
  obtain rfl := Option.some.inj H
  go_enter Tryd.func17, Tryd.ntmps17
  go_wp2_with (first | ((with_reducible refine gate_dst (N := 2) rfl ?_); refine box_event ?hg (N := 2) ?hd (cs := #[.slice A0_0 l0_0.length c0_0, .int .i64 a0_1, .int .i64 a0_2]) (t := 37) ?hr ?_; (case hd => rfl); (case hg => rfl); (case hr => first | (go_simp; done) | (go_simp; rfl)); intro gb311 hg w31 hbox hb; have n0_ := am (below_step zq0 hb); have n1_ := am (hbox); have n2_ := am ((zq4 : w.heap.size ≤ gb311)); have n3_ := am ((zq4 : w.heap.size ≤ gb311)); clear HB; have HB := n0_; have BK311 := n1_; have GW311 := n2_; have GE311 := n3_; clear n0_ n1_ n2_ n3_; clear hb hbox hg) | ((with_reducible refine gate_dst (N := 3) rfl ?_); refine box_event ?hg (N := 3) ?hd (cs := #[.slice A1_0 l1_0.length c1_0, .int .i64 a1_1, .int .i64 a1_2]) (t := 37) ?hr ?_; (case hd => rfl); (case hg => rfl); (case hr => first | (go_simp; done) | (go_simp; rfl)); intro gb312 hg w32 hbox hb; have n0_ := am (blk_below (g := gb311) (o := .cells #[.slice A0_0 l0_0.length c0_0, .int .i64 a0_1, .int .i64 a0_2] 37 (0, 0)) zq96 hb); have n1_ := am (below_step zq94 hb); have n2_ := am (hbox); have n3_ := am ((zq114 : w.heap.size ≤ gb312)); have n4_ := am ((zq114 : w.heap.size ≤ gb312)); have n5_ := am ((zq107 : gb311 ≠ gb312)); have n6_ := am ((zq108 : gb312 ≠ gb311)); clear BK311; clear HB; have BK311 := n0_; have HB := n1_; have BK312 := n2_; have GW312 := n3_; have GE312 := n4_; have NB311_312 := n5_; have NB312_311 := n6_; clear n0_ n1_ n2_ n3_ n4_ n5_ n6_; clear hb hbox hg; have hnb33 := NB311_312.out; have hnc33 := NB312_311.out; have hcz34_0 : w32.cell? ⟨gb311, 0, none⟩ = some (.slice A0_0 l0_0.length c0_0) := (blk_cell BK311.out 0).trans rfl; have hcz34_1 : w32.cell? ⟨gb311, 1, none⟩ = some (.int .i64 a0_1) := (blk_cell BK311.out 1).trans rfl; have hcz34_2 : w32.cell? ⟨gb311, 2, none⟩ = some (.int .i64 a0_2) := (blk_cell BK311.out 2).trans rfl; have hfz34_0 := blk_frozen BK311.out 0; have hfz34_1 := blk_frozen BK311.out 1; have hfz34_2 := blk_frozen BK311.out 2; have hcz35_0 : w32.cell? ⟨gb312, 0, none⟩ = some (.slice A1_0 l1_0.length c1_0) := (blk_cell BK312.out 0).trans rfl; have hcz35_1 : w32.cell? ⟨gb312, 1, none⟩ = some (.int .i64 a1_1) := (blk_cell BK312.out 1).trans rfl; have hcz35_2 : w32.cell? ⟨gb312, 2, none⟩ = some (.int .i64 a1_2) := (blk_cell BK312.out 2).trans rfl; have hfz35_0 := blk_frozen BK312.out 0; have hfz35_1 := blk_frozen BK312.out 1; have hfz35_2 := blk_frozen BK312.out 2) | ((with_reducible refine gate_callee (f := 27) rfl ?_); refine goesL_ (some 9) rfl rfl Tryd.func27 zq21 rfl #[.agg #[.slice A0_0 l0_0.length c0_0], .agg #[.slice A1_0 l1_0.length c1_0]] rfl zq1 ?_; (with_reducible refine (laws_eqProgram.calls k _ _ l0_0 _ _ l1_0 false _ ?side1 ?side2 ?side3 ?side4 A3.out).mono ?_); (case side1 => repeat (first | exact (Kd.C_below HR0_0.out HB.out) | (with_reducible refine Kd.C_alloc ?_ _) | (with_reducible refine Kd.C_drewN ?_ _) | (with_reducible refine Kd.C_drew ?_))); (case side2 => exact HC0_0.out); (case side3 => repeat (first | exact (Kd.C_below HR1_0.out HB.out) | (with_reducible refine Kd.C_alloc ?_ _) | (with_reducible refine Kd.C_drewN ?_ _) | (with_reducible refine Kd.C_drew ?_))); (case side4 => exact HC1_0.out); rintro e w36 ⟨rfl, hb⟩; refine ⟨_, rfl, ?_⟩; have n0_ := am (blk_below (g := gb311) (o := .cells #[.slice A0_0 l0_0.length c0_0, .int .i64 a0_1, .int .i64 a0_2] 37 (0, 0)) zq96 hb); have n1_ := am (blk_below (g := gb312) (o := .cells #[.slice A1_0 l1_0.length c1_0, .int .i64 a1_1, .int .i64 a1_2] 37 (0, 0)) zq113 hb); have n2_ := am (below_step zq98 hb); clear BK311; clear BK312; clear HB; have BK311 := n0_; have BK312 := n1_; have HB := n2_; clear n0_ n1_ n2_; (try clear hb); (try clear hb2); (try clear hk); (try clear hi)))
  go_ret
  exact ⟨zq2, zq98⟩
def laws_eqLog.f (a0_0 : ByteArray) (a0_1 : ByteArray) (a0_2 : Int) (a1_0 : ByteArray) (a1_1 : ByteArray) (a1_2 : Int) : Option (Bool) := if a0_0.toList = a1_0.toList then (if a0_1.toList = a1_1.toList then (if a0_2 = a1_2 then (some true) else (some false)) else (some false)) else (some false)
set_option maxHeartbeats 8000000 in
set_option maxRecDepth 100000 in
theorem laws_eqLog.calls (a0_0 : ByteArray) (a0_1 : ByteArray) (a0_2 : Int) (a1_0 : ByteArray) (a1_1 : ByteArray) (a1_2 : Int) (r : Bool) (w : World) (h : laws_eqLog.f a0_0 a0_1 a0_2 a1_0 a1_1 a1_2 = some r) :
  Calls Tryd.prog 18 #[.agg #[.string a0_0, .string a0_1, .int .i64 a0_2], .agg #[.string a1_0, .string a1_1, .int .i64 a1_2]] w fun e w' => e = .returned (.bool r) ∧ Below w.heap.size w w' := by
 have hu38 := Tryd.underlying38
 have HB := am (Below.refl w.heap.size w)
 have H : (if a0_0.toList = a1_0.toList then (if a0_1.toList = a1_1.toList then (if a0_2 = a1_2 then (some true) else (some false)) else (some false)) else (some false)) = some r := h
 clear h
 by_cases c3 : a0_0.toList = a1_0.toList
 ·rw [if_pos c3] at H
  have c3b0 : (a0_0.toList == a1_0.toList) = true := beq_iff_eq.mpr c3
  have c3b1 : (a0_0.toList != a1_0.toList) = false := bne_eq_false_iff_eq.mpr c3
  clear c3
  by_cases c4 : a0_1.toList = a1_1.toList
  ·rw [if_pos c4] at H
   have c4b0 : (a0_1.toList == a1_1.toList) = true := beq_iff_eq.mpr c4
   have c4b1 : (a0_1.toList != a1_1.toList) = false := bne_eq_false_iff_eq.mpr c4
   clear c4
   by_cases c5 : a0_2 = a1_2
   ·rw [if_pos c5] at H
    have c5b0 : (a0_2 == a1_2) = true := beq_iff_eq.mpr c5
    have c5b1 : (a0_2 != a1_2) = false := bne_eq_false_iff_eq.mpr c5
    clear c5
    obtain rfl := Option.some.inj H
    go_enter Tryd.func18, Tryd.ntmps18
    go_wp2_with (first | ((with_reducible refine gate_dst (N := 2) rfl ?_); refine box_event ?hg (N := 2) ?hd (cs := #[.string a0_0, .string a0_1, .int .i64 a0_2]) (t := 38) ?hr ?_; (case hd => rfl); (case hg => rfl); (case hr => first | (go_simp; done) | (go_simp; rfl)); intro gb314 hg w6 hbox hb; have n0_ := am (below_step zq0 hb); have n1_ := am (hbox); have n2_ := am ((zq4 : w.heap.size ≤ gb314)); have n3_ := am ((zq4 : w.heap.size ≤ gb314)); clear HB; have HB := n0_; have BK314 := n1_; have GW314 := n2_; have GE314 := n3_; clear n0_ n1_ n2_ n3_; clear hb hbox hg) | ((with_reducible refine gate_dst (N := 3) rfl ?_); refine box_event ?hg (N := 3) ?hd (cs := #[.string a1_0, .string a1_1, .int .i64 a1_2]) (t := 38) ?hr ?_; (case hd => rfl); (case hg => rfl); (case hr => first | (go_simp; done) | (go_simp; rfl)); intro gb315 hg w7 hbox hb; have n0_ := am (blk_below (g := gb314) (o := .cells #[.string a0_0, .string a0_1, .int .i64 a0_2] 38 (0, 0)) zq101 hb); have n1_ := am (below_step zq95 hb); have n2_ := am (hbox); have n3_ := am ((zq115 : w.heap.size ≤ gb315)); have n4_ := am ((zq115 : w.heap.size ≤ gb315)); have n5_ := am ((zq109 : gb314 ≠ gb315)); have n6_ := am ((zq110 : gb315 ≠ gb314)); clear BK314; clear HB; have BK314 := n0_; have HB := n1_; have BK315 := n2_; have GW315 := n3_; have GE315 := n4_; have NB314_315 := n5_; have NB315_314 := n6_; clear n0_ n1_ n2_ n3_ n4_ n5_ n6_; clear hb hbox hg; have hnb8 := NB314_315.out; have hnc8 := NB315_314.out; have hcz9_0 : w7.cell? ⟨gb314, 0, none⟩ = some (.string a0_0) := (blk_cell BK314.out 0).trans rfl; have hcz9_1 : w7.cell? ⟨gb314, 1, none⟩ = some (.string a0_1) := (blk_cell BK314.out 1).trans rfl; have hcz9_2 : w7.cell? ⟨gb314, 2, none⟩ = some (.int .i64 a0_2) := (blk_cell BK314.out 2).trans rfl; have hfz9_0 := blk_frozen BK314.out 0; have hfz9_1 := blk_frozen BK314.out 1; have hfz9_2 := blk_frozen BK314.out 2; have hcz10_0 : w7.cell? ⟨gb315, 0, none⟩ = some (.string a1_0) := (blk_cell BK315.out 0).trans rfl; have hcz10_1 : w7.cell? ⟨gb315, 1, none⟩ = some (.string a1_1) := (blk_cell BK315.out 1).trans rfl; have hcz10_2 : w7.cell? ⟨gb315, 2, none⟩ = some (.int .i64 a1_2) := (blk_cell BK315.out 2).trans rfl; have hfz10_0 := blk_frozen BK315.out 0; have hfz10_1 := blk_frozen BK315.out 1; have hfz10_2 := blk_frozen BK315.out 2))
    go_ret
    exact ⟨zq2, zq105⟩
   ·rw [if_neg c5] at H
    have c5b0 : (a0_2 == a1_2) = false := beq_eq_false_iff_ne.mpr c5
    have c5b1 : (a0_2 != a1_2) = true := bne_iff_ne.mpr c5
    obtain rfl := Option.some.inj H
    go_enter Tryd.func18, Tryd.ntmps18
    go_wp2_with (first | ((with_reducible refine gate_dst (N := 2) rfl ?_); refine box_event ?hg (N := 2) ?hd (cs := #[.string a0_0, .string a0_1, .int .i64 a0_2]) (t := 38) ?hr ?_; (case hd => rfl); (case hg => rfl); (case hr => first | (go_simp; done) | (go_simp; rfl)); intro gb314 hg w11 hbox hb; have n0_ := am (below_step zq0 hb); have n1_ := am (hbox); have n2_ := am ((zq4 : w.heap.size ≤ gb314)); have n3_ := am ((zq4 : w.heap.size ≤ gb314)); clear HB; have HB := n0_; have BK314 := n1_; have GW314 := n2_; have GE314 := n3_; clear n0_ n1_ n2_ n3_; clear hb hbox hg) | ((with_reducible refine gate_dst (N := 3) rfl ?_); refine box_event ?hg (N := 3) ?hd (cs := #[.string a1_0, .string a1_1, .int .i64 a1_2]) (t := 38) ?hr ?_; (case hd => rfl); (case hg => rfl); (case hr => first | (go_simp; done) | (go_simp; rfl)); intro gb315 hg w12 hbox hb; have n0_ := am (blk_below (g := gb314) (o := .cells #[.string a0_0, .string a0_1, .int .i64 a0_2] 38 (0, 0)) zq101 hb); have n1_ := am (below_step zq95 hb); have n2_ := am (hbox); have n3_ := am ((zq115 : w.heap.size ≤ gb315)); have n4_ := am ((zq115 : w.heap.size ≤ gb315)); have n5_ := am ((zq109 : gb314 ≠ gb315)); have n6_ := am ((zq110 : gb315 ≠ gb314)); clear BK314; clear HB; have BK314 := n0_; have HB := n1_; have BK315 := n2_; have GW315 := n3_; have GE315 := n4_; have NB314_315 := n5_; have NB315_314 := n6_; clear n0_ n1_ n2_ n3_ n4_ n5_ n6_; clear hb hbox hg; have hnb13 := NB314_315.out; have hnc13 := NB315_314.out; have hcz14_0 : w12.cell? ⟨gb314, 0, none⟩ = some (.string a0_0) := (blk_cell BK314.out 0).trans rfl; have hcz14_1 : w12.cell? ⟨gb314, 1, none⟩ = some (.string a0_1) := (blk_cell BK314.out 1).trans rfl; have hcz14_2 : w12.cell? ⟨gb314, 2, none⟩ = some (.int .i64 a0_2) := (blk_cell BK314.out 2).trans rfl; have hfz14_0 := blk_frozen BK314.out 0; have hfz14_1 := blk_frozen BK314.out 1; have hfz14_2 := blk_frozen BK314.out 2; have hcz15_0 : w12.cell? ⟨gb315, 0, none⟩ = some (.string a1_0) := (blk_cell BK315.out 0).trans rfl; have hcz15_1 : w12.cell? ⟨gb315, 1, none⟩ = some (.string a1_1) := (blk_cell BK315.out 1).trans rfl; have hcz15_2 : w12.cell? ⟨gb315, 2, none⟩ = some (.int .i64 a1_2) := (blk_cell BK315.out 2).trans rfl; have hfz15_0 := blk_frozen BK315.out 0; have hfz15_1 := blk_frozen BK315.out 1; have hfz15_2 := blk_frozen BK315.out 2))
    go_ret
    exact ⟨zq2, zq105⟩
  ·rw [if_neg c4] at H
   have c4b0 : (a0_1.toList == a1_1.toList) = false := beq_eq_false_iff_ne.mpr c4
   have c4b1 : (a0_1.toList != a1_1.toList) = true := bne_iff_ne.mpr c4
   obtain rfl := Option.some.inj H
   go_enter Tryd.func18, Tryd.ntmps18
   go_wp2_with (first | ((with_reducible refine gate_dst (N := 2) rfl ?_); refine box_event ?hg (N := 2) ?hd (cs := #[.string a0_0, .string a0_1, .int .i64 a0_2]) (t := 38) ?hr ?_; (case hd => rfl); (case hg => rfl); (case hr => first | (go_simp; done) | (go_simp; rfl)); intro gb314 hg w16 hbox hb; have n0_ := am (below_step zq0 hb); have n1_ := am (hbox); have n2_ := am ((zq4 : w.heap.size ≤ gb314)); have n3_ := am ((zq4 : w.heap.size ≤ gb314)); clear HB; have HB := n0_; have BK314 := n1_; have GW314 := n2_; have GE314 := n3_; clear n0_ n1_ n2_ n3_; clear hb hbox hg) | ((with_reducible refine gate_dst (N := 3) rfl ?_); refine box_event ?hg (N := 3) ?hd (cs := #[.string a1_0, .string a1_1, .int .i64 a1_2]) (t := 38) ?hr ?_; (case hd => rfl); (case hg => rfl); (case hr => first | (go_simp; done) | (go_simp; rfl)); intro gb315 hg w17 hbox hb; have n0_ := am (blk_below (g := gb314) (o := .cells #[.string a0_0, .string a0_1, .int .i64 a0_2] 38 (0, 0)) zq101 hb); have n1_ := am (below_step zq95 hb); have n2_ := am (hbox); have n3_ := am ((zq115 : w.heap.size ≤ gb315)); have n4_ := am ((zq115 : w.heap.size ≤ gb315)); have n5_ := am ((zq109 : gb314 ≠ gb315)); have n6_ := am ((zq110 : gb315 ≠ gb314)); clear BK314; clear HB; have BK314 := n0_; have HB := n1_; have BK315 := n2_; have GW315 := n3_; have GE315 := n4_; have NB314_315 := n5_; have NB315_314 := n6_; clear n0_ n1_ n2_ n3_ n4_ n5_ n6_; clear hb hbox hg; have hnb18 := NB314_315.out; have hnc18 := NB315_314.out; have hcz19_0 : w17.cell? ⟨gb314, 0, none⟩ = some (.string a0_0) := (blk_cell BK314.out 0).trans rfl; have hcz19_1 : w17.cell? ⟨gb314, 1, none⟩ = some (.string a0_1) := (blk_cell BK314.out 1).trans rfl; have hcz19_2 : w17.cell? ⟨gb314, 2, none⟩ = some (.int .i64 a0_2) := (blk_cell BK314.out 2).trans rfl; have hfz19_0 := blk_frozen BK314.out 0; have hfz19_1 := blk_frozen BK314.out 1; have hfz19_2 := blk_frozen BK314.out 2; have hcz20_0 : w17.cell? ⟨gb315, 0, none⟩ = some (.string a1_0) := (blk_cell BK315.out 0).trans rfl; have hcz20_1 : w17.cell? ⟨gb315, 1, none⟩ = some (.string a1_1) := (blk_cell BK315.out 1).trans rfl; have hcz20_2 : w17.cell? ⟨gb315, 2, none⟩ = some (.int .i64 a1_2) := (blk_cell BK315.out 2).trans rfl; have hfz20_0 := blk_frozen BK315.out 0; have hfz20_1 := blk_frozen BK315.out 1; have hfz20_2 := blk_frozen BK315.out 2))
   go_ret
   exact ⟨zq2, zq105⟩
 ·rw [if_neg c3] at H
  have c3b0 : (a0_0.toList == a1_0.toList) = false := beq_eq_false_iff_ne.mpr c3
  have c3b1 : (a0_0.toList != a1_0.toList) = true := bne_iff_ne.mpr c3
  obtain rfl := Option.some.inj H
  go_enter Tryd.func18, Tryd.ntmps18
  go_wp2_with (first | ((with_reducible refine gate_dst (N := 2) rfl ?_); refine box_event ?hg (N := 2) ?hd (cs := #[.string a0_0, .string a0_1, .int .i64 a0_2]) (t := 38) ?hr ?_; (case hd => rfl); (case hg => rfl); (case hr => first | (go_simp; done) | (go_simp; rfl)); intro gb314 hg w21 hbox hb; have n0_ := am (below_step zq0 hb); have n1_ := am (hbox); have n2_ := am ((zq4 : w.heap.size ≤ gb314)); have n3_ := am ((zq4 : w.heap.size ≤ gb314)); clear HB; have HB := n0_; have BK314 := n1_; have GW314 := n2_; have GE314 := n3_; clear n0_ n1_ n2_ n3_; clear hb hbox hg) | ((with_reducible refine gate_dst (N := 3) rfl ?_); refine box_event ?hg (N := 3) ?hd (cs := #[.string a1_0, .string a1_1, .int .i64 a1_2]) (t := 38) ?hr ?_; (case hd => rfl); (case hg => rfl); (case hr => first | (go_simp; done) | (go_simp; rfl)); intro gb315 hg w22 hbox hb; have n0_ := am (blk_below (g := gb314) (o := .cells #[.string a0_0, .string a0_1, .int .i64 a0_2] 38 (0, 0)) zq101 hb); have n1_ := am (below_step zq95 hb); have n2_ := am (hbox); have n3_ := am ((zq115 : w.heap.size ≤ gb315)); have n4_ := am ((zq115 : w.heap.size ≤ gb315)); have n5_ := am ((zq109 : gb314 ≠ gb315)); have n6_ := am ((zq110 : gb315 ≠ gb314)); clear BK314; clear HB; have BK314 := n0_; have HB := n1_; have BK315 := n2_; have GW315 := n3_; have GE315 := n4_; have NB314_315 := n5_; have NB315_314 := n6_; clear n0_ n1_ n2_ n3_ n4_ n5_ n6_; clear hb hbox hg; have hnb23 := NB314_315.out; have hnc23 := NB315_314.out; have hcz24_0 : w22.cell? ⟨gb314, 0, none⟩ = some (.string a0_0) := (blk_cell BK314.out 0).trans rfl; have hcz24_1 : w22.cell? ⟨gb314, 1, none⟩ = some (.string a0_1) := (blk_cell BK314.out 1).trans rfl; have hcz24_2 : w22.cell? ⟨gb314, 2, none⟩ = some (.int .i64 a0_2) := (blk_cell BK314.out 2).trans rfl; have hfz24_0 := blk_frozen BK314.out 0; have hfz24_1 := blk_frozen BK314.out 1; have hfz24_2 := blk_frozen BK314.out 2; have hcz25_0 : w22.cell? ⟨gb315, 0, none⟩ = some (.string a1_0) := (blk_cell BK315.out 0).trans rfl; have hcz25_1 : w22.cell? ⟨gb315, 1, none⟩ = some (.string a1_1) := (blk_cell BK315.out 1).trans rfl; have hcz25_2 : w22.cell? ⟨gb315, 2, none⟩ = some (.int .i64 a1_2) := (blk_cell BK315.out 2).trans rfl; have hfz25_0 := blk_frozen BK315.out 0; have hfz25_1 := blk_frozen BK315.out 1; have hfz25_2 := blk_frozen BK315.out 2))
  go_ret
  exact ⟨zq2, zq105⟩
def laws_eqConsole.f (k : Nat) (l0_0 : List (List (S66))) (a0_1 : Int) (a0_2 : Int) (a0_3 : ByteArray) (a0_4 : ByteArray) (a0_5 : Int) (l1_0 : List (List (S66))) (a1_1 : Int) (a1_2 : Int) (a1_3 : ByteArray) (a1_4 : ByteArray) (a1_5 : Int) : Option (Bool) := (laws_eqBench.f k l0_0 a0_1 a0_2 l1_0 a1_1 a1_2).bind fun t318 => (if t318 = true then ((laws_eqLog.f a0_3 a0_4 a0_5 a1_3 a1_4 a1_5).bind fun t319 => (if t319 = true then (some true) else (some false))) else (some false))
set_option maxHeartbeats 8000000 in
set_option maxRecDepth 100000 in
theorem laws_eqConsole.calls (k : Nat) (A0_0 : Option Addr) (c0_0 : Nat) (l0_0 : List (List (S66))) (a0_1 : Int) (a0_2 : Int) (a0_3 : ByteArray) (a0_4 : ByteArray) (a0_5 : Int) (A1_0 : Option Addr) (c1_0 : Nat) (l1_0 : List (List (S66))) (a1_1 : Int) (a1_2 : Int) (a1_3 : ByteArray) (a1_4 : ByteArray) (a1_5 : Int) (r : Bool) (w : World) (hr0_0 : Kd.C (Kd.slice 66 k66) w A0_0 l0_0.length l0_0) (hc0_0 : l0_0.length ≤ c0_0) (hr1_0 : Kd.C (Kd.slice 66 k66) w A1_0 l1_0.length l1_0) (hc1_0 : l1_0.length ≤ c1_0) (h : laws_eqConsole.f k l0_0 a0_1 a0_2 a0_3 a0_4 a0_5 l1_0 a1_1 a1_2 a1_3 a1_4 a1_5 = some r) :
  Calls Tryd.prog 8 #[.agg #[.slice A0_0 l0_0.length c0_0, .int .i64 a0_1, .int .i64 a0_2, .string a0_3, .string a0_4, .int .i64 a0_5], .agg #[.slice A1_0 l1_0.length c1_0, .int .i64 a1_1, .int .i64 a1_2, .string a1_3, .string a1_4, .int .i64 a1_5]] w fun e w' => e = .returned (.bool r) ∧ Below w.heap.size w w' := by
 have hu40 := Tryd.underlying40
 have hu37 := Tryd.underlying37
 have hu38 := Tryd.underlying38
 have HR0_0 := am hr0_0
 have HC0_0 := am hc0_0
 clear hr0_0 hc0_0
 have HR1_0 := am hr1_0
 have HC1_0 := am hc1_0
 clear hr1_0 hc1_0
 have HB := am (Below.refl w.heap.size w)
 have H : ((laws_eqBench.f k l0_0 a0_1 a0_2 l1_0 a1_1 a1_2).bind fun t318 => (if t318 = true then ((laws_eqLog.f a0_3 a0_4 a0_5 a1_3 a1_4 a1_5).bind fun t319 => (if t319 = true then (some true) else (some false))) else (some false))) = some r := h
 clear h
 replace H := bem H
 obtain ⟨t318, A30, H⟩ := H
 replace H : (if t318 = true then ((laws_eqLog.f a0_3 a0_4 a0_5 a1_3 a1_4 a1_5).bind fun t319 => (if t319 = true then (some true) else (some false))) else (some false)) = some r := H
 have A3 := am A30
 clear A30
 by_cases c4 : t318 = true
 ·subst c4
  have H1 : ((laws_eqLog.f a0_3 a0_4 a0_5 a1_3 a1_4 a1_5).bind fun t319 => (if t319 = true then (some true) else (some false))) = some r := by rw [if_pos rfl] at H; exact H
  clear H
  have H := H1
  clear H1
  replace H := bem H
  obtain ⟨t319, A50, H⟩ := H
  replace H : (if t319 = true then (some true) else (some false)) = some r := H
  have A5 := am A50
  clear A50
  by_cases c6 : t319 = true
  ·subst c6
   have H1 : (some true) = some r := by rw [if_pos rfl] at H; exact H
   clear H
   have H := H1
   clear H1
   obtain rfl := Option.some.inj H
   go_enter Tryd.func8, Tryd.ntmps8
   go_wp2_with (first | ((with_reducible refine gate_dst (N := 2) rfl ?_); refine box_event ?hg (N := 2) ?hd (cs := #[.slice A0_0 l0_0.length c0_0, .int .i64 a0_1, .int .i64 a0_2, .string a0_3, .string a0_4, .int .i64 a0_5]) (t := 40) ?hr ?_; (case hd => rfl); (case hg => rfl); (case hr => first | (go_simp; done) | (go_simp; rfl)); intro gb316 hg w7 hbox hb; have n0_ := am (below_step zq0 hb); have n1_ := am (hbox); have n2_ := am ((zq4 : w.heap.size ≤ gb316)); have n3_ := am ((zq4 : w.heap.size ≤ gb316)); clear HB; have HB := n0_; have BK316 := n1_; have GW316 := n2_; have GE316 := n3_; clear n0_ n1_ n2_ n3_; clear hb hbox hg) | ((with_reducible refine gate_dst (N := 3) rfl ?_); refine box_event ?hg (N := 3) ?hd (cs := #[.slice A1_0 l1_0.length c1_0, .int .i64 a1_1, .int .i64 a1_2, .string a1_3, .string a1_4, .int .i64 a1_5]) (t := 40) ?hr ?_; (case hd => rfl); (case hg => rfl); (case hr => first | (go_simp; done) | (go_simp; rfl)); intro gb317 hg w8 hbox hb; have n0_ := am (blk_below (g := gb316) (o := .cells #[.slice A0_0 l0_0.length c0_0, .int .i64 a0_1, .int .i64 a0_2, .string a0_3, .string a0_4, .int .i64 a0_5] 40 (0, 0)) zq97 hb); have n1_ := am (below_step zq100 hb); have n2_ := am (hbox); have n3_ := am ((zq135 : w.heap.size ≤ gb317)); have n4_ := am ((zq135 : w.heap.size ≤ gb317)); have n5_ := am ((zq111 : gb316 ≠ gb317)); have n6_ := am ((zq112 : gb317 ≠ gb316)); clear BK316; clear HB; have BK316 := n0_; have HB := n1_; have BK317 := n2_; have GW317 := n3_; have GE317 := n4_; have NB316_317 := n5_; have NB317_316 := n6_; clear n0_ n1_ n2_ n3_ n4_ n5_ n6_; clear hb hbox hg; have hnb9 := NB316_317.out; have hnc9 := NB317_316.out; have hcz10_0 : w8.cell? ⟨gb316, 0, none⟩ = some (.slice A0_0 l0_0.length c0_0) := (blk_cell BK316.out 0).trans rfl; have hcz10_1 : w8.cell? ⟨gb316, 1, none⟩ = some (.int .i64 a0_1) := (blk_cell BK316.out 1).trans rfl; have hcz10_2 : w8.cell? ⟨gb316, 2, none⟩ = some (.int .i64 a0_2) := (blk_cell BK316.out 2).trans rfl; have hcz10_3 : w8.cell? ⟨gb316, 3, none⟩ = some (.string a0_3) := (blk_cell BK316.out 3).trans rfl; have hcz10_4 : w8.cell? ⟨gb316, 4, none⟩ = some (.string a0_4) := (blk_cell BK316.out 4).trans rfl; have hcz10_5 : w8.cell? ⟨gb316, 5, none⟩ = some (.int .i64 a0_5) := (blk_cell BK316.out 5).trans rfl; have hfz10_0 := blk_frozen BK316.out 0; have hfz10_1 := blk_frozen BK316.out 1; have hfz10_2 := blk_frozen BK316.out 2; have hfz10_3 := blk_frozen BK316.out 3; have hfz10_4 := blk_frozen BK316.out 4; have hfz10_5 := blk_frozen BK316.out 5; have hcz11_0 : w8.cell? ⟨gb317, 0, none⟩ = some (.slice A1_0 l1_0.length c1_0) := (blk_cell BK317.out 0).trans rfl; have hcz11_1 : w8.cell? ⟨gb317, 1, none⟩ = some (.int .i64 a1_1) := (blk_cell BK317.out 1).trans rfl; have hcz11_2 : w8.cell? ⟨gb317, 2, none⟩ = some (.int .i64 a1_2) := (blk_cell BK317.out 2).trans rfl; have hcz11_3 : w8.cell? ⟨gb317, 3, none⟩ = some (.string a1_3) := (blk_cell BK317.out 3).trans rfl; have hcz11_4 : w8.cell? ⟨gb317, 4, none⟩ = some (.string a1_4) := (blk_cell BK317.out 4).trans rfl; have hcz11_5 : w8.cell? ⟨gb317, 5, none⟩ = some (.int .i64 a1_5) := (blk_cell BK317.out 5).trans rfl; have hfz11_0 := blk_frozen BK317.out 0; have hfz11_1 := blk_frozen BK317.out 1; have hfz11_2 := blk_frozen BK317.out 2; have hfz11_3 := blk_frozen BK317.out 3; have hfz11_4 := blk_frozen BK317.out 4; have hfz11_5 := blk_frozen BK317.out 5) | ((with_reducible refine gate_callee (f := 17) rfl ?_); refine goesL_ (some 9) rfl rfl Tryd.func17 zq21 rfl #[.agg #[.slice A0_0 l0_0.length c0_0, .int .i64 a0_1, .int .i64 a0_2], .agg #[.slice A1_0 l1_0.length c1_0, .int .i64 a1_1, .int .i64 a1_2]] rfl zq1 ?_; (with_reducible refine (laws_eqBench.calls k _ _ l0_0 a0_1 a0_2 _ _ l1_0 a1_1 a1_2 true _ ?side1 ?side2 ?side3 ?side4 A3.out).mono ?_); (case side1 => repeat (first | exact (Kd.C_below HR0_0.out HB.out) | (with_reducible refine Kd.C_alloc ?_ _) | (with_reducible refine Kd.C_drewN ?_ _) | (with_reducible refine Kd.C_drew ?_))); (case side2 => exact HC0_0.out); (case side3 => repeat (first | exact (Kd.C_below HR1_0.out HB.out) | (with_reducible refine Kd.C_alloc ?_ _) | (with_reducible refine Kd.C_drewN ?_ _) | (with_reducible refine Kd.C_drew ?_))); (case side4 => exact HC1_0.out); rintro e w12 ⟨rfl, hb⟩; refine ⟨_, rfl, ?_⟩; have n0_ := am (blk_below (g := gb316) (o := .cells #[.slice A0_0 l0_0.length c0_0, .int .i64 a0_1, .int .i64 a0_2, .string a0_3, .string a0_4, .int .i64 a0_5] 40 (0, 0)) zq97 hb); have n1_ := am (blk_below (g := gb317) (o := .cells #[.slice A1_0 l1_0.length c1_0, .int .i64 a1_1, .int .i64 a1_2, .string a1_3, .string a1_4, .int .i64 a1_5] 40 (0, 0)) zq106 hb); have n2_ := am (below_step zq99 hb); clear BK316; clear BK317; clear HB; have BK316 := n0_; have BK317 := n1_; have HB := n2_; clear n0_ n1_ n2_; (try clear hb); (try clear hb2); (try clear hk); (try clear hi); have hcz13_0 : w12.cell? ⟨gb316, 0, none⟩ = some (.slice A0_0 l0_0.length c0_0) := (blk_cell BK316.out 0).trans rfl; have hcz13_1 : w12.cell? ⟨gb316, 1, none⟩ = some (.int .i64 a0_1) := (blk_cell BK316.out 1).trans rfl; have hcz13_2 : w12.cell? ⟨gb316, 2, none⟩ = some (.int .i64 a0_2) := (blk_cell BK316.out 2).trans rfl; have hcz13_3 : w12.cell? ⟨gb316, 3, none⟩ = some (.string a0_3) := (blk_cell BK316.out 3).trans rfl; have hcz13_4 : w12.cell? ⟨gb316, 4, none⟩ = some (.string a0_4) := (blk_cell BK316.out 4).trans rfl; have hcz13_5 : w12.cell? ⟨gb316, 5, none⟩ = some (.int .i64 a0_5) := (blk_cell BK316.out 5).trans rfl; have hfz13_0 := blk_frozen BK316.out 0; have hfz13_1 := blk_frozen BK316.out 1; have hfz13_2 := blk_frozen BK316.out 2; have hfz13_3 := blk_frozen BK316.out 3; have hfz13_4 := blk_frozen BK316.out 4; have hfz13_5 := blk_frozen BK316.out 5; have hcz14_0 : w12.cell? ⟨gb317, 0, none⟩ = some (.slice A1_0 l1_0.length c1_0) := (blk_cell BK317.out 0).trans rfl; have hcz14_1 : w12.cell? ⟨gb317, 1, none⟩ = some (.int .i64 a1_1) := (blk_cell BK317.out 1).trans rfl; have hcz14_2 : w12.cell? ⟨gb317, 2, none⟩ = some (.int .i64 a1_2) := (blk_cell BK317.out 2).trans rfl; have hcz14_3 : w12.cell? ⟨gb317, 3, none⟩ = some (.string a1_3) := (blk_cell BK317.out 3).trans rfl; have hcz14_4 : w12.cell? ⟨gb317, 4, none⟩ = some (.string a1_4) := (blk_cell BK317.out 4).trans rfl; have hcz14_5 : w12.cell? ⟨gb317, 5, none⟩ = some (.int .i64 a1_5) := (blk_cell BK317.out 5).trans rfl; have hfz14_0 := blk_frozen BK317.out 0; have hfz14_1 := blk_frozen BK317.out 1; have hfz14_2 := blk_frozen BK317.out 2; have hfz14_3 := blk_frozen BK317.out 3; have hfz14_4 := blk_frozen BK317.out 4; have hfz14_5 := blk_frozen BK317.out 5) | ((with_reducible refine gate_callee (f := 18) rfl ?_); refine goesL_ (some 15) rfl rfl Tryd.func18 zq21 rfl #[.agg #[.string a0_3, .string a0_4, .int .i64 a0_5], .agg #[.string a1_3, .string a1_4, .int .i64 a1_5]] rfl zq1 ?_; (with_reducible refine (laws_eqLog.calls a0_3 a0_4 a0_5 a1_3 a1_4 a1_5 true _ A5.out).mono ?_); rintro e w15 ⟨rfl, hb⟩; refine ⟨_, rfl, ?_⟩; have n0_ := am (blk_below (g := gb316) (o := .cells #[.slice A0_0 l0_0.length c0_0, .int .i64 a0_1, .int .i64 a0_2, .string a0_3, .string a0_4, .int .i64 a0_5] 40 (0, 0)) zq97 hb); have n1_ := am (blk_below (g := gb317) (o := .cells #[.slice A1_0 l1_0.length c1_0, .int .i64 a1_1, .int .i64 a1_2, .string a1_3, .string a1_4, .int .i64 a1_5] 40 (0, 0)) zq106 hb); have n2_ := am (below_step zq99 hb); clear BK316; clear BK317; clear HB; have BK316 := n0_; have BK317 := n1_; have HB := n2_; clear n0_ n1_ n2_; (try clear hb); (try clear hb2); (try clear hk); (try clear hi)))
   go_ret
   exact ⟨zq2, zq99⟩
  ·replace c6 := Bool.eq_false_iff.mpr c6
   subst c6
   have H1 : (some false) = some r := by rw [if_neg (show ¬ (false = true) by decide)] at H; exact H
   clear H
   have H := H1
   clear H1
   obtain rfl := Option.some.inj H
   go_enter Tryd.func8, Tryd.ntmps8
   go_wp2_with (first | ((with_reducible refine gate_dst (N := 2) rfl ?_); refine box_event ?hg (N := 2) ?hd (cs := #[.slice A0_0 l0_0.length c0_0, .int .i64 a0_1, .int .i64 a0_2, .string a0_3, .string a0_4, .int .i64 a0_5]) (t := 40) ?hr ?_; (case hd => rfl); (case hg => rfl); (case hr => first | (go_simp; done) | (go_simp; rfl)); intro gb316 hg w16 hbox hb; have n0_ := am (below_step zq0 hb); have n1_ := am (hbox); have n2_ := am ((zq4 : w.heap.size ≤ gb316)); have n3_ := am ((zq4 : w.heap.size ≤ gb316)); clear HB; have HB := n0_; have BK316 := n1_; have GW316 := n2_; have GE316 := n3_; clear n0_ n1_ n2_ n3_; clear hb hbox hg) | ((with_reducible refine gate_dst (N := 3) rfl ?_); refine box_event ?hg (N := 3) ?hd (cs := #[.slice A1_0 l1_0.length c1_0, .int .i64 a1_1, .int .i64 a1_2, .string a1_3, .string a1_4, .int .i64 a1_5]) (t := 40) ?hr ?_; (case hd => rfl); (case hg => rfl); (case hr => first | (go_simp; done) | (go_simp; rfl)); intro gb317 hg w17 hbox hb; have n0_ := am (blk_below (g := gb316) (o := .cells #[.slice A0_0 l0_0.length c0_0, .int .i64 a0_1, .int .i64 a0_2, .string a0_3, .string a0_4, .int .i64 a0_5] 40 (0, 0)) zq97 hb); have n1_ := am (below_step zq100 hb); have n2_ := am (hbox); have n3_ := am ((zq135 : w.heap.size ≤ gb317)); have n4_ := am ((zq135 : w.heap.size ≤ gb317)); have n5_ := am ((zq111 : gb316 ≠ gb317)); have n6_ := am ((zq112 : gb317 ≠ gb316)); clear BK316; clear HB; have BK316 := n0_; have HB := n1_; have BK317 := n2_; have GW317 := n3_; have GE317 := n4_; have NB316_317 := n5_; have NB317_316 := n6_; clear n0_ n1_ n2_ n3_ n4_ n5_ n6_; clear hb hbox hg; have hnb18 := NB316_317.out; have hnc18 := NB317_316.out; have hcz19_0 : w17.cell? ⟨gb316, 0, none⟩ = some (.slice A0_0 l0_0.length c0_0) := (blk_cell BK316.out 0).trans rfl; have hcz19_1 : w17.cell? ⟨gb316, 1, none⟩ = some (.int .i64 a0_1) := (blk_cell BK316.out 1).trans rfl; have hcz19_2 : w17.cell? ⟨gb316, 2, none⟩ = some (.int .i64 a0_2) := (blk_cell BK316.out 2).trans rfl; have hcz19_3 : w17.cell? ⟨gb316, 3, none⟩ = some (.string a0_3) := (blk_cell BK316.out 3).trans rfl; have hcz19_4 : w17.cell? ⟨gb316, 4, none⟩ = some (.string a0_4) := (blk_cell BK316.out 4).trans rfl; have hcz19_5 : w17.cell? ⟨gb316, 5, none⟩ = some (.int .i64 a0_5) := (blk_cell BK316.out 5).trans rfl; have hfz19_0 := blk_frozen BK316.out 0; have hfz19_1 := blk_frozen BK316.out 1; have hfz19_2 := blk_frozen BK316.out 2; have hfz19_3 := blk_frozen BK316.out 3; have hfz19_4 := blk_frozen BK316.out 4; have hfz19_5 := blk_frozen BK316.out 5; have hcz20_0 : w17.cell? ⟨gb317, 0, none⟩ = some (.slice A1_0 l1_0.length c1_0) := (blk_cell BK317.out 0).trans rfl; have hcz20_1 : w17.cell? ⟨gb317, 1, none⟩ = some (.int .i64 a1_1) := (blk_cell BK317.out 1).trans rfl; have hcz20_2 : w17.cell? ⟨gb317, 2, none⟩ = some (.int .i64 a1_2) := (blk_cell BK317.out 2).trans rfl; have hcz20_3 : w17.cell? ⟨gb317, 3, none⟩ = some (.string a1_3) := (blk_cell BK317.out 3).trans rfl; have hcz20_4 : w17.cell? ⟨gb317, 4, none⟩ = some (.string a1_4) := (blk_cell BK317.out 4).trans rfl; have hcz20_5 : w17.cell? ⟨gb317, 5, none⟩ = some (.int .i64 a1_5) := (blk_cell BK317.out 5).trans rfl; have hfz20_0 := blk_frozen BK317.out 0; have hfz20_1 := blk_frozen BK317.out 1; have hfz20_2 := blk_frozen BK317.out 2; have hfz20_3 := blk_frozen BK317.out 3; have hfz20_4 := blk_frozen BK317.out 4; have hfz20_5 := blk_frozen BK317.out 5) | ((with_reducible refine gate_callee (f := 17) rfl ?_); refine goesL_ (some 9) rfl rfl Tryd.func17 zq21 rfl #[.agg #[.slice A0_0 l0_0.length c0_0, .int .i64 a0_1, .int .i64 a0_2], .agg #[.slice A1_0 l1_0.length c1_0, .int .i64 a1_1, .int .i64 a1_2]] rfl zq1 ?_; (with_reducible refine (laws_eqBench.calls k _ _ l0_0 a0_1 a0_2 _ _ l1_0 a1_1 a1_2 true _ ?side1 ?side2 ?side3 ?side4 A3.out).mono ?_); (case side1 => repeat (first | exact (Kd.C_below HR0_0.out HB.out) | (with_reducible refine Kd.C_alloc ?_ _) | (with_reducible refine Kd.C_drewN ?_ _) | (with_reducible refine Kd.C_drew ?_))); (case side2 => exact HC0_0.out); (case side3 => repeat (first | exact (Kd.C_below HR1_0.out HB.out) | (with_reducible refine Kd.C_alloc ?_ _) | (with_reducible refine Kd.C_drewN ?_ _) | (with_reducible refine Kd.C_drew ?_))); (case side4 => exact HC1_0.out); rintro e w21 ⟨rfl, hb⟩; refine ⟨_, rfl, ?_⟩; have n0_ := am (blk_below (g := gb316) (o := .cells #[.slice A0_0 l0_0.length c0_0, .int .i64 a0_1, .int .i64 a0_2, .string a0_3, .string a0_4, .int .i64 a0_5] 40 (0, 0)) zq97 hb); have n1_ := am (blk_below (g := gb317) (o := .cells #[.slice A1_0 l1_0.length c1_0, .int .i64 a1_1, .int .i64 a1_2, .string a1_3, .string a1_4, .int .i64 a1_5] 40 (0, 0)) zq106 hb); have n2_ := am (below_step zq99 hb); clear BK316; clear BK317; clear HB; have BK316 := n0_; have BK317 := n1_; have HB := n2_; clear n0_ n1_ n2_; (try clear hb); (try clear hb2); (try clear hk); (try clear hi); have hcz22_0 : w21.cell? ⟨gb316, 0, none⟩ = some (.slice A0_0 l0_0.length c0_0) := (blk_cell BK316.out 0).trans rfl; have hcz22_1 : w21.cell? ⟨gb316, 1, none⟩ = some (.int .i64 a0_1) := (blk_cell BK316.out 1).trans rfl; have hcz22_2 : w21.cell? ⟨gb316, 2, none⟩ = some (.int .i64 a0_2) := (blk_cell BK316.out 2).trans rfl; have hcz22_3 : w21.cell? ⟨gb316, 3, none⟩ = some (.string a0_3) := (blk_cell BK316.out 3).trans rfl; have hcz22_4 : w21.cell? ⟨gb316, 4, none⟩ = some (.string a0_4) := (blk_cell BK316.out 4).trans rfl; have hcz22_5 : w21.cell? ⟨gb316, 5, none⟩ = some (.int .i64 a0_5) := (blk_cell BK316.out 5).trans rfl; have hfz22_0 := blk_frozen BK316.out 0; have hfz22_1 := blk_frozen BK316.out 1; have hfz22_2 := blk_frozen BK316.out 2; have hfz22_3 := blk_frozen BK316.out 3; have hfz22_4 := blk_frozen BK316.out 4; have hfz22_5 := blk_frozen BK316.out 5; have hcz23_0 : w21.cell? ⟨gb317, 0, none⟩ = some (.slice A1_0 l1_0.length c1_0) := (blk_cell BK317.out 0).trans rfl; have hcz23_1 : w21.cell? ⟨gb317, 1, none⟩ = some (.int .i64 a1_1) := (blk_cell BK317.out 1).trans rfl; have hcz23_2 : w21.cell? ⟨gb317, 2, none⟩ = some (.int .i64 a1_2) := (blk_cell BK317.out 2).trans rfl; have hcz23_3 : w21.cell? ⟨gb317, 3, none⟩ = some (.string a1_3) := (blk_cell BK317.out 3).trans rfl; have hcz23_4 : w21.cell? ⟨gb317, 4, none⟩ = some (.string a1_4) := (blk_cell BK317.out 4).trans rfl; have hcz23_5 : w21.cell? ⟨gb317, 5, none⟩ = some (.int .i64 a1_5) := (blk_cell BK317.out 5).trans rfl; have hfz23_0 := blk_frozen BK317.out 0; have hfz23_1 := blk_frozen BK317.out 1; have hfz23_2 := blk_frozen BK317.out 2; have hfz23_3 := blk_frozen BK317.out 3; have hfz23_4 := blk_frozen BK317.out 4; have hfz23_5 := blk_frozen BK317.out 5) | ((with_reducible refine gate_callee (f := 18) rfl ?_); refine goesL_ (some 15) rfl rfl Tryd.func18 zq21 rfl #[.agg #[.string a0_3, .string a0_4, .int .i64 a0_5], .agg #[.string a1_3, .string a1_4, .int .i64 a1_5]] rfl zq1 ?_; (with_reducible refine (laws_eqLog.calls a0_3 a0_4 a0_5 a1_3 a1_4 a1_5 false _ A5.out).mono ?_); rintro e w24 ⟨rfl, hb⟩; refine ⟨_, rfl, ?_⟩; have n0_ := am (blk_below (g := gb316) (o := .cells #[.slice A0_0 l0_0.length c0_0, .int .i64 a0_1, .int .i64 a0_2, .string a0_3, .string a0_4, .int .i64 a0_5] 40 (0, 0)) zq97 hb); have n1_ := am (blk_below (g := gb317) (o := .cells #[.slice A1_0 l1_0.length c1_0, .int .i64 a1_1, .int .i64 a1_2, .string a1_3, .string a1_4, .int .i64 a1_5] 40 (0, 0)) zq106 hb); have n2_ := am (below_step zq99 hb); clear BK316; clear BK317; clear HB; have BK316 := n0_; have BK317 := n1_; have HB := n2_; clear n0_ n1_ n2_; (try clear hb); (try clear hb2); (try clear hk); (try clear hi)))
   go_ret
   exact ⟨zq2, zq99⟩
 ·replace c4 := Bool.eq_false_iff.mpr c4
  subst c4
  have H1 : (some false) = some r := by rw [if_neg (show ¬ (false = true) by decide)] at H; exact H
  clear H
  have H := H1
  clear H1
  obtain rfl := Option.some.inj H
  go_enter Tryd.func8, Tryd.ntmps8
  go_wp2_with (first | ((with_reducible refine gate_dst (N := 2) rfl ?_); refine box_event ?hg (N := 2) ?hd (cs := #[.slice A0_0 l0_0.length c0_0, .int .i64 a0_1, .int .i64 a0_2, .string a0_3, .string a0_4, .int .i64 a0_5]) (t := 40) ?hr ?_; (case hd => rfl); (case hg => rfl); (case hr => first | (go_simp; done) | (go_simp; rfl)); intro gb316 hg w25 hbox hb; have n0_ := am (below_step zq0 hb); have n1_ := am (hbox); have n2_ := am ((zq4 : w.heap.size ≤ gb316)); have n3_ := am ((zq4 : w.heap.size ≤ gb316)); clear HB; have HB := n0_; have BK316 := n1_; have GW316 := n2_; have GE316 := n3_; clear n0_ n1_ n2_ n3_; clear hb hbox hg) | ((with_reducible refine gate_dst (N := 3) rfl ?_); refine box_event ?hg (N := 3) ?hd (cs := #[.slice A1_0 l1_0.length c1_0, .int .i64 a1_1, .int .i64 a1_2, .string a1_3, .string a1_4, .int .i64 a1_5]) (t := 40) ?hr ?_; (case hd => rfl); (case hg => rfl); (case hr => first | (go_simp; done) | (go_simp; rfl)); intro gb317 hg w26 hbox hb; have n0_ := am (blk_below (g := gb316) (o := .cells #[.slice A0_0 l0_0.length c0_0, .int .i64 a0_1, .int .i64 a0_2, .string a0_3, .string a0_4, .int .i64 a0_5] 40 (0, 0)) zq97 hb); have n1_ := am (below_step zq100 hb); have n2_ := am (hbox); have n3_ := am ((zq135 : w.heap.size ≤ gb317)); have n4_ := am ((zq135 : w.heap.size ≤ gb317)); have n5_ := am ((zq111 : gb316 ≠ gb317)); have n6_ := am ((zq112 : gb317 ≠ gb316)); clear BK316; clear HB; have BK316 := n0_; have HB := n1_; have BK317 := n2_; have GW317 := n3_; have GE317 := n4_; have NB316_317 := n5_; have NB317_316 := n6_; clear n0_ n1_ n2_ n3_ n4_ n5_ n6_; clear hb hbox hg; have hnb27 := NB316_317.out; have hnc27 := NB317_316.out; have hcz28_0 : w26.cell? ⟨gb316, 0, none⟩ = some (.slice A0_0 l0_0.length c0_0) := (blk_cell BK316.out 0).trans rfl; have hcz28_1 : w26.cell? ⟨gb316, 1, none⟩ = some (.int .i64 a0_1) := (blk_cell BK316.out 1).trans rfl; have hcz28_2 : w26.cell? ⟨gb316, 2, none⟩ = some (.int .i64 a0_2) := (blk_cell BK316.out 2).trans rfl; have hcz28_3 : w26.cell? ⟨gb316, 3, none⟩ = some (.string a0_3) := (blk_cell BK316.out 3).trans rfl; have hcz28_4 : w26.cell? ⟨gb316, 4, none⟩ = some (.string a0_4) := (blk_cell BK316.out 4).trans rfl; have hcz28_5 : w26.cell? ⟨gb316, 5, none⟩ = some (.int .i64 a0_5) := (blk_cell BK316.out 5).trans rfl; have hfz28_0 := blk_frozen BK316.out 0; have hfz28_1 := blk_frozen BK316.out 1; have hfz28_2 := blk_frozen BK316.out 2; have hfz28_3 := blk_frozen BK316.out 3; have hfz28_4 := blk_frozen BK316.out 4; have hfz28_5 := blk_frozen BK316.out 5; have hcz29_0 : w26.cell? ⟨gb317, 0, none⟩ = some (.slice A1_0 l1_0.length c1_0) := (blk_cell BK317.out 0).trans rfl; have hcz29_1 : w26.cell? ⟨gb317, 1, none⟩ = some (.int .i64 a1_1) := (blk_cell BK317.out 1).trans rfl; have hcz29_2 : w26.cell? ⟨gb317, 2, none⟩ = some (.int .i64 a1_2) := (blk_cell BK317.out 2).trans rfl; have hcz29_3 : w26.cell? ⟨gb317, 3, none⟩ = some (.string a1_3) := (blk_cell BK317.out 3).trans rfl; have hcz29_4 : w26.cell? ⟨gb317, 4, none⟩ = some (.string a1_4) := (blk_cell BK317.out 4).trans rfl; have hcz29_5 : w26.cell? ⟨gb317, 5, none⟩ = some (.int .i64 a1_5) := (blk_cell BK317.out 5).trans rfl; have hfz29_0 := blk_frozen BK317.out 0; have hfz29_1 := blk_frozen BK317.out 1; have hfz29_2 := blk_frozen BK317.out 2; have hfz29_3 := blk_frozen BK317.out 3; have hfz29_4 := blk_frozen BK317.out 4; have hfz29_5 := blk_frozen BK317.out 5) | ((with_reducible refine gate_callee (f := 17) rfl ?_); refine goesL_ (some 9) rfl rfl Tryd.func17 zq21 rfl #[.agg #[.slice A0_0 l0_0.length c0_0, .int .i64 a0_1, .int .i64 a0_2], .agg #[.slice A1_0 l1_0.length c1_0, .int .i64 a1_1, .int .i64 a1_2]] rfl zq1 ?_; (with_reducible refine (laws_eqBench.calls k _ _ l0_0 a0_1 a0_2 _ _ l1_0 a1_1 a1_2 false _ ?side1 ?side2 ?side3 ?side4 A3.out).mono ?_); (case side1 => repeat (first | exact (Kd.C_below HR0_0.out HB.out) | (with_reducible refine Kd.C_alloc ?_ _) | (with_reducible refine Kd.C_drewN ?_ _) | (with_reducible refine Kd.C_drew ?_))); (case side2 => exact HC0_0.out); (case side3 => repeat (first | exact (Kd.C_below HR1_0.out HB.out) | (with_reducible refine Kd.C_alloc ?_ _) | (with_reducible refine Kd.C_drewN ?_ _) | (with_reducible refine Kd.C_drew ?_))); (case side4 => exact HC1_0.out); rintro e w30 ⟨rfl, hb⟩; refine ⟨_, rfl, ?_⟩; have n0_ := am (blk_below (g := gb316) (o := .cells #[.slice A0_0 l0_0.length c0_0, .int .i64 a0_1, .int .i64 a0_2, .string a0_3, .string a0_4, .int .i64 a0_5] 40 (0, 0)) zq97 hb); have n1_ := am (blk_below (g := gb317) (o := .cells #[.slice A1_0 l1_0.length c1_0, .int .i64 a1_1, .int .i64 a1_2, .string a1_3, .string a1_4, .int .i64 a1_5] 40 (0, 0)) zq106 hb); have n2_ := am (below_step zq99 hb); clear BK316; clear BK317; clear HB; have BK316 := n0_; have BK317 := n1_; have HB := n2_; clear n0_ n1_ n2_; (try clear hb); (try clear hb2); (try clear hk); (try clear hi)))
  go_ret
  exact ⟨zq2, zq99⟩
end Go.Proofs.YthdhhpcbagpmgaaDoor.Pr
end
