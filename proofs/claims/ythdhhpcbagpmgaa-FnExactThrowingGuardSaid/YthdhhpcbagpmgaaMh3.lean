-- texts of this session, and of the kit's print, cut to what the claim leans on
import Derived.Test.YthdhhpcbagpmgaaMh2
import Derived.Test.YthdhhpcbagpmgaaMh1
import Derived.Test.YthdhhpcbagpmgaaMh0
import Derived.ChangeSame
import Derived.ChangeSlices
section
namespace Go.Proofs.Ythdhhpcbagpmgaa.Pr
open Go.RowKit Go.Proofs.YthdhhpcbagpmgaaW.PrintWords Go.Proofs.YthdhhpcbagpmgaaW.PrintLast Go.Proofs.YthdhhpcbagpmgaaW.PrintMore
attribute [local go_sem] max2_int min2_int max_two min_two max_three min_three max_four min_four
set_option linter.unusedVariables false
set_option linter.unusedSimpArgs false
theorem slice_event {P : Program} {ops : Array Oper} {rest : List Oper} {o : Oper} {a : Act} {Q : Exit → Act → World → Prop} {W : World} (hgd : o.guard = none) {N : Tmp} (_hd : o.dst = some N) {cs : Array Value} {e n : Nat}
  (hrun : (execOp a.eval o).run P W = .ok (.value (.slice (some ⟨W.heap.size, 0, none⟩) n n)) (W.alloc (.cells cs e (0, 0))))
  (h : ∀ g, g = W.heap.size → ∀ w1, w1.heap[g]? = some (.cells cs e (0, 0)) → Below W.heap.size W w1 → wpList P ops Q rest (a.put o.dst (.slice (some ⟨g, 0, none⟩) n n)) w1) : wpList P ops Q (o :: rest) a W :=
 Kd.event_run hgd hrun (h _ rfl _ (blk_new W _) (below_alloc (Below.refl _ _) _))
theorem C1_of_blk {W : World} {gv tv : Nat} {x : S72} (HV : W.heap[gv]? = some (.cells (encS x).toArray tv (0, 0))) : Kd.C k72 W (some ⟨gv, 0, none⟩) 1 [x] :=
 ⟨rfl, by decide, fun _ => ⟨⟨gv, 0, none⟩, rfl, fun j p hj => by
   have hj0 : j = 0 := by have := (List.getElem?_eq_some_iff.1 hj).1; simp at this; omega
   subst hj0
   simp only [List.getElem?_cons_zero, Option.some.injEq] at hj
   subst hj
   exact ⟨encS x, rfl, k72_mk W x, fun q u hu => by rw [add_plain, cells_at HV]; simpa using hu⟩⟩⟩
def putG (an : Nat) (s : S72) (y : List S72) (i : Nat) : List S72 := if i ≤ an then y.take i else y.take an ++ s :: (y.take i).drop an
theorem putG_len (an : Nat) (s : S72) (y : List S72) (i : Nat) (hi : i ≤ y.length) : (putG an s y i).length ≤ i + 1 := by
 unfold putG
 split
 ·rw [List.length_take]; omega
 ·simp only [List.length_append, List.length_take, List.length_cons, List.length_drop]; omega
theorem putG_lt (an : Nat) (s : S72) (y : List S72) (i : Nat) (hi : i < y.length) (h : i ≠ an) : putG an s y i ++ [y[i]] = putG an s y (i + 1) := by
 have ht : y.take (i + 1) = y.take i ++ [y[i]] := by rw [List.take_add_one, List.getElem?_eq_getElem hi]; rfl
 unfold putG
 by_cases h1 : i ≤ an
 ·rw [if_pos h1, if_pos (by omega), ht]
 ·rw [if_neg h1, if_neg (by omega), ht, List.drop_append_of_le_length (by rw [List.length_take]; omega)]
  simp
theorem putG_at (an : Nat) (s : S72) (y : List S72) (hi : an < y.length) : putG an s y an ++ [s] ++ [y[an]] = putG an s y (an + 1) := by
 have ht : y.take (an + 1) = y.take an ++ [y[an]] := by rw [List.take_add_one, List.getElem?_eq_getElem hi]; rfl
 unfold putG
 rw [if_pos (Nat.le_refl _), if_neg (by omega), ht, List.drop_append_of_le_length (by rw [List.length_take]; omega), List.drop_of_length_le (by rw [List.length_take]; omega)]
 simp
def putM (an : Nat) (s : S72) (y : List S72) (i : Nat) : List S72 := if i = an then putG an s y i ++ [s] else putG an s y i
theorem putM_next (an : Nat) (s : S72) (y : List S72) (i : Nat) (hi : i < y.length) : putM an s y i ++ [y[i]] = putG an s y (i + 1) := by
 unfold putM
 by_cases h : i = an
 ·subst h; rw [if_pos rfl]; exact putG_at i s y hi
 ·rw [if_neg h]; exact putG_lt an s y i hi h
theorem putM_end (an : Nat) (s : S72) (y : List S72) (h : an ≤ y.length) : putM an s y y.length = y.take an ++ s :: y.drop an := by
 unfold putM putG
 by_cases h1 : y.length = an
 ·subst h1; rw [if_pos rfl, if_pos (Nat.le_refl _), List.drop_of_length_le (Nat.le_refl _)]
 ·rw [if_neg h1, if_neg (by omega), List.take_of_length_le (Nat.le_refl _)]
theorem putM_len (an : Nat) (s : S72) (y : List S72) (i : Nat) (hi : i ≤ y.length) : (putM an s y i).length ≤ i + 2 := by
 have := putG_len an s y i hi
 unfold putM
 split
 ·rw [List.length_append]; simp only [List.length_cons, List.length_nil]; omega
 ·omega
theorem l1Least.calls (a b : Int) (w : World) : Calls Try.prog 121 #[.int .i64 a, .int .i64 b] w fun e w' => e = .returned (.int .i64 (mn a b)) ∧ Drawn0 w w' := by
 unfold mn
 by_cases h : a < b
 ·rw [if_neg (show ¬ b < a by omega)]
  go_enter Try.func121, Try.ntmps121
  go_wp2
  go_ret
  exact ⟨rfl, Drawn0.refl _⟩
 ·have h2 : (if b < a then b else a) = b := by split <;> omega
  rw [h2]
  clear h2
  go_enter Try.func121, Try.ntmps121
  go_wp2
  go_ret
  exact ⟨rfl, Drawn0.refl _⟩
theorem own_lw (l : List (List S72)) (hl : l.length ≤ 6) (hb : ∀ b ∈ l, b.length ≤ 8) : ∀ (d i : Nat), d + i = l.length → ∀ k, d < k → spec_l2Own.l0 k i l (l.take i) = some l := by
 intro d
 induction d with
 | zero =>
  intro i hd k hk
  obtain ⟨k, rfl⟩ : ∃ z, k = z + 1 := ⟨k - 1, by omega⟩
  rw [spec_l2Own.l0, if_neg (by omega), List.take_of_length_le (by omega)]
 | succ d ih =>
  intro i hd k hk
  obtain ⟨k, rfl⟩ : ∃ z, k = z + 1 := ⟨k - 1, by omega⟩
  have hi : i < l.length := by omega
  have hbi := hb _ (List.getElem_mem hi)
  have hrd : rd_L4 l (i : Int) = l[i] := by unfold rd_L4; rw [Int.toNat_natCast, List.getD_eq_getElem?_getD, List.getElem?_eq_getElem hi]; rfl
  rw [spec_l2Own.l0, if_pos (by omega), Option.bind_some, if_pos (by omega), hrd, if_pos (by simp only [List.length_nil]; omega), if_pos (by rw [List.length_take]; omega), wrap_near (by omega) (by omega), List.nil_append]
  have : l.take i ++ [l[i]] = l.take (i + 1) := by rw [List.take_add_one, List.getElem?_eq_getElem hi]; rfl
  rw [this]
  exact_mod_cast ih (i + 1) (by omega) k (by omega)
theorem own_small (l : List (List S72)) (hl : l.length ≤ 6) (hb : ∀ b ∈ l, b.length ≤ 8) : spec_l2Own.f 100 l = some l := by
 unfold spec_l2Own.f
 have := own_lw l hl hb l.length 0 (by omega) 100 (by omega)
 rw [Int.natCast_zero, List.take_zero] at this
 exact this
def L2Post (w : World) (r : List (List S72)) (e : Ending) (w' : World) : Prop := ∃ v0_ : Value, e = .returned (.agg #[v0_]) ∧ Kd.S (Kd.slice 72 k72) 108 w' w.heap.size (fun _ => True) v0_ r ∧ Below w.heap.size w w'
set_option maxHeartbeats 8000000 in
set_option maxRecDepth 100000 in
theorem l2Put_walk (A : Option Addr) (c : Nat) (l : List (List S72)) (fn an : Nat) (k a b : Int) (w : World) (hr : Kd.C (Kd.slice 72 k72) w A l.length l) (hc : l.length ≤ c) (hfn : fn < l.length) (hl6 : l.length ≤ 6)
  (hOwn : spec_l2Own.f 100 l = some l) (ha : an ≤ (l.getD fn []).length) (hx8 : (l.getD fn []).length ≤ 8) (hj : ∀ s ∈ l.getD fn [], s.f0 = 11 → 0 ≤ s.f1 ∧ s.f1 ≤ 8) :
  Calls Try.prog 95 #[.agg #[.slice A l.length c], .int .i64 fn, .int .i64 an, .agg #[.int .i64 k, .int .i64 a, .int .i64 b]] w (L2Post w (l.set fn (putB an ⟨k, a, b⟩ (l.getD fn [])))) := by
 have hu28 := Try.underlying28
 have hu26 := Try.underlying26
 have hu72 := Try.underlying72
 have hlz : (fn : Int) < (l.length : Int) := by omega
 have e105 : ∀ args w, (callFunc 105 args).run Try.prog w = .ok (.enter 105 args) w := enters_of Try.func105 (by kernel_rfl) rfl
 have e121 : ∀ args w, (callFunc 121 args).run Try.prog w = .ok (.enter 121 args) w := enters_of Try.func121 (by kernel_rfl) rfl
 obtain ⟨ad, A1, c1, eA, hx0, hc1, hC1⟩ := at_L4 hr (fn : Int) (by omega) hlz
 subst eA
 change w.cell? (ad.add (fn : Int).toNat) = some (.slice A1 (l.getD (fn : Int).toNat []).length c1) at hx0
 change Kd.C k72 w A1 (l.getD (fn : Int).toNat []).length (l.getD (fn : Int).toNat []) at hC1
 rw [Int.toNat_natCast] at hx0 hC1
 have hadb : (ad.add fn).block < w.heap.size := World.block_lt_of_cell? w _ hx0
 generalize hx : l.getD fn [] = x at *
 generalize hm : x.length = m at *
 have HX := Aside0.mk (And.intro hx0 (And.intro hadb (And.intro hC1 (And.intro hx (And.intro hm (And.intro hOwn (And.intro hj hl6)))))))
 have HR := Aside0.mk hr
 clear hr hx0 hadb hc1 hC1 hx hm hOwn hj
 go_enter Try.func95, Try.ntmps95
 go_upto_region 1 with fail
 obtain ⟨w3, hw3⟩ : ∃ w3, w3 = B3 w (some ad) l.length c k a b := ⟨_, rfl⟩
 have hf := B3_facts w (some ad) l.length c k a b
 rw [← hw3] at hf
 change Code.wp _ _ _ _ (B3 w (some ad) l.length c k a b)
 rw [← hw3]
 obtain ⟨g, hg⟩ : ∃ g, g = w.heap.size := ⟨_, rfl⟩
 have HG := Aside0.mk hg
 rw [← hg] at hf ⊢
 have HF := Aside0.mk hf
 have hc4 : w3.cell? ⟨g, 0, none⟩ = some (.slice (some ad) l.length c) := (blk_cell hf.2.1 0).trans rfl
 clear hw3 hg hf
 go_upto_region 2 with (first
  | (go_at_fn 105; refine (spec_l2Own.calls 100 (some ad) c l l _ (Kd.C_below HR.out (by rw [← HG.out]; exact HF.out.1)) hc HX.out.2.2.2.2.2.1).mono ?_; rintro e w4 ⟨v1, rfl, hs, hb⟩; obtain ⟨go, co, ev1, hgo1, hgo2, _⟩ := Kd.S_form hs (by omega); subst ev1; have F4 := Aside0.mk (And.intro hs (And.intro hb (And.intro hgo1 hgo2))); clear hs hb hgo1 hgo2)
  | ((with_reducible refine gate_dst (N := 15) rfl ?_); refine slice_event ?hg (N := 15) ?hd (cs := #[]) (e := 72) (n := 0) ?hr ?_; (case hd => rfl); (case hg => rfl); (case hr => first | (go_simp; done) | (go_simp; rfl)); intro g15 hg15 w5 hbox hb; have F5 := Aside0.mk (And.intro hbox (And.intro hb hg15)); clear hbox hb hg15)
  | ((with_reducible refine gate_dst (N := 9) rfl ?_); refine box_event ?hg (N := 9) ?hd (cs := #[.slice none 0 0]) (t := 28) ?hr ?_; (case hd => rfl); (case hg => rfl); (case hr => first | (go_simp; done) | (go_simp; rfl)); intro g9 hg9 w6 hbox hb; have hc9 : w6.cell? ⟨g9, 0, none⟩ = some (.slice none 0 0) := (blk_cell hbox 0).trans rfl; have hf9 := blk_frozen hbox 0; have F6 := Aside0.mk (And.intro hbox (And.intro hb hg9)); clear hbox hb hg9))
 obtain ⟨w7, hw7⟩ : ∃ w7, w7 = w6.setCell ⟨g9, 0, none⟩ (.slice (some ⟨go, 0, none⟩) l.length co) := ⟨_, rfl⟩
 rw [← hw7]
 have hb36 : Below w3.heap.size w3 w6 := below_step (below_step F4.out.2.1 F5.out.2.1) F6.out.2.1
 have hb37 : Below w3.heap.size w3 w7 := by rw [hw7]; exact below_set hb36 (by rw [F6.out.2.2]; exact Nat.le_trans F4.out.2.1.size F5.out.2.1.size)
 have hbw : Below w.heap.size w w7 := below_step (by have := HF.out.1; rwa [HG.out] at this) hb37
 have C4 : w7.heap[g]? = _ := blk_below HF.out.2.1 hb37
 have C7 : w7.heap[g + 1]? = _ := blk_below HF.out.2.2.1 hb37
 have C8 : w7.heap[g + 1 + 1]? = _ := blk_below HF.out.2.2.2.1 hb37
 have C9 : w7.heap[g9]? = some (.cells #[.slice (some ⟨go, 0, none⟩) l.length co] 28 (0, 0)) := by rw [hw7]; exact blk_put F6.out.1 0 _ rfl
 have h15 : w7.heap[g15]? = some (.cells #[] 72 (0, 0)) := by rw [hw7]; exact blk_far (blk_below F5.out.1 F6.out.2.1) (by show g15 ≠ g9; have := F6.out.2.2; have := blk_lt F5.out.1; omega) _
 have hz7 : w3.heap.size = g + 3 ∧ w3.heap.size ≤ w4.heap.size ∧ g15 = w4.heap.size ∧ g15 < g9 ∧ g9 < w7.heap.size ∧ g = w.heap.size := ⟨HF.out.2.2.2.2, F4.out.2.1.size, F5.out.2.2, by have := F6.out.2.2; have := blk_lt F5.out.1; omega, blk_lt C9, HG.out⟩
 have hS7 : Kd.S (Kd.slice 72 k72) 108 w7 w3.heap.size (fun q => w3.heap.size ≤ q ∧ q < g15) (.slice (some ⟨go, 0, none⟩) l.length co) l := by
  rw [hw7]
  exact Kd.S_far (Kd.S_below (Kd.S_below (Kd.S_mono (Kd.S_bound F4.out.1) (fun q hq => ⟨hq.2.1, by have := hq.2.2.1; have := F5.out.2.2; omega⟩)) F5.out.2.1) F6.out.2.1) (fun q hq => by show q ≠ g9; omega) _
 have hgo : w3.heap.size ≤ go ∧ go < g15 := (Kd.S_R hS7).1 go rfl
 have hR0 : Kd.R k72 72 w7 g15 (fun q => g15 ≤ q ∧ q ≠ g9) (.slice (some ⟨g15, 0, none⟩) 0 0) [] :=
  R72_iff.2 ⟨fun q hq => by simp only [Value.ownBlock, Option.some.injEq] at hq; omega, rfl, .inr ⟨g15, 0, #[], rfl, Nat.le_refl _, h15, Nat.le_refl _, Nat.zero_le _, rfl, rfl⟩⟩
 have F7 := Aside0.mk (And.intro hbw (And.intro C4 (And.intro C7 (And.intro C8 (And.intro C9 (And.intro hS7 (And.intro hgo (And.intro hR0 hz7))))))))
 clear hw7 hb36 hb37 hbw C4 C7 C8 C9 h15 hz7 hS7 hgo hR0 hc9 hf9 hc4 F4 F5 F6 HF HG
 have hm8 : m ≤ 8 := hx8
 obtain ⟨y, hy⟩ : ∃ y, y = x.map (bumpS an) := ⟨_, rfl⟩
 have hyl : y.length = m := by rw [hy, List.length_map]; exact HX.out.2.2.2.2.1
 have HY := Aside0.mk (And.intro hy hyl)
 clear hy hyl
 go_wp2_with fail
 go_loopg [10, 11] (m + 1) (fun gg s10 s11 wr => ∃ (i : Nat) (A' : Option Addr) (c' n' : Nat), i ≤ m ∧ m + 1 - i ≤ gg ∧ s10 = .slice A' n' c' ∧ s11 = .int .i64 i ∧ Aside0 (n' = (putG an ⟨k, a, b⟩ y i).length ∧ Kd.R k72 72 wr g15 (fun q => g15 ≤ q ∧ q ≠ g9) (.slice A' n' c') (putG an ⟨k, a, b⟩ y i) ∧ Below g15 w7 wr ∧ wr.heap[g9]? = some (.cells #[.slice (some ⟨go, 0, none⟩) l.length co] 28 (0, 0)) ∧ g9 < wr.heap.size))
 case atStart => exact ⟨0, some ⟨g15, 0, none⟩, 0, 0, Nat.zero_le _, by omega, rfl, rfl, ⟨by simp [putG], by have h := F7.out.2.2.2.2.2.2.2.1; simpa [putG] using h, Below.refl _ _, F7.out.2.2.2.2.1, F7.out.2.2.2.2.2.2.2.2.2.2.2.2.1⟩⟩
 case round =>
  obtain ⟨i, A', c', n', him, hgg, rfl, rfl, HA⟩ := hrel
  have hile : (i : Int) ≤ (m : Int) := by omega
  have hz7 := F7.out.2.2.2.2.2.2.2.2
  have hlow : ∀ {q : Nat}, q < g15 → wr.heap[q]? = w7.heap[q]? := fun hq => HA.out.2.2.1.block _ hq
  have C4 : wr.heap[g]? = _ := (hlow (by omega)).trans F7.out.2.1
  have C7 : wr.heap[g + 1]? = _ := (hlow (by omega)).trans F7.out.2.2.1
  have hbwr : Below w.heap.size w wr := F7.out.1.trans (HA.out.2.2.1.mono (by omega))
  have hc4 : wr.cell? ⟨g, 0, none⟩ = some (.slice (some ad) l.length c) := (blk_cell C4 0).trans rfl
  have hc7_0 : wr.cell? ⟨g + 1, 0, none⟩ = some (.int .i64 k) := (blk_cell C7 0).trans rfl
  have hc7_1 : wr.cell? ⟨g + 1, 1, none⟩ = some (.int .i64 a) := (blk_cell C7 1).trans rfl
  have hc7_2 : wr.cell? ⟨g + 1, 2, none⟩ = some (.int .i64 b) := (blk_cell C7 2).trans rfl
  have hx1 : wr.cell? (ad.add fn) = some (.slice A1 m c1) := (hbwr.cell HX.out.2.1).trans HX.out.1
  clear hlow C4 C7 hbwr hz7
  by_cases hia : i = an
  have hia1 : ((i : Int) == (an : Int)) = true := by rw [hia]; simp
  have hia2 : (i == an) = true := by rw [hia]; simp
  have HI := Aside0.mk hia
  clear hia
  go_upto_region 7 with (first | ((with_reducible refine gate_dst (N := 31) rfl ?_); refine slice_event ?hg (N := 31) ?hd (cs := #[.int .i64 k, .int .i64 a, .int .i64 b]) (e := 72) (n := 1) ?hr ?_; (case hd => rfl); (case hg => rfl); (case hr => first | (go_simp; done) | (go_simp; rfl)); intro g31 hg31 w8 hbox hb; have F8 := Aside0.mk (And.intro (show w8.heap[g31]? = some (.cells (encS ⟨k, a, b⟩).toArray 72 (0, 0)) from hbox) (And.intro hb hg31)); clear hbox hb hg31) | ((with_reducible refine gate_dst (N := 32) rfl ?_); refine Kd.R_append_rows k72 (w0 := w7) g15 (by rfl) (.tmp 29) (.tmp 31) 108 72 (.agg #[(.int .i64 0), (.int .i64 0), (.int .i64 0)]) 24 rfl Try.underlying108 info72 rfl (by decide) (by omega) (.slice A' n' c') (putG an ⟨k, a, b⟩ y i) [⟨k, a, b⟩] _ _ _ (fun q => g15 ≤ q ∧ q ≠ g9) (fun _ => False) rfl rfl (Kd.R_below HA.out.2.1 F8.out.2.1) (C1_of_blk F8.out.1) ?aK (fun _ h => h.elim) ?aF ?aB ?aS ?aL ?_; (case aK => intro x cs hx; exact hx); (case aF => intro q hq; have := HA.out.2.2.2.2; have := F8.out.2.1.size; have := HA.out.2.2.1.size; have := F7.out.2.2.2.2.2.2.2.2; exact ⟨by omega, by omega⟩); (case aB => exact below_then HA.out.2.2.1 (by have := HA.out.2.2.1.size; have := F7.out.2.2.2.2.2.2.2.2; omega) F8.out.2.1); (case aS => have := F8.out.2.1.size; have := HA.out.2.2.1.size; have := F7.out.2.2.2.2.2.2.2.2; omega); (case aL => (have := putG_len an ⟨k, a, b⟩ y i (by rw [HY.out.2]; exact him); omega)); intro v1 w1 ho hb hg hat; have F9 := Aside0.mk (And.intro ho (And.intro hb hg)); clear ho hb hg hat))
  obtain ⟨w2, hw2⟩ : ∃ w2, w2 = w1 := ⟨_, rfl⟩
  rw [← hw2] at F9 ⊢
  have hC9 : w2.heap[g9]? = some (.cells #[.slice (some ⟨go, 0, none⟩) l.length co] 28 (0, 0)) := (F9.out.2.2.block _ (by have := blk_lt F8.out.1; have := F8.out.2.2; have := HA.out.2.2.2.2; omega) (fun h => by have := HA.out.2.1.1 g9 h.symm; omega)).trans ((F8.out.2.1.block _ HA.out.2.2.2.2).trans HA.out.2.2.2.1)
  have hR9 := F9.out.1
  obtain ⟨A2, c2, ev⟩ := Kd.R_slice hR9
  rw [ev] at hR9
  generalize hn2 : (putG an ⟨k, a, b⟩ y i ++ [(⟨k, a, b⟩ : S72)]).length = n2 at ev hR9
  subst ev
  have HA2 : Aside0 (n2 = (putM an ⟨k, a, b⟩ y i).length ∧ Kd.R k72 72 w2 g15 (fun q => g15 ≤ q ∧ q ≠ g9) (.slice A2 n2 c2) (putM an ⟨k, a, b⟩ y i) ∧ Below g15 w7 w2 ∧ w2.heap[g9]? = some (.cells #[.slice (some ⟨go, 0, none⟩) l.length co] 28 (0, 0)) ∧ g9 < w2.heap.size) := by
   have hM : putM an ⟨k, a, b⟩ y i = putG an ⟨k, a, b⟩ y i ++ [⟨k, a, b⟩] := by unfold putM; rw [if_pos HI.out]
   rw [hM]
   exact ⟨⟨hn2.symm, hR9, F9.out.2.1, hC9, blk_lt hC9⟩⟩
  clear hw2 hC9 hn2 hR9 F9 F8 HI HA hia1 hia2 hc4 hc7_0 hc7_1 hc7_2 hx1
  rotate_left
  have hia1 : ((i : Int) == (an : Int)) = false := by rw [beq_eq_false_iff_ne]; omega
  have hia2 : (i == an) = false := by rw [beq_eq_false_iff_ne]; exact hia
  have HI := Aside0.mk hia
  clear hia
  go_upto_region 7 with fail
  obtain ⟨w2, hw2⟩ : ∃ w2, w2 = wr := ⟨_, rfl⟩
  rw [← hw2] at HA ⊢
  obtain ⟨A2, hA2⟩ : ∃ A2, A2 = A' := ⟨_, rfl⟩
  obtain ⟨c2, hc2⟩ : ∃ c2, c2 = c' := ⟨_, rfl⟩
  obtain ⟨n2, hn2⟩ : ∃ n2, n2 = n' := ⟨_, rfl⟩
  rw [← hA2, ← hc2, ← hn2] at HA ⊢
  have HA2 : Aside0 (n2 = (putM an ⟨k, a, b⟩ y i).length ∧ Kd.R k72 72 w2 g15 (fun q => g15 ≤ q ∧ q ≠ g9) (.slice A2 n2 c2) (putM an ⟨k, a, b⟩ y i) ∧ Below g15 w7 w2 ∧ w2.heap[g9]? = some (.cells #[.slice (some ⟨go, 0, none⟩) l.length co] 28 (0, 0)) ∧ g9 < w2.heap.size) := by
   have hM : putM an ⟨k, a, b⟩ y i = putG an ⟨k, a, b⟩ y i := by unfold putM; rw [if_neg HI.out]
   rw [hM]
   exact HA
  clear hw2 hA2 hc2 hn2 HI HA hia1 hia2 hc4 hc7_0 hc7_1 hc7_2 hx1
  all_goals
   have hz7 := F7.out.2.2.2.2.2.2.2.2
   have hbw2 : Below w.heap.size w w2 := F7.out.1.trans (HA2.out.2.2.1.mono (by omega))
   have hc4 : w2.cell? ⟨g, 0, none⟩ = some (.slice (some ad) l.length c) := (blk_cell ((HA2.out.2.2.1.block _ (by omega)).trans F7.out.2.1) 0).trans rfl
   have hx1 : w2.cell? (ad.add fn) = some (.slice A1 m c1) := (hbw2.cell HX.out.2.1).trans HX.out.1
   by_cases hil : i = m
   ·have hil1 : ((i : Int) == (m : Int)) = true := by rw [hil]; simp
    have hil2 : (i == m) = true := by rw [hil]; simp
    have HE := Aside0.mk (show Kd.R k72 72 w2 g15 (fun q => g15 ≤ q ∧ q ≠ g9) (.slice A2 n2 c2) (putB an ⟨k, a, b⟩ x) from by
     have h := HA2.out.2.1
     rw [hil, ← HY.out.2, putM_end an _ y (by rw [HY.out.2]; exact ha), HY.out.1] at h
     unfold putB
     rw [Int.toNat_natCast]
     exact h)
    have HB2 := Aside0.mk hbw2
    clear hil hz7 hbw2
    have hc9 : w2.cell? ⟨g9, 0, none⟩ = some (.slice (some ⟨go, 0, none⟩) l.length co) := (blk_cell HA2.out.2.2.2.1 0).trans rfl
    have hS2 := Kd.S_step F7.out.2.2.2.2.2.1 (fun q hq _ => HA2.out.2.2.1.block q hq.2)
    obtain ⟨oki, ce, hcl, hM, hcc, hfr, hoki, hH⟩ := Kd.S_elem hS2 [] (fn : Int) (by omega) hlz
    obtain ⟨vi, rfl, hRi⟩ := hM
    obtain ⟨Ai, ci, evi⟩ := Kd.R_slice hRi
    subst evi
    have hcell : w2.cell? ⟨go, fn, none⟩ = some (.slice Ai (l.getD (fn : Int).toNat []).length ci) := by
     have h := hcc 0 _ rfl
     simpa only [show (Kd.slice 72 k72).sz = 1 from rfl, Nat.mul_one, Nat.add_zero, Int.toNat_natCast] using h
    have hfroz : w2.frozen? ⟨go, fn, none⟩ = false := by
     have h := hfr 0
     simpa only [show (Kd.slice 72 k72).sz = 1 from rfl, Nat.mul_one, Nat.add_zero, Int.toNat_natCast] using h
    generalize (l.getD (fn : Int).toNat []).length = ml at hcell
    have HH := Aside0.mk hH
    clear hS2 hcl hcc hfr hoki hH hRi
    go_upto_region 13 with fail
    obtain ⟨w13, hw13⟩ : ∃ w13, w13 = w2.setCell ⟨go, fn, none⟩ (.slice A2 n2 c2) := ⟨_, rfl⟩
    rw [← hw13]
    have hgo := F7.out.2.2.2.2.2.2.1
    have hz7 := F7.out.2.2.2.2.2.2.2.2
    have hS13 : Kd.S (Kd.slice 72 k72) 108 w13 w3.heap.size (fun q => (w3.heap.size ≤ q ∧ q < g15) ∨ (g15 ≤ q ∧ q ≠ g9)) (.slice (some ⟨go, 0, none⟩) l.length co) (l.set fn (putB an ⟨k, a, b⟩ x)) := by
     have h := (Kd.S_seg (okp := fun q => g15 ≤ q ∧ q ≠ g9) (okg := fun q => g15 ≤ q ∧ q ≠ g9) (ok := fun q => (w3.heap.size ≤ q ∧ q < g15) ∨ (g15 ≤ q ∧ q ≠ g9)) (seg := [.slice A2 n2 c2]) (j := 0) (x' := putB an ⟨k, a, b⟩ x) (Kd.H_mono HH.out (fun q hq => ⟨.inl hq, by omega⟩)) (by omega) hlz (Nat.le_refl 1) ⟨_, rfl, Kd.R_lower HE.out (by omega)⟩ (fun q hq => .inr hq) (fun q hq => ⟨.inr hq, by omega⟩)).1
     rw [hw13]
     simpa only [show (Kd.slice 72 k72).sz = 1 from rfl, Nat.mul_one, Nat.add_zero, Int.toNat_natCast, World.setCells] using h
    have hk13 : Kept w2 w13 (fun q => q = go) := by rw [hw13]; exact Kept.setCell (S := fun q => q = go) (p := ⟨go, fn, none⟩) (Kept.refl _ _) (.inl rfl) _
    have C9 : w13.heap[g9]? = _ := blk_kept HA2.out.2.2.2.1 hk13 (by omega)
    have C8 : w13.heap[g + 1 + 1]? = _ := blk_kept ((HA2.out.2.2.1.block _ (by omega)).trans F7.out.2.2.2.1) hk13 (by omega)
    have hb13 : Below w.heap.size w w13 := by rw [hw13]; exact below_set HB2.out (by omega)
    have hc9' : w13.cell? ⟨g9, 0, none⟩ = some (.slice (some ⟨go, 0, none⟩) l.length co) := (blk_cell C9 0).trans rfl
    have hc8' : w13.cell? ⟨g + 1 + 1, 0, none⟩ = some (.slice none 0 0) := (blk_cell C8 0).trans rfl
    have hf8' := blk_frozen C8 0
    have F16 := Aside0.mk (And.intro hS13 (And.intro C8 hb13))
    clear hS13 hk13 C8 C9 hb13 hw13 hz7 hgo hcell hfroz hc9 hc4 hx1
    go_wp2
    refine bodyPost_ret (results_cell_row (P := Try.prog) (fn := Try.f95) (ty := 28) rfl _ _ (g + 1 + 1) 28 #[.slice (some ⟨go, 0, none⟩) l.length co] (0, 0) _ rfl (blk_put F16.out.2.1 0 _ rfl) Try.underlying28 rfl rfl) rfl ⟨.slice (some ⟨go, 0, none⟩) l.length co, rfl, ?_, below_set F16.out.2.2 (by have := F7.out.2.2.2.2.2.2.2.2; omega)⟩
    have hz7 := F7.out.2.2.2.2.2.2.2.2
    have h2 := Kd.S_far (p := ⟨g + 1 + 1, 0, none⟩) F16.out.1 (fun q hq => by show q ≠ g + 1 + 1; omega) (.slice (some ⟨go, 0, none⟩) l.length co)
    exact Kd.S_lower (Kd.S_mono h2 (fun _ _ => trivial)) (by omega)
   ·have hil1 : ((i : Int) == (m : Int)) = false := by rw [beq_eq_false_iff_ne]; omega
    have hil2 : (i == m) = false := by rw [beq_eq_false_iff_ne]; exact hil
    have hltz : (i : Int) < (m : Int) := by omega
    have hxl : x.length = m := HX.out.2.2.2.2.1
    have hrdx : rd_T72 x (i : Int) = x[i]'(by omega) := by unfold rd_T72; rw [Int.toNat_natCast, List.getD_eq_getElem?_getD, List.getElem?_eq_getElem (by omega)]; rfl
    have hC1 := HX.out.2.2.1
    obtain ⟨ad1, e1, hy0, hy1, hy2⟩ := at_T72 hC1 (i : Int) (by omega) hltz
    rw [hrdx] at hy0 hy1 hy2
    have hjk := HX.out.2.2.2.2.2.2.1 x[i] (List.getElem_mem (by omega))
    have hyi : y[i]'(by rw [HY.out.2]; omega) = bumpS an x[i] := by simp only [HY.out.1, List.getElem_map]
    have hnext := putM_next an ⟨k, a, b⟩ y i (by rw [HY.out.2]; omega)
    rw [hyi] at hnext
    have hbm := hbw2
    clear hyi hrdx
    generalize x[i] = z at hy0 hy1 hy2 hjk hnext
    obtain ⟨z0, z1, z2⟩ := z
    simp only at hy0 hy1 hy2 hjk
    subst e1
    rw [Int.toNat_natCast] at hy0 hy1 hy2
    replace hy0 := (hbw2.cell (World.block_lt_of_cell? w _ hy0)).trans hy0
    replace hy1 := (hbw2.cell (World.block_lt_of_cell? w _ hy1)).trans hy1
    replace hy2 := (hbw2.cell (World.block_lt_of_cell? w _ hy2)).trans hy2
    have HJ := Aside0.mk (And.intro hjk hnext)
    have him2 : i + 1 ≤ m := by omega
    clear hil hz7 hbw2 hbm hC1 hxl hjk hnext
    go_upto_region 9 with (first | ((with_reducible refine gate_dst (N := 12) rfl ?_); refine box_event ?hg (N := 12) ?hd (cs := #[.int .i64 0, .int .i64 0, .int .i64 0]) (t := 72) ?hr ?_; (case hd => rfl); (case hg => rfl); (case hr => first | (go_simp; done) | (go_simp; rfl)); intro g13 hg13 w9 hbox hb; have hc13_0 : w9.cell? ⟨g13, 0, none⟩ = some (.int .i64 0) := (blk_cell hbox 0).trans rfl; have hc13_1 : w9.cell? ⟨g13, 1, none⟩ = some (.int .i64 0) := (blk_cell hbox 1).trans rfl; have hc13_2 : w9.cell? ⟨g13, 2, none⟩ = some (.int .i64 0) := (blk_cell hbox 2).trans rfl; have hf13_0 := blk_frozen hbox 0; have hf13_1 := blk_frozen hbox 1; have hf13_2 := blk_frozen hbox 2; have F11 := Aside0.mk (And.intro hbox (And.intro hb hg13)); clear hbox hb hg13))
    obtain ⟨w10, hw10⟩ : ∃ w10, w10 = (((w9.setCell ⟨g13, 0, none⟩ (.int .i64 z0)).setCell ⟨g13, 1, none⟩ (.int .i64 z1)).setCell ⟨g13, 2, none⟩ (.int .i64 z2)) := ⟨_, rfl⟩
    rw [← hw10]
    have p0 : (w9.setCell ⟨g13, 0, none⟩ (.int .i64 z0)).heap[g13]? = some (.cells #[.int .i64 z0, .int .i64 0, .int .i64 0] 72 (0, 0)) := blk_put F11.out.1 0 _ rfl
    have p1 : ((w9.setCell ⟨g13, 0, none⟩ (.int .i64 z0)).setCell ⟨g13, 1, none⟩ (.int .i64 z1)).heap[g13]? = some (.cells #[.int .i64 z0, .int .i64 z1, .int .i64 0] 72 (0, 0)) := blk_put p0 1 _ rfl
    have p2 : w10.heap[g13]? = some (.cells #[.int .i64 z0, .int .i64 z1, .int .i64 z2] 72 (0, 0)) := by rw [hw10]; exact blk_put p1 2 _ rfl
    have hb10 : Below w2.heap.size w2 w10 := by rw [hw10]; exact below_set (below_set (below_set F11.out.2.1 (by rw [F11.out.2.2]; exact Nat.le_refl _)) (by rw [F11.out.2.2]; exact Nat.le_refl _)) (by rw [F11.out.2.2]; exact Nat.le_refl _)
    have q0 : w10.cell? ⟨g13, 0, none⟩ = some (.int .i64 z0) := (blk_cell p2 0).trans rfl
    have q1 : w10.cell? ⟨g13, 1, none⟩ = some (.int .i64 z1) := (blk_cell p2 1).trans rfl
    have q2 : w10.cell? ⟨g13, 2, none⟩ = some (.int .i64 z2) := (blk_cell p2 2).trans rfl
    have F12 := Aside0.mk (And.intro hb10 (And.intro p2 F11.out.2.2))
    clear hw10 p0 p1 p2 hb10 hc13_0 hc13_1 hc13_2 hf13_0 hf13_1 hf13_2 hy0 hy1 hy2 hc4 hx1 F11
    have hg13 : g13 < w10.heap.size := blk_lt F12.out.2.1
    by_cases h11 : z0 = 11
    ·subst h11
     by_cases hle : (an : Int) ≤ z1
     ·obtain ⟨v, hv⟩ : ∃ v, v = mn (z1 + 1) 8 := ⟨_, rfl⟩
      have hbV := Aside0.mk (show bumpS an ⟨11, z1, z2⟩ = ⟨11, v, z2⟩ by unfold bumpS; rw [if_pos ⟨rfl, hle⟩, hv])
      have hb1 := (HJ.out.1 rfl).1
      have hb2 := (HJ.out.1 rfl).2
      have hw1 : wrap64 (z1 + 1) = z1 + 1 := wrap_near (by omega) (by omega)
      have hL := fun W => l1Least.calls (z1 + 1) 8 W
      rw [← hv] at hL
      have hq13 := blk_frozen F12.out.2.1 1
      clear hv hg13
      go_upto_region 11 with (first | (go_at_fn 121; refine (hL _).mono ?_; rintro e w' ⟨rfl, ⟨nd, rfl⟩⟩))
      obtain ⟨w14, hw14⟩ : ∃ w14, w14 = (w10.drewN nd).setCell ⟨g13, 1, none⟩ (.int .i64 v) := ⟨_, rfl⟩
      rw [← hw14]
      have p2 : w14.heap[g13]? = some (.cells #[.int .i64 11, .int .i64 v, .int .i64 z2] 72 (0, 0)) := by rw [hw14]; exact blk_put (show (w10.drewN nd).heap[g13]? = _ from F12.out.2.1) 1 _ rfl
      have F10 := Aside0.mk (And.intro (show Below w2.heap.size w2 w14 by rw [hw14]; exact below_set (pw_below_drewN F12.out.1 nd) (by rw [F12.out.2.2]; exact Nat.le_refl _)) True.intro)
      clear q0 q1 q2 hw14 hw1 hL hq13
      have q0 : w14.cell? ⟨g13, 0, none⟩ = some (.int .i64 11) := (blk_cell p2 0).trans rfl
      have q1 : w14.cell? ⟨g13, 1, none⟩ = some (.int .i64 v) := (blk_cell p2 1).trans rfl
      have q2 : w14.cell? ⟨g13, 2, none⟩ = some (.int .i64 z2) := (blk_cell p2 2).trans rfl
      clear p2
      have hbv := hbV.out
      clear hbV
      go_upto_region 4 with (first | ((with_reducible refine gate_dst (N := 65) rfl ?_); refine slice_event ?hg (N := 65) ?hd (cs := #[.int .i64 11, .int .i64 v, .int .i64 z2]) (e := 72) (n := 1) ?hr ?_; (case hd => rfl); (case hg => rfl); (case hr => first | (go_simp; done) | (go_simp; rfl)); intro g31 hg31 w8 hbox hb; have F8 := Aside0.mk (And.intro (show w8.heap[g31]? = some (.cells (encS ⟨11, v, z2⟩).toArray 72 (0, 0)) from hbox) (And.intro hb hg31)); clear hbox hb hg31) | ((with_reducible refine gate_dst (N := 66) rfl ?_); refine Kd.R_append_rows k72 (w0 := w7) g15 (by rfl) (.tmp 63) (.tmp 65) 108 72 (.agg #[(.int .i64 0), (.int .i64 0), (.int .i64 0)]) 24 rfl Try.underlying108 info72 rfl (by decide) (by omega) (.slice A2 n2 c2) (putM an ⟨k, a, b⟩ y i) [⟨11, v, z2⟩] _ _ _ (fun q => g15 ≤ q ∧ q ≠ g9) (fun _ => False) rfl rfl (Kd.R_below (Kd.R_below HA2.out.2.1 F10.out.1) F8.out.2.1) (C1_of_blk F8.out.1) ?aK (fun _ h => h.elim) ?aF ?aB ?aS ?aL ?_; (case aK => intro x cs hx; exact hx); (case aF => intro q hq; have := HA2.out.2.2.2.2; have := F10.out.1.size; have := F8.out.2.1.size; have := HA2.out.2.2.1.size; have := F10.out.1.size; have := F7.out.2.2.2.2.2.2.2.2; exact ⟨by omega, by omega⟩); (case aB => exact below_then (below_then HA2.out.2.2.1 (by have := HA2.out.2.2.1.size; have := F7.out.2.2.2.2.2.2.2.2; omega) F10.out.1) (by have := HA2.out.2.2.1.size; have := F10.out.1.size; have := F7.out.2.2.2.2.2.2.2.2; omega) F8.out.2.1); (case aS => have := F8.out.2.1.size; have := HA2.out.2.2.1.size; have := F10.out.1.size; have := F7.out.2.2.2.2.2.2.2.2; omega); (case aL => (have := putM_len an ⟨k, a, b⟩ y i (by rw [HY.out.2]; exact him); omega)); intro v1 w1 ho hb hg hat; have F9 := Aside0.mk (And.intro ho (And.intro hb hg)); clear ho hb hg hat))
      obtain ⟨A3, c3, ev⟩ := Kd.R_slice F9.out.1
      have hR9 := F9.out.1
      rw [ev] at hR9
      generalize hn3 : (putM an ⟨k, a, b⟩ y i ++ [(⟨11, v, z2⟩ : S72)]).length = n3 at ev hR9
      subst ev
      have hC9 : w1.heap[g9]? = some (.cells #[.slice (some ⟨go, 0, none⟩) l.length co] 28 (0, 0)) := (F9.out.2.2.block _ (by have := blk_lt F8.out.1; have := F8.out.2.2; have := HA2.out.2.2.2.2; have := F10.out.1.size; omega) (fun h => by have := HA2.out.2.1.1 g9 h.symm; omega)).trans ((F8.out.2.1.block _ (by have := HA2.out.2.2.2.2; have := F10.out.1.size; omega)).trans ((F10.out.1.block _ HA2.out.2.2.2.2).trans HA2.out.2.2.2.1))
      have hnx := HJ.out.2
      rw [hbv] at hnx
      rw [hnx] at hR9 hn3
      have FE := Aside0.mk (And.intro hn3.symm (And.intro hR9 (And.intro F9.out.2.1 (And.intro hC9 (blk_lt hC9)))))
      clear hn3 hR9 hC9 hnx F9 F8 F10 HJ
      clear hbv
      go_wp2
      go_roundg (m - i)
      case measure => omega
      case rel => exact ⟨i + 1, A3, c3, n3, by omega, by omega, rfl, by go_num, FE⟩
     ·have HV : bumpS an ⟨11, z1, z2⟩ = ⟨11, z1, z2⟩ := by unfold bumpS; rw [if_neg (fun h => hle h.2)]
      obtain ⟨w14, hw14⟩ : ∃ w14, w14 = w10 := ⟨_, rfl⟩
      have F10 := Aside0.mk (And.intro (show Below w2.heap.size w2 w14 by rw [hw14]; exact F12.out.1) True.intro)
      obtain ⟨v, hv⟩ : ∃ v, v = z1 := ⟨_, rfl⟩
      have hbv : bumpS an ⟨11, z1, z2⟩ = ⟨11, v, z2⟩ := by rw [hv]; exact HV
      have hbV := Aside0.mk hbv
      clear HV hbv hg13
      go_upto_region 11 with fail
      rw [← hw14] at q0 q1 q2 ⊢
      rw [← hv] at q1
      clear hw14 hv
      have hbv := hbV.out
      clear hbV
      go_upto_region 4 with (first | ((with_reducible refine gate_dst (N := 65) rfl ?_); refine slice_event ?hg (N := 65) ?hd (cs := #[.int .i64 11, .int .i64 v, .int .i64 z2]) (e := 72) (n := 1) ?hr ?_; (case hd => rfl); (case hg => rfl); (case hr => first | (go_simp; done) | (go_simp; rfl)); intro g31 hg31 w8 hbox hb; have F8 := Aside0.mk (And.intro (show w8.heap[g31]? = some (.cells (encS ⟨11, v, z2⟩).toArray 72 (0, 0)) from hbox) (And.intro hb hg31)); clear hbox hb hg31) | ((with_reducible refine gate_dst (N := 66) rfl ?_); refine Kd.R_append_rows k72 (w0 := w7) g15 (by rfl) (.tmp 63) (.tmp 65) 108 72 (.agg #[(.int .i64 0), (.int .i64 0), (.int .i64 0)]) 24 rfl Try.underlying108 info72 rfl (by decide) (by omega) (.slice A2 n2 c2) (putM an ⟨k, a, b⟩ y i) [⟨11, v, z2⟩] _ _ _ (fun q => g15 ≤ q ∧ q ≠ g9) (fun _ => False) rfl rfl (Kd.R_below (Kd.R_below HA2.out.2.1 F10.out.1) F8.out.2.1) (C1_of_blk F8.out.1) ?aK (fun _ h => h.elim) ?aF ?aB ?aS ?aL ?_; (case aK => intro x cs hx; exact hx); (case aF => intro q hq; have := HA2.out.2.2.2.2; have := F10.out.1.size; have := F8.out.2.1.size; have := HA2.out.2.2.1.size; have := F10.out.1.size; have := F7.out.2.2.2.2.2.2.2.2; exact ⟨by omega, by omega⟩); (case aB => exact below_then (below_then HA2.out.2.2.1 (by have := HA2.out.2.2.1.size; have := F7.out.2.2.2.2.2.2.2.2; omega) F10.out.1) (by have := HA2.out.2.2.1.size; have := F10.out.1.size; have := F7.out.2.2.2.2.2.2.2.2; omega) F8.out.2.1); (case aS => have := F8.out.2.1.size; have := HA2.out.2.2.1.size; have := F10.out.1.size; have := F7.out.2.2.2.2.2.2.2.2; omega); (case aL => (have := putM_len an ⟨k, a, b⟩ y i (by rw [HY.out.2]; exact him); omega)); intro v1 w1 ho hb hg hat; have F9 := Aside0.mk (And.intro ho (And.intro hb hg)); clear ho hb hg hat))
      obtain ⟨A3, c3, ev⟩ := Kd.R_slice F9.out.1
      have hR9 := F9.out.1
      rw [ev] at hR9
      generalize hn3 : (putM an ⟨k, a, b⟩ y i ++ [(⟨11, v, z2⟩ : S72)]).length = n3 at ev hR9
      subst ev
      have hC9 : w1.heap[g9]? = some (.cells #[.slice (some ⟨go, 0, none⟩) l.length co] 28 (0, 0)) := (F9.out.2.2.block _ (by have := blk_lt F8.out.1; have := F8.out.2.2; have := HA2.out.2.2.2.2; have := F10.out.1.size; omega) (fun h => by have := HA2.out.2.1.1 g9 h.symm; omega)).trans ((F8.out.2.1.block _ (by have := HA2.out.2.2.2.2; have := F10.out.1.size; omega)).trans ((F10.out.1.block _ HA2.out.2.2.2.2).trans HA2.out.2.2.2.1))
      have hnx := HJ.out.2
      rw [hbv] at hnx
      rw [hnx] at hR9 hn3
      have FE := Aside0.mk (And.intro hn3.symm (And.intro hR9 (And.intro F9.out.2.1 (And.intro hC9 (blk_lt hC9)))))
      clear hn3 hR9 hC9 hnx F9 F8 F10 HJ
      clear hbv
      go_wp2
      go_roundg (m - i)
      case measure => omega
      case rel => exact ⟨i + 1, A3, c3, n3, by omega, by omega, rfl, by go_num, FE⟩
    ·have HV : bumpS an ⟨z0, z1, z2⟩ = ⟨z0, z1, z2⟩ := by unfold bumpS; rw [if_neg (fun h => h11 h.1)]
     obtain ⟨w14, hw14⟩ : ∃ w14, w14 = w10 := ⟨_, rfl⟩
     have F10 := Aside0.mk (And.intro (show Below w2.heap.size w2 w14 by rw [hw14]; exact F12.out.1) True.intro)
     obtain ⟨v, hv⟩ : ∃ v, v = z1 := ⟨_, rfl⟩
     have hbv : bumpS an ⟨z0, z1, z2⟩ = ⟨z0, v, z2⟩ := by rw [hv]; exact HV
     have hbV := Aside0.mk hbv
     clear HV hbv hg13
     go_upto_region 11 with fail
     rw [← hw14] at q0 q1 q2 ⊢
     rw [← hv] at q1
     clear hw14 hv
     have hbv := hbV.out
     clear hbV
     go_upto_region 4 with (first | ((with_reducible refine gate_dst (N := 65) rfl ?_); refine slice_event ?hg (N := 65) ?hd (cs := #[.int .i64 z0, .int .i64 v, .int .i64 z2]) (e := 72) (n := 1) ?hr ?_; (case hd => rfl); (case hg => rfl); (case hr => first | (go_simp; done) | (go_simp; rfl)); intro g31 hg31 w8 hbox hb; have F8 := Aside0.mk (And.intro (show w8.heap[g31]? = some (.cells (encS ⟨z0, v, z2⟩).toArray 72 (0, 0)) from hbox) (And.intro hb hg31)); clear hbox hb hg31) | ((with_reducible refine gate_dst (N := 66) rfl ?_); refine Kd.R_append_rows k72 (w0 := w7) g15 (by rfl) (.tmp 63) (.tmp 65) 108 72 (.agg #[(.int .i64 0), (.int .i64 0), (.int .i64 0)]) 24 rfl Try.underlying108 info72 rfl (by decide) (by omega) (.slice A2 n2 c2) (putM an ⟨k, a, b⟩ y i) [⟨z0, v, z2⟩] _ _ _ (fun q => g15 ≤ q ∧ q ≠ g9) (fun _ => False) rfl rfl (Kd.R_below (Kd.R_below HA2.out.2.1 F10.out.1) F8.out.2.1) (C1_of_blk F8.out.1) ?aK (fun _ h => h.elim) ?aF ?aB ?aS ?aL ?_; (case aK => intro x cs hx; exact hx); (case aF => intro q hq; have := HA2.out.2.2.2.2; have := F10.out.1.size; have := F8.out.2.1.size; have := HA2.out.2.2.1.size; have := F10.out.1.size; have := F7.out.2.2.2.2.2.2.2.2; exact ⟨by omega, by omega⟩); (case aB => exact below_then (below_then HA2.out.2.2.1 (by have := HA2.out.2.2.1.size; have := F7.out.2.2.2.2.2.2.2.2; omega) F10.out.1) (by have := HA2.out.2.2.1.size; have := F10.out.1.size; have := F7.out.2.2.2.2.2.2.2.2; omega) F8.out.2.1); (case aS => have := F8.out.2.1.size; have := HA2.out.2.2.1.size; have := F10.out.1.size; have := F7.out.2.2.2.2.2.2.2.2; omega); (case aL => (have := putM_len an ⟨k, a, b⟩ y i (by rw [HY.out.2]; exact him); omega)); intro v1 w1 ho hb hg hat; have F9 := Aside0.mk (And.intro ho (And.intro hb hg)); clear ho hb hg hat))
     obtain ⟨A3, c3, ev⟩ := Kd.R_slice F9.out.1
     have hR9 := F9.out.1
     rw [ev] at hR9
     generalize hn3 : (putM an ⟨k, a, b⟩ y i ++ [(⟨z0, v, z2⟩ : S72)]).length = n3 at ev hR9
     subst ev
     have hC9 : w1.heap[g9]? = some (.cells #[.slice (some ⟨go, 0, none⟩) l.length co] 28 (0, 0)) := (F9.out.2.2.block _ (by have := blk_lt F8.out.1; have := F8.out.2.2; have := HA2.out.2.2.2.2; have := F10.out.1.size; omega) (fun h => by have := HA2.out.2.1.1 g9 h.symm; omega)).trans ((F8.out.2.1.block _ (by have := HA2.out.2.2.2.2; have := F10.out.1.size; omega)).trans ((F10.out.1.block _ HA2.out.2.2.2.2).trans HA2.out.2.2.2.1))
     have hnx := HJ.out.2
     rw [hbv] at hnx
     rw [hnx] at hR9 hn3
     have FE := Aside0.mk (And.intro hn3.symm (And.intro hR9 (And.intro F9.out.2.1 (And.intro hC9 (blk_lt hC9)))))
     clear hn3 hR9 hC9 hnx F9 F8 F10 HJ
     clear hbv
     go_wp2
     go_roundg (m - i)
     case measure => omega
     case rel => exact ⟨i + 1, A3, c3, n3, by omega, by omega, rfl, by go_num, FE⟩
def spec_l2Put.f (l : List (List S72)) (f at_ k a b : Int) : Option (List (List S72)) :=
 if (progOk l && decide (0 ≤ f ∧ f ≤ (l.length : Int) - 1) && decide (0 ≤ at_ ∧ at_ ≤ ((l.getD f.toNat []).length : Int))) = true then some (l.set f.toNat (putB at_ ⟨k, a, b⟩ (l.getD f.toNat []))) else none
theorem spec_l2Put.calls (A0_0 : Option Addr) (c0_0 : Nat) (l0_0 : List (List S72)) (a1 a2 a3_0 a3_1 a3_2 : Int) (r : List (List S72)) (w : World) (hr0_0 : Kd.C (Kd.slice 72 k72) w A0_0 l0_0.length l0_0) (hc0_0 : l0_0.length ≤ c0_0) (h : spec_l2Put.f l0_0 a1 a2 a3_0 a3_1 a3_2 = some r) :
  Calls Try.prog 95 #[.agg #[.slice A0_0 l0_0.length c0_0], .int .i64 a1, .int .i64 a2, .agg #[.int .i64 a3_0, .int .i64 a3_1, .int .i64 a3_2]] w fun e w' => ∃ v0_ : Value, e = .returned (.agg #[v0_]) ∧ Kd.S (Kd.slice 72 k72) 108 w' w.heap.size (fun _ => True) v0_ r ∧ Below w.heap.size w w' := by
 unfold spec_l2Put.f at h
 split at h
 ·rename_i h1
  simp only [Bool.and_eq_true, decide_eq_true_eq] at h1
  obtain ⟨⟨hP, hf0, hf1⟩, ha0, ha1⟩ := h1
  obtain rfl := Option.some.inj h
  obtain ⟨hl1, hl6, hbs⟩ := progOk_len hP
  obtain ⟨fn, rfl⟩ : ∃ fn : Nat, a1 = fn := ⟨a1.toNat, by omega⟩
  obtain ⟨an, rfl⟩ : ∃ an : Nat, a2 = an := ⟨a2.toNat, by omega⟩
  rw [Int.toNat_natCast] at ha1 ⊢
  have hfn : fn < l0_0.length := by omega
  obtain ⟨hx8, hst⟩ := hbs _ (getD_mem l0_0 fn hfn)
  exact l2Put_walk A0_0 c0_0 l0_0 fn an a3_0 a3_1 a3_2 w hr0_0 hc0_0 hfn hl6 (own_small l0_0 hl6 (fun b hb => (hbs b hb).1)) (by omega) hx8 (fun s hs h11 => stepOk_jump (hst s hs) h11)
 ·cases h
def spec_PutStep.f (k : Nat) (l0_0 : List (List (S72))) (a1 : Int) (a2 : Int) (a3_0 : Int) (a3_1 : Int) (a3_2 : Int) : Option ((List (List (S72))) × Bool) := (spec_l2Program.f k l0_0).bind fun t347 => (if t347 = true then ((spec_l2Function.f l0_0 a1).bind fun t348 => (if t348 = true then (if 0 ≤ a1 then (if a1 < (l0_0.length : Int) then (if ((rd_L4 l0_0 a1).length : Int) = 8 then (some (([] : List (List (S72))), false)) else ((spec_l1In.f a2 0 ((rd_L4 l0_0 a1).length : Int)).bind fun t351 => (if t351 = true then ((spec_l2Step.f k l0_0 a3_0 a3_1 a3_2).bind fun t352 => (if t352 = true then ((spec_l2Put.f l0_0 a1 a2 a3_0 a3_1 a3_2).bind fun t353 => (some (t353, true))) else (some (([] : List (List (S72))), false)))) else (some (([] : List (List (S72))), false))))) else (none)) else (none)) else (some (([] : List (List (S72))), false)))) else (some (([] : List (List (S72))), false)))
set_option maxHeartbeats 8000000 in
set_option maxRecDepth 100000 in
theorem spec_PutStep.calls (k : Nat) (A0_0 : Option Addr) (c0_0 : Nat) (l0_0 : List (List (S72))) (a1 : Int) (a2 : Int) (a3_0 : Int) (a3_1 : Int) (a3_2 : Int) (r1 : List (List (S72))) (r2 : Bool) (w : World) (hr0_0 : Kd.C (Kd.slice 72 k72) w A0_0 l0_0.length l0_0) (hc0_0 : l0_0.length ≤ c0_0) (h : spec_PutStep.f k l0_0 a1 a2 a3_0 a3_1 a3_2 = some (r1, r2)) :
  Calls Try.prog 47 #[.agg #[.slice A0_0 l0_0.length c0_0], .int .i64 a1, .int .i64 a2, .agg #[.int .i64 a3_0, .int .i64 a3_1, .int .i64 a3_2]] w fun e w' => ∃ v0_ : Value, e = .returned (.tuple #[.agg #[v0_], .bool r2]) ∧ Kd.S (Kd.slice 72 k72) 108 w' w.heap.size (fun _ => True) v0_ r1 ∧ Below w.heap.size w w' := by
 have hu28 := Try.underlying28
 have hu72 := Try.underlying72
 have HR0_0 := am hr0_0
 have HC0_0 := am hc0_0
 clear hr0_0 hc0_0
 have HB := am (Below.refl w.heap.size w)
 have H : ((spec_l2Program.f k l0_0).bind fun t347 => (if t347 = true then ((spec_l2Function.f l0_0 a1).bind fun t348 => (if t348 = true then (if 0 ≤ a1 then (if a1 < (l0_0.length : Int) then (if ((rd_L4 l0_0 a1).length : Int) = 8 then (some (([] : List (List (S72))), false)) else ((spec_l1In.f a2 0 ((rd_L4 l0_0 a1).length : Int)).bind fun t351 => (if t351 = true then ((spec_l2Step.f k l0_0 a3_0 a3_1 a3_2).bind fun t352 => (if t352 = true then ((spec_l2Put.f l0_0 a1 a2 a3_0 a3_1 a3_2).bind fun t353 => (some (t353, true))) else (some (([] : List (List (S72))), false)))) else (some (([] : List (List (S72))), false))))) else (none)) else (none)) else (some (([] : List (List (S72))), false)))) else (some (([] : List (List (S72))), false)))) = some (r1, r2) := h
 clear h
 replace H := bem H
 obtain ⟨t347, A50, H⟩ := H
 replace H : (if t347 = true then ((spec_l2Function.f l0_0 a1).bind fun t348 => (if t348 = true then (if 0 ≤ a1 then (if a1 < (l0_0.length : Int) then (if ((rd_L4 l0_0 a1).length : Int) = 8 then (some (([] : List (List (S72))), false)) else ((spec_l1In.f a2 0 ((rd_L4 l0_0 a1).length : Int)).bind fun t351 => (if t351 = true then ((spec_l2Step.f k l0_0 a3_0 a3_1 a3_2).bind fun t352 => (if t352 = true then ((spec_l2Put.f l0_0 a1 a2 a3_0 a3_1 a3_2).bind fun t353 => (some (t353, true))) else (some (([] : List (List (S72))), false)))) else (some (([] : List (List (S72))), false))))) else (none)) else (none)) else (some (([] : List (List (S72))), false)))) else (some (([] : List (List (S72))), false))) = some (r1, r2) := H
 have A5 := am A50
 clear A50
 by_cases c6 : t347 = true
 ·subst c6
  have H1 : ((spec_l2Function.f l0_0 a1).bind fun t348 => (if t348 = true then (if 0 ≤ a1 then (if a1 < (l0_0.length : Int) then (if ((rd_L4 l0_0 a1).length : Int) = 8 then (some (([] : List (List (S72))), false)) else ((spec_l1In.f a2 0 ((rd_L4 l0_0 a1).length : Int)).bind fun t351 => (if t351 = true then ((spec_l2Step.f k l0_0 a3_0 a3_1 a3_2).bind fun t352 => (if t352 = true then ((spec_l2Put.f l0_0 a1 a2 a3_0 a3_1 a3_2).bind fun t353 => (some (t353, true))) else (some (([] : List (List (S72))), false)))) else (some (([] : List (List (S72))), false))))) else (none)) else (none)) else (some (([] : List (List (S72))), false)))) = some (r1, r2) := by rw [if_pos rfl] at H; exact H
  clear H
  have H := H1
  clear H1
  replace H := bem H
  obtain ⟨t348, A70, H⟩ := H
  replace H : (if t348 = true then (if 0 ≤ a1 then (if a1 < (l0_0.length : Int) then (if ((rd_L4 l0_0 a1).length : Int) = 8 then (some (([] : List (List (S72))), false)) else ((spec_l1In.f a2 0 ((rd_L4 l0_0 a1).length : Int)).bind fun t351 => (if t351 = true then ((spec_l2Step.f k l0_0 a3_0 a3_1 a3_2).bind fun t352 => (if t352 = true then ((spec_l2Put.f l0_0 a1 a2 a3_0 a3_1 a3_2).bind fun t353 => (some (t353, true))) else (some (([] : List (List (S72))), false)))) else (some (([] : List (List (S72))), false))))) else (none)) else (none)) else (some (([] : List (List (S72))), false))) = some (r1, r2) := H
  have A7 := am A70
  clear A70
  by_cases c8 : t348 = true
  ·subst c8
   have H1 : (if 0 ≤ a1 then (if a1 < (l0_0.length : Int) then (if ((rd_L4 l0_0 a1).length : Int) = 8 then (some (([] : List (List (S72))), false)) else ((spec_l1In.f a2 0 ((rd_L4 l0_0 a1).length : Int)).bind fun t351 => (if t351 = true then ((spec_l2Step.f k l0_0 a3_0 a3_1 a3_2).bind fun t352 => (if t352 = true then ((spec_l2Put.f l0_0 a1 a2 a3_0 a3_1 a3_2).bind fun t353 => (some (t353, true))) else (some (([] : List (List (S72))), false)))) else (some (([] : List (List (S72))), false))))) else (none)) else (none)) = some (r1, r2) := by rw [if_pos rfl] at H; exact H
   clear H
   have H := H1
   clear H1
   by_cases c9 : 0 ≤ a1
   ·rw [if_pos c9] at H
    have c9b0 : decide (0 ≤ a1) = true := decide_eq_true c9
    clear c9
    by_cases c10 : a1 < (l0_0.length : Int)
    ·rw [if_pos c10] at H
     have c10b0 : decide (a1 < (l0_0.length : Int)) = true := decide_eq_true c10
     clear c10
     by_cases c11 : ((rd_L4 l0_0 a1).length : Int) = 8
     ·rw [if_pos c11] at H
      have c11b0 : (((rd_L4 l0_0 a1).length : Int) == 8) = true := beq_iff_eq.mpr c11
      have c11b1 : (((rd_L4 l0_0 a1).length : Int) != 8) = false := bne_eq_false_iff_eq.mpr c11
      clear c11
      simp only [Option.some.injEq, Prod.mk.injEq] at H
      obtain ⟨rfl, rfl⟩ := H
      go_enter Try.func47, Try.ntmps47
      go_wp2_with (first | ((with_reducible refine gate_dst (N := 4) rfl ?_); (try (refine gate_guard (by rfl) ?_; dsimp only)); refine box_event ?hg (N := 4) ?hd (cs := #[.slice A0_0 l0_0.length c0_0]) (t := 28) ?hr ?_; (case hd => rfl); (case hg => rfl); (case hr => first | (go_simp; done) | (go_simp; rfl)); intro gb344 hg w12 hbox hb; have n0_ := am (below_step zq0 hb); have n1_ := am (hbox); have n2_ := am ((zq12 : w.heap.size ≤ gb344)); have n3_ := am ((zq12 : w.heap.size ≤ gb344)); clear HB; have HB := n0_; have BK344 := n1_; have GW344 := n2_; have GE344 := n3_; clear n0_ n1_ n2_ n3_; clear hb hbox hg) | ((with_reducible refine gate_dst (N := 7) rfl ?_); (try (refine gate_guard (by rfl) ?_; dsimp only)); refine box_event ?hg (N := 7) ?hd (cs := #[.int .i64 a3_0, .int .i64 a3_1, .int .i64 a3_2]) (t := 72) ?hr ?_; (case hd => rfl); (case hg => rfl); (case hr => first | (go_simp; done) | (go_simp; rfl)); intro gb345 hg w13 hbox hb; have n0_ := am (blk_below (g := gb344) (o := .cells #[.slice A0_0 l0_0.length c0_0] 28 (0, 0)) zq55 hb); have n1_ := am (below_step zq59 hb); have n2_ := am (hbox); have n3_ := am ((zq68 : w.heap.size ≤ gb345)); have n4_ := am ((zq68 : w.heap.size ≤ gb345)); have n5_ := am ((zq62 : gb344 ≠ gb345)); have n6_ := am ((zq63 : gb345 ≠ gb344)); clear BK344; clear HB; have BK344 := n0_; have HB := n1_; have BK345 := n2_; have GW345 := n3_; have GE345 := n4_; have NB344_345 := n5_; have NB345_344 := n6_; clear n0_ n1_ n2_ n3_ n4_ n5_ n6_; clear hb hbox hg) | ((with_reducible refine gate_dst (N := 8) rfl ?_); (try (refine gate_guard (by rfl) ?_; dsimp only)); refine box_event ?hg (N := 8) ?hd (cs := #[.slice none 0 0]) (t := 28) ?hr ?_; (case hd => rfl); (case hg => rfl); (case hr => first | (go_simp; done) | (go_simp; rfl)); intro gb346 hg w14 hbox hb; have n0_ := am (blk_below (g := gb344) (o := .cells #[.slice A0_0 l0_0.length c0_0] 28 (0, 0)) zq55 hb); have n1_ := am (blk_below (g := gb345) (o := .cells #[.int .i64 a3_0, .int .i64 a3_1, .int .i64 a3_2] 72 (0, 0)) zq57 hb); have n2_ := am (below_step zq58 hb); have n3_ := am (hbox); have n4_ := am ((zq69 : w.heap.size ≤ gb346)); have n5_ := am ((zq69 : w.heap.size ≤ gb346)); have n6_ := am ((zq62 : gb344 ≠ gb346)); have n7_ := am ((zq63 : gb346 ≠ gb344)); have n8_ := am ((zq64 : gb345 ≠ gb346)); have n9_ := am ((zq65 : gb346 ≠ gb345)); clear BK344; clear BK345; clear HB; have BK344 := n0_; have BK345 := n1_; have HB := n2_; have BK346 := n3_; have GW346 := n4_; have GE346 := n5_; have NB344_346 := n6_; have NB346_344 := n7_; have NB345_346 := n8_; have NB346_345 := n9_; clear n0_ n1_ n2_ n3_ n4_ n5_ n6_ n7_ n8_ n9_; clear hb hbox hg; have hnb15 := NB344_345.out; have hnc15 := NB345_344.out; have hnb16 := NB344_346.out; have hnc16 := NB346_344.out; have hcz17_0 : w14.cell? ⟨gb344, 0, none⟩ = some (.slice A0_0 l0_0.length c0_0) := (blk_cell BK344.out 0).trans rfl; have hfz17_0 := blk_frozen BK344.out 0) | ((with_reducible refine gate_callee (f := 91) rfl ?_); refine goesL_ (some 11) rfl rfl Try.func91 zq17 rfl #[.agg #[.slice A0_0 l0_0.length c0_0]] rfl zq1 ?_; (with_reducible refine (spec_l2Program.calls k _ _ l0_0 true _ ?side1 ?side2 A5.out).mono ?_); (case side1 => repeat (first | exact (Kd.C_below HR0_0.out HB.out) | (with_reducible refine Kd.C_alloc ?_ _) | (with_reducible refine Kd.C_drewN ?_ _) | (with_reducible refine Kd.C_drew ?_))); (case side2 => exact HC0_0.out); rintro e w18 ⟨rfl, hb⟩; refine ⟨_, rfl, ?_⟩; have n0_ := am (blk_below (g := gb344) (o := .cells #[.slice A0_0 l0_0.length c0_0] 28 (0, 0)) zq55 hb); have n1_ := am (blk_below (g := gb345) (o := .cells #[.int .i64 a3_0, .int .i64 a3_1, .int .i64 a3_2] 72 (0, 0)) zq57 hb); have n2_ := am (blk_below (g := gb346) (o := .cells #[.slice none 0 0] 28 (0, 0)) zq60 hb); have n3_ := am (below_step zq56 hb); clear BK344; clear BK345; clear BK346; clear HB; have BK344 := n0_; have BK345 := n1_; have BK346 := n2_; have HB := n3_; clear n0_ n1_ n2_ n3_; (try clear hb); (try clear hb2); (try clear hk); (try clear hi); have hcz19_0 : w18.cell? ⟨gb344, 0, none⟩ = some (.slice A0_0 l0_0.length c0_0) := (blk_cell BK344.out 0).trans rfl; have hfz19_0 := blk_frozen BK344.out 0) | (go_at_call 92; (with_reducible refine (spec_l2Function.calls _ _ l0_0 a1 true _ ?side1 ?side2 A7.out).mono ?_); (case side1 => repeat (first | exact (Kd.C_below HR0_0.out HB.out) | (with_reducible refine Kd.C_alloc ?_ _) | (with_reducible refine Kd.C_drewN ?_ _) | (with_reducible refine Kd.C_drew ?_))); (case side2 => exact HC0_0.out); rintro e w20 ⟨rfl, hb⟩; have n0_ := am (blk_below (g := gb344) (o := .cells #[.slice A0_0 l0_0.length c0_0] 28 (0, 0)) zq55 hb); have n1_ := am (blk_below (g := gb345) (o := .cells #[.int .i64 a3_0, .int .i64 a3_1, .int .i64 a3_2] 72 (0, 0)) zq57 hb); have n2_ := am (blk_below (g := gb346) (o := .cells #[.slice none 0 0] 28 (0, 0)) zq60 hb); have n3_ := am (below_step zq56 hb); clear BK344; clear BK345; clear BK346; clear HB; have BK344 := n0_; have BK345 := n1_; have BK346 := n2_; have HB := n3_; clear n0_ n1_ n2_ n3_; (try clear hb); (try clear hb2); (try clear hk); (try clear hi); have hcz21_0 : w20.cell? ⟨gb344, 0, none⟩ = some (.slice A0_0 l0_0.length c0_0) := (blk_cell BK344.out 0).trans rfl; have hfz21_0 := blk_frozen BK344.out 0; have p349 : 0 ≤ (a1 : Int) := of_decide_eq_true zq15; have q349 : a1 < (l0_0.length : Int) := of_decide_eq_true zq15; obtain ⟨ad349, A349_0, c349_0, e349, hx349_0, hl349_0, hi349_0⟩ := at_L4 HR0_0.out a1 p349 q349; cases e349; replace hx349_0 := (HB.out.cell (World.block_lt_of_cell? w _ hx349_0)).trans hx349_0; have HR349_0 := am hi349_0; have HC349_0 := am hl349_0; clear hi349_0 hl349_0; replace p349 := eq_true p349; replace q349 := eq_true q349; have hnb22 := NB346_345.out; have hnc22 := NB345_346.out; have hcz23_0 : w20.cell? ⟨gb346, 0, none⟩ = some (.slice none 0 0) := (blk_cell BK346.out 0).trans rfl; have hfz23_0 := blk_frozen BK346.out 0))
      refine bodyPost_ret (results_ct rfl _ _ gb346 28 #[.slice none 0 0] (0, 0) _ rfl zq61 Try.underlying28 rfl zq17) rfl ?_
      exact ⟨_, zq8, zq66, zq56⟩
     ·rw [if_neg c11] at H
      have c11b0 : (((rd_L4 l0_0 a1).length : Int) == 8) = false := beq_eq_false_iff_ne.mpr c11
      have c11b1 : (((rd_L4 l0_0 a1).length : Int) != 8) = true := bne_iff_ne.mpr c11
      replace H := bem H
      obtain ⟨t351, A240, H⟩ := H
      replace H : (if t351 = true then ((spec_l2Step.f k l0_0 a3_0 a3_1 a3_2).bind fun t352 => (if t352 = true then ((spec_l2Put.f l0_0 a1 a2 a3_0 a3_1 a3_2).bind fun t353 => (some (t353, true))) else (some (([] : List (List (S72))), false)))) else (some (([] : List (List (S72))), false))) = some (r1, r2) := H
      have A24 := am A240
      clear A240
      by_cases c25 : t351 = true
      ·subst c25
       have H1 : ((spec_l2Step.f k l0_0 a3_0 a3_1 a3_2).bind fun t352 => (if t352 = true then ((spec_l2Put.f l0_0 a1 a2 a3_0 a3_1 a3_2).bind fun t353 => (some (t353, true))) else (some (([] : List (List (S72))), false)))) = some (r1, r2) := by rw [if_pos rfl] at H; exact H
       clear H
       have H := H1
       clear H1
       replace H := bem H
       obtain ⟨t352, A260, H⟩ := H
       replace H : (if t352 = true then ((spec_l2Put.f l0_0 a1 a2 a3_0 a3_1 a3_2).bind fun t353 => (some (t353, true))) else (some (([] : List (List (S72))), false))) = some (r1, r2) := H
       have A26 := am A260
       clear A260
       by_cases c27 : t352 = true
       ·subst c27
        have H1 : ((spec_l2Put.f l0_0 a1 a2 a3_0 a3_1 a3_2).bind fun t353 => (some (t353, true))) = some (r1, r2) := by rw [if_pos rfl] at H; exact H
        clear H
        have H := H1
        clear H1
        replace H := bem H
        obtain ⟨t353, A280, H⟩ := H
        replace H : (some (t353, true)) = some (r1, r2) := H
        have A28 := am A280
        clear A280
        simp only [Option.some.injEq, Prod.mk.injEq] at H
        obtain ⟨rfl, rfl⟩ := H
        go_enter Try.func47, Try.ntmps47
        go_wp2_with (first | ((with_reducible refine gate_dst (N := 4) rfl ?_); (try (refine gate_guard (by rfl) ?_; dsimp only)); refine box_event ?hg (N := 4) ?hd (cs := #[.slice A0_0 l0_0.length c0_0]) (t := 28) ?hr ?_; (case hd => rfl); (case hg => rfl); (case hr => first | (go_simp; done) | (go_simp; rfl)); intro gb344 hg w29 hbox hb; have n0_ := am (below_step zq0 hb); have n1_ := am (hbox); have n2_ := am ((zq12 : w.heap.size ≤ gb344)); have n3_ := am ((zq12 : w.heap.size ≤ gb344)); clear HB; have HB := n0_; have BK344 := n1_; have GW344 := n2_; have GE344 := n3_; clear n0_ n1_ n2_ n3_; clear hb hbox hg) | ((with_reducible refine gate_dst (N := 7) rfl ?_); (try (refine gate_guard (by rfl) ?_; dsimp only)); refine box_event ?hg (N := 7) ?hd (cs := #[.int .i64 a3_0, .int .i64 a3_1, .int .i64 a3_2]) (t := 72) ?hr ?_; (case hd => rfl); (case hg => rfl); (case hr => first | (go_simp; done) | (go_simp; rfl)); intro gb345 hg w30 hbox hb; have n0_ := am (blk_below (g := gb344) (o := .cells #[.slice A0_0 l0_0.length c0_0] 28 (0, 0)) zq55 hb); have n1_ := am (below_step zq59 hb); have n2_ := am (hbox); have n3_ := am ((zq68 : w.heap.size ≤ gb345)); have n4_ := am ((zq68 : w.heap.size ≤ gb345)); have n5_ := am ((zq62 : gb344 ≠ gb345)); have n6_ := am ((zq63 : gb345 ≠ gb344)); clear BK344; clear HB; have BK344 := n0_; have HB := n1_; have BK345 := n2_; have GW345 := n3_; have GE345 := n4_; have NB344_345 := n5_; have NB345_344 := n6_; clear n0_ n1_ n2_ n3_ n4_ n5_ n6_; clear hb hbox hg) | ((with_reducible refine gate_dst (N := 8) rfl ?_); (try (refine gate_guard (by rfl) ?_; dsimp only)); refine box_event ?hg (N := 8) ?hd (cs := #[.slice none 0 0]) (t := 28) ?hr ?_; (case hd => rfl); (case hg => rfl); (case hr => first | (go_simp; done) | (go_simp; rfl)); intro gb346 hg w31 hbox hb; have n0_ := am (blk_below (g := gb344) (o := .cells #[.slice A0_0 l0_0.length c0_0] 28 (0, 0)) zq55 hb); have n1_ := am (blk_below (g := gb345) (o := .cells #[.int .i64 a3_0, .int .i64 a3_1, .int .i64 a3_2] 72 (0, 0)) zq57 hb); have n2_ := am (below_step zq58 hb); have n3_ := am (hbox); have n4_ := am ((zq69 : w.heap.size ≤ gb346)); have n5_ := am ((zq69 : w.heap.size ≤ gb346)); have n6_ := am ((zq62 : gb344 ≠ gb346)); have n7_ := am ((zq63 : gb346 ≠ gb344)); have n8_ := am ((zq64 : gb345 ≠ gb346)); have n9_ := am ((zq65 : gb346 ≠ gb345)); clear BK344; clear BK345; clear HB; have BK344 := n0_; have BK345 := n1_; have HB := n2_; have BK346 := n3_; have GW346 := n4_; have GE346 := n5_; have NB344_346 := n6_; have NB346_344 := n7_; have NB345_346 := n8_; have NB346_345 := n9_; clear n0_ n1_ n2_ n3_ n4_ n5_ n6_ n7_ n8_ n9_; clear hb hbox hg; have hnb32 := NB344_345.out; have hnc32 := NB345_344.out; have hnb33 := NB344_346.out; have hnc33 := NB346_344.out; have hcz34_0 : w31.cell? ⟨gb344, 0, none⟩ = some (.slice A0_0 l0_0.length c0_0) := (blk_cell BK344.out 0).trans rfl; have hfz34_0 := blk_frozen BK344.out 0) | ((with_reducible refine gate_callee (f := 91) rfl ?_); refine goesL_ (some 11) rfl rfl Try.func91 zq17 rfl #[.agg #[.slice A0_0 l0_0.length c0_0]] rfl zq1 ?_; (with_reducible refine (spec_l2Program.calls k _ _ l0_0 true _ ?side1 ?side2 A5.out).mono ?_); (case side1 => repeat (first | exact (Kd.C_below HR0_0.out HB.out) | (with_reducible refine Kd.C_alloc ?_ _) | (with_reducible refine Kd.C_drewN ?_ _) | (with_reducible refine Kd.C_drew ?_))); (case side2 => exact HC0_0.out); rintro e w35 ⟨rfl, hb⟩; refine ⟨_, rfl, ?_⟩; have n0_ := am (blk_below (g := gb344) (o := .cells #[.slice A0_0 l0_0.length c0_0] 28 (0, 0)) zq55 hb); have n1_ := am (blk_below (g := gb345) (o := .cells #[.int .i64 a3_0, .int .i64 a3_1, .int .i64 a3_2] 72 (0, 0)) zq57 hb); have n2_ := am (blk_below (g := gb346) (o := .cells #[.slice none 0 0] 28 (0, 0)) zq60 hb); have n3_ := am (below_step zq56 hb); clear BK344; clear BK345; clear BK346; clear HB; have BK344 := n0_; have BK345 := n1_; have BK346 := n2_; have HB := n3_; clear n0_ n1_ n2_ n3_; (try clear hb); (try clear hb2); (try clear hk); (try clear hi); have hcz36_0 : w35.cell? ⟨gb344, 0, none⟩ = some (.slice A0_0 l0_0.length c0_0) := (blk_cell BK344.out 0).trans rfl; have hfz36_0 := blk_frozen BK344.out 0) | (go_at_call 92; (with_reducible refine (spec_l2Function.calls _ _ l0_0 a1 true _ ?side1 ?side2 A7.out).mono ?_); (case side1 => repeat (first | exact (Kd.C_below HR0_0.out HB.out) | (with_reducible refine Kd.C_alloc ?_ _) | (with_reducible refine Kd.C_drewN ?_ _) | (with_reducible refine Kd.C_drew ?_))); (case side2 => exact HC0_0.out); rintro e w37 ⟨rfl, hb⟩; have n0_ := am (blk_below (g := gb344) (o := .cells #[.slice A0_0 l0_0.length c0_0] 28 (0, 0)) zq55 hb); have n1_ := am (blk_below (g := gb345) (o := .cells #[.int .i64 a3_0, .int .i64 a3_1, .int .i64 a3_2] 72 (0, 0)) zq57 hb); have n2_ := am (blk_below (g := gb346) (o := .cells #[.slice none 0 0] 28 (0, 0)) zq60 hb); have n3_ := am (below_step zq56 hb); clear BK344; clear BK345; clear BK346; clear HB; have BK344 := n0_; have BK345 := n1_; have BK346 := n2_; have HB := n3_; clear n0_ n1_ n2_ n3_; (try clear hb); (try clear hb2); (try clear hk); (try clear hi); have hcz38_0 : w37.cell? ⟨gb344, 0, none⟩ = some (.slice A0_0 l0_0.length c0_0) := (blk_cell BK344.out 0).trans rfl; have hfz38_0 := blk_frozen BK344.out 0; have p349 : 0 ≤ (a1 : Int) := of_decide_eq_true zq15; have q349 : a1 < (l0_0.length : Int) := of_decide_eq_true zq15; obtain ⟨ad349, A349_0, c349_0, e349, hx349_0, hl349_0, hi349_0⟩ := at_L4 HR0_0.out a1 p349 q349; cases e349; replace hx349_0 := (HB.out.cell (World.block_lt_of_cell? w _ hx349_0)).trans hx349_0; have HR349_0 := am hi349_0; have HC349_0 := am hl349_0; clear hi349_0 hl349_0; replace p349 := eq_true p349; replace q349 := eq_true q349; have p350 : 0 ≤ (a1 : Int) := of_decide_eq_true zq15; have q350 : a1 < (l0_0.length : Int) := of_decide_eq_true zq15; obtain ⟨ad350, A350_0, c350_0, e350, hx350_0, hl350_0, hi350_0⟩ := at_L4 HR0_0.out a1 p350 q350; obtain rfl : ad349 = ad350 := (by injection e350); replace hx350_0 := (HB.out.cell (World.block_lt_of_cell? w _ hx350_0)).trans hx350_0; have HR350_0 := am hi350_0; have HC350_0 := am hl350_0; clear hi350_0 hl350_0; replace p350 := eq_true p350; replace q350 := eq_true q350; have ea_ := Option.some.inj (hx349_0.symm.trans hx350_0); injection ea_ with ea_ en_ ec_; subst ea_; subst ec_; clear en_) | (go_at_call 93; (with_reducible refine (spec_l1In.calls a2 0 ((rd_L4 l0_0 a1).length : Int) true _ A24.out).mono ?_); rintro e w' ⟨rfl, ⟨nd, rfl⟩⟩; (try (rw [drewN_self w37]; generalize hq_ : World.drewN w37 _ = w37; have n0_ : Aside0 (w37.heap[gb344]? = some (.cells #[.slice (some ad349) l0_0.length c0_0] 28 (0, 0))) := ⟨by rw [← hq_]; exact zq55⟩; have n1_ : Aside0 (w37.heap[gb345]? = some (.cells #[.int .i64 a3_0, .int .i64 a3_1, .int .i64 a3_2] 72 (0, 0))) := ⟨by rw [← hq_]; exact zq57⟩; have n2_ : Aside0 (w37.heap[gb346]? = some (.cells #[.slice none 0 0] 28 (0, 0))) := ⟨by rw [← hq_]; exact zq60⟩; have n3_ : Aside0 (Below w.heap.size w w37) := ⟨by rw [← hq_]; exact zq56⟩; clear BK344 BK345 BK346 HB hq_; have BK344 := n0_; have BK345 := n1_; have BK346 := n2_; have HB := n3_; clear n0_ n1_ n2_ n3_)); have hnb39 := NB345_346.out; have hnc39 := NB346_345.out; have hcz40_0 : w37.cell? ⟨gb345, 0, none⟩ = some (.int .i64 a3_0) := (blk_cell BK345.out 0).trans rfl; have hcz40_1 : w37.cell? ⟨gb345, 1, none⟩ = some (.int .i64 a3_1) := (blk_cell BK345.out 1).trans rfl; have hcz40_2 : w37.cell? ⟨gb345, 2, none⟩ = some (.int .i64 a3_2) := (blk_cell BK345.out 2).trans rfl; have hfz40_0 := blk_frozen BK345.out 0; have hfz40_1 := blk_frozen BK345.out 1; have hfz40_2 := blk_frozen BK345.out 2; (try (have hcy0_0 : w37.cell? ⟨gb344, 0, none⟩ = some (.slice (some ad349) l0_0.length c0_0) := (blk_cell BK344.out 0).trans rfl)); (try (have hcy2_0 : w37.cell? ⟨gb346, 0, none⟩ = some (.slice none 0 0) := (blk_cell BK346.out 0).trans rfl))) | (go_at_call 94; (with_reducible refine (spec_l2Step.calls k _ _ l0_0 a3_0 a3_1 a3_2 true _ ?side1 ?side2 A26.out).mono ?_); (case side1 => repeat (first | exact (Kd.C_below HR0_0.out HB.out) | (with_reducible refine Kd.C_alloc ?_ _) | (with_reducible refine Kd.C_drewN ?_ _) | (with_reducible refine Kd.C_drew ?_))); (case side2 => exact HC0_0.out); rintro e w41 ⟨rfl, hb⟩; have n0_ := am (blk_below (g := gb344) (o := .cells #[.slice (some ad349) l0_0.length c0_0] 28 (0, 0)) zq55 hb); have n1_ := am (blk_below (g := gb345) (o := .cells #[.int .i64 a3_0, .int .i64 a3_1, .int .i64 a3_2] 72 (0, 0)) zq57 hb); have n2_ := am (blk_below (g := gb346) (o := .cells #[.slice none 0 0] 28 (0, 0)) zq60 hb); have n3_ := am (below_step zq56 hb); clear BK344; clear BK345; clear BK346; clear HB; have BK344 := n0_; have BK345 := n1_; have BK346 := n2_; have HB := n3_; clear n0_ n1_ n2_ n3_; (try clear hb); (try clear hb2); (try clear hk); (try clear hi); have hcz42_0 : w41.cell? ⟨gb344, 0, none⟩ = some (.slice (some ad349) l0_0.length c0_0) := (blk_cell BK344.out 0).trans rfl; have hfz42_0 := blk_frozen BK344.out 0; have hcz43_0 : w41.cell? ⟨gb345, 0, none⟩ = some (.int .i64 a3_0) := (blk_cell BK345.out 0).trans rfl; have hcz43_1 : w41.cell? ⟨gb345, 1, none⟩ = some (.int .i64 a3_1) := (blk_cell BK345.out 1).trans rfl; have hcz43_2 : w41.cell? ⟨gb345, 2, none⟩ = some (.int .i64 a3_2) := (blk_cell BK345.out 2).trans rfl; have hfz43_0 := blk_frozen BK345.out 0; have hfz43_1 := blk_frozen BK345.out 1; have hfz43_2 := blk_frozen BK345.out 2) | ((with_reducible refine gate_callee (f := 95) rfl ?_); refine goesL_ (some 50) rfl rfl Try.func95 zq17 rfl #[.agg #[.slice (some ad349) l0_0.length c0_0], .int .i64 a1, .int .i64 a2, .agg #[.int .i64 a3_0, .int .i64 a3_1, .int .i64 a3_2]] rfl zq1 ?_; (with_reducible refine (spec_l2Put.calls _ _ l0_0 a1 a2 a3_0 a3_1 a3_2 t353 _ ?side1 ?side2 A28.out).mono ?_); (case side1 => repeat (first | exact (Kd.C_below HR0_0.out HB.out) | (with_reducible refine Kd.C_alloc ?_ _) | (with_reducible refine Kd.C_drewN ?_ _) | (with_reducible refine Kd.C_drew ?_))); (case side2 => exact HC0_0.out); rintro e w44 ⟨v354, rfl, ho0, hb⟩; refine ⟨_, rfl, ?_⟩; have n0_ := am (Kd.S_lower (Kd.S_newB ho0 (g := gb345) (o := .cells #[.int .i64 a3_0, .int .i64 a3_1, .int .i64 a3_2] 72 (0, 0)) zq57) (below_size zq56)); have n1_ := am (blk_below (g := gb344) (o := .cells #[.slice (some ad349) l0_0.length c0_0] 28 (0, 0)) zq55 hb); have n2_ := am (blk_below (g := gb345) (o := .cells #[.int .i64 a3_0, .int .i64 a3_1, .int .i64 a3_2] 72 (0, 0)) zq57 hb); have n3_ := am (blk_below (g := gb346) (o := .cells #[.slice none 0 0] 28 (0, 0)) zq60 hb); have n4_ := am (below_step zq56 hb); clear BK344; clear BK345; clear BK346; clear HB; have HO355 := n0_; have BK344 := n1_; have BK345 := n2_; have BK346 := n3_; have HB := n4_; clear n0_ n1_ n2_ n3_ n4_; (try clear hb); (try clear hb2); (try clear hk); (try clear hi); (try clear ho0); obtain ⟨Ao45, co45, eo45⟩ := Kd.S_slice HO355.out; subst eo45; have hcz46_0 : w44.cell? ⟨gb346, 0, none⟩ = some (.slice none 0 0) := (blk_cell BK346.out 0).trans rfl; have hfz46_0 := blk_frozen BK346.out 0))
        refine bodyPost_ret (results_ct rfl _ _ gb346 28 #[.slice Ao45 t353.length co45] (0, 0) _ rfl zq61 Try.underlying28 rfl zq17) rfl ?_
        exact ⟨_, zq8, by (with_reducible repeat (first | apply Kd.S_alloc | apply Kd.S_drewN | apply Kd.S_drew)); exact Kd.S_mono (Kd.S_far (p := ⟨gb346, 0, none⟩) (Kd.S_types HO355.out BK346.out zq107) (fun _ hk => hk.2) (.slice Ao45 t353.length co45)) (fun _ hk => trivial), zq56⟩
       ·replace c27 := Bool.eq_false_iff.mpr c27
        subst c27
        have H1 : (some (([] : List (List (S72))), false)) = some (r1, r2) := by rw [if_neg (show ¬ (false = true) by decide)] at H; exact H
        clear H
        have H := H1
        clear H1
        simp only [Option.some.injEq, Prod.mk.injEq] at H
        obtain ⟨rfl, rfl⟩ := H
        go_enter Try.func47, Try.ntmps47
        go_wp2_with (first | ((with_reducible refine gate_dst (N := 4) rfl ?_); (try (refine gate_guard (by rfl) ?_; dsimp only)); refine box_event ?hg (N := 4) ?hd (cs := #[.slice A0_0 l0_0.length c0_0]) (t := 28) ?hr ?_; (case hd => rfl); (case hg => rfl); (case hr => first | (go_simp; done) | (go_simp; rfl)); intro gb344 hg w47 hbox hb; have n0_ := am (below_step zq0 hb); have n1_ := am (hbox); have n2_ := am ((zq12 : w.heap.size ≤ gb344)); have n3_ := am ((zq12 : w.heap.size ≤ gb344)); clear HB; have HB := n0_; have BK344 := n1_; have GW344 := n2_; have GE344 := n3_; clear n0_ n1_ n2_ n3_; clear hb hbox hg) | ((with_reducible refine gate_dst (N := 7) rfl ?_); (try (refine gate_guard (by rfl) ?_; dsimp only)); refine box_event ?hg (N := 7) ?hd (cs := #[.int .i64 a3_0, .int .i64 a3_1, .int .i64 a3_2]) (t := 72) ?hr ?_; (case hd => rfl); (case hg => rfl); (case hr => first | (go_simp; done) | (go_simp; rfl)); intro gb345 hg w48 hbox hb; have n0_ := am (blk_below (g := gb344) (o := .cells #[.slice A0_0 l0_0.length c0_0] 28 (0, 0)) zq55 hb); have n1_ := am (below_step zq59 hb); have n2_ := am (hbox); have n3_ := am ((zq68 : w.heap.size ≤ gb345)); have n4_ := am ((zq68 : w.heap.size ≤ gb345)); have n5_ := am ((zq62 : gb344 ≠ gb345)); have n6_ := am ((zq63 : gb345 ≠ gb344)); clear BK344; clear HB; have BK344 := n0_; have HB := n1_; have BK345 := n2_; have GW345 := n3_; have GE345 := n4_; have NB344_345 := n5_; have NB345_344 := n6_; clear n0_ n1_ n2_ n3_ n4_ n5_ n6_; clear hb hbox hg) | ((with_reducible refine gate_dst (N := 8) rfl ?_); (try (refine gate_guard (by rfl) ?_; dsimp only)); refine box_event ?hg (N := 8) ?hd (cs := #[.slice none 0 0]) (t := 28) ?hr ?_; (case hd => rfl); (case hg => rfl); (case hr => first | (go_simp; done) | (go_simp; rfl)); intro gb346 hg w49 hbox hb; have n0_ := am (blk_below (g := gb344) (o := .cells #[.slice A0_0 l0_0.length c0_0] 28 (0, 0)) zq55 hb); have n1_ := am (blk_below (g := gb345) (o := .cells #[.int .i64 a3_0, .int .i64 a3_1, .int .i64 a3_2] 72 (0, 0)) zq57 hb); have n2_ := am (below_step zq58 hb); have n3_ := am (hbox); have n4_ := am ((zq69 : w.heap.size ≤ gb346)); have n5_ := am ((zq69 : w.heap.size ≤ gb346)); have n6_ := am ((zq62 : gb344 ≠ gb346)); have n7_ := am ((zq63 : gb346 ≠ gb344)); have n8_ := am ((zq64 : gb345 ≠ gb346)); have n9_ := am ((zq65 : gb346 ≠ gb345)); clear BK344; clear BK345; clear HB; have BK344 := n0_; have BK345 := n1_; have HB := n2_; have BK346 := n3_; have GW346 := n4_; have GE346 := n5_; have NB344_346 := n6_; have NB346_344 := n7_; have NB345_346 := n8_; have NB346_345 := n9_; clear n0_ n1_ n2_ n3_ n4_ n5_ n6_ n7_ n8_ n9_; clear hb hbox hg; have hnb50 := NB344_345.out; have hnc50 := NB345_344.out; have hnb51 := NB344_346.out; have hnc51 := NB346_344.out; have hcz52_0 : w49.cell? ⟨gb344, 0, none⟩ = some (.slice A0_0 l0_0.length c0_0) := (blk_cell BK344.out 0).trans rfl; have hfz52_0 := blk_frozen BK344.out 0) | ((with_reducible refine gate_callee (f := 91) rfl ?_); refine goesL_ (some 11) rfl rfl Try.func91 zq17 rfl #[.agg #[.slice A0_0 l0_0.length c0_0]] rfl zq1 ?_; (with_reducible refine (spec_l2Program.calls k _ _ l0_0 true _ ?side1 ?side2 A5.out).mono ?_); (case side1 => repeat (first | exact (Kd.C_below HR0_0.out HB.out) | (with_reducible refine Kd.C_alloc ?_ _) | (with_reducible refine Kd.C_drewN ?_ _) | (with_reducible refine Kd.C_drew ?_))); (case side2 => exact HC0_0.out); rintro e w53 ⟨rfl, hb⟩; refine ⟨_, rfl, ?_⟩; have n0_ := am (blk_below (g := gb344) (o := .cells #[.slice A0_0 l0_0.length c0_0] 28 (0, 0)) zq55 hb); have n1_ := am (blk_below (g := gb345) (o := .cells #[.int .i64 a3_0, .int .i64 a3_1, .int .i64 a3_2] 72 (0, 0)) zq57 hb); have n2_ := am (blk_below (g := gb346) (o := .cells #[.slice none 0 0] 28 (0, 0)) zq60 hb); have n3_ := am (below_step zq56 hb); clear BK344; clear BK345; clear BK346; clear HB; have BK344 := n0_; have BK345 := n1_; have BK346 := n2_; have HB := n3_; clear n0_ n1_ n2_ n3_; (try clear hb); (try clear hb2); (try clear hk); (try clear hi); have hcz54_0 : w53.cell? ⟨gb344, 0, none⟩ = some (.slice A0_0 l0_0.length c0_0) := (blk_cell BK344.out 0).trans rfl; have hfz54_0 := blk_frozen BK344.out 0) | (go_at_call 92; (with_reducible refine (spec_l2Function.calls _ _ l0_0 a1 true _ ?side1 ?side2 A7.out).mono ?_); (case side1 => repeat (first | exact (Kd.C_below HR0_0.out HB.out) | (with_reducible refine Kd.C_alloc ?_ _) | (with_reducible refine Kd.C_drewN ?_ _) | (with_reducible refine Kd.C_drew ?_))); (case side2 => exact HC0_0.out); rintro e w55 ⟨rfl, hb⟩; have n0_ := am (blk_below (g := gb344) (o := .cells #[.slice A0_0 l0_0.length c0_0] 28 (0, 0)) zq55 hb); have n1_ := am (blk_below (g := gb345) (o := .cells #[.int .i64 a3_0, .int .i64 a3_1, .int .i64 a3_2] 72 (0, 0)) zq57 hb); have n2_ := am (blk_below (g := gb346) (o := .cells #[.slice none 0 0] 28 (0, 0)) zq60 hb); have n3_ := am (below_step zq56 hb); clear BK344; clear BK345; clear BK346; clear HB; have BK344 := n0_; have BK345 := n1_; have BK346 := n2_; have HB := n3_; clear n0_ n1_ n2_ n3_; (try clear hb); (try clear hb2); (try clear hk); (try clear hi); have hcz56_0 : w55.cell? ⟨gb344, 0, none⟩ = some (.slice A0_0 l0_0.length c0_0) := (blk_cell BK344.out 0).trans rfl; have hfz56_0 := blk_frozen BK344.out 0; have p349 : 0 ≤ (a1 : Int) := of_decide_eq_true zq15; have q349 : a1 < (l0_0.length : Int) := of_decide_eq_true zq15; obtain ⟨ad349, A349_0, c349_0, e349, hx349_0, hl349_0, hi349_0⟩ := at_L4 HR0_0.out a1 p349 q349; cases e349; replace hx349_0 := (HB.out.cell (World.block_lt_of_cell? w _ hx349_0)).trans hx349_0; have HR349_0 := am hi349_0; have HC349_0 := am hl349_0; clear hi349_0 hl349_0; replace p349 := eq_true p349; replace q349 := eq_true q349; have p350 : 0 ≤ (a1 : Int) := of_decide_eq_true zq15; have q350 : a1 < (l0_0.length : Int) := of_decide_eq_true zq15; obtain ⟨ad350, A350_0, c350_0, e350, hx350_0, hl350_0, hi350_0⟩ := at_L4 HR0_0.out a1 p350 q350; obtain rfl : ad349 = ad350 := (by injection e350); replace hx350_0 := (HB.out.cell (World.block_lt_of_cell? w _ hx350_0)).trans hx350_0; have HR350_0 := am hi350_0; have HC350_0 := am hl350_0; clear hi350_0 hl350_0; replace p350 := eq_true p350; replace q350 := eq_true q350; have ea_ := Option.some.inj (hx349_0.symm.trans hx350_0); injection ea_ with ea_ en_ ec_; subst ea_; subst ec_; clear en_) | (go_at_call 93; (with_reducible refine (spec_l1In.calls a2 0 ((rd_L4 l0_0 a1).length : Int) true _ A24.out).mono ?_); rintro e w' ⟨rfl, ⟨nd, rfl⟩⟩; (try (rw [drewN_self w55]; generalize hq_ : World.drewN w55 _ = w55; have n0_ : Aside0 (w55.heap[gb344]? = some (.cells #[.slice (some ad349) l0_0.length c0_0] 28 (0, 0))) := ⟨by rw [← hq_]; exact zq55⟩; have n1_ : Aside0 (w55.heap[gb345]? = some (.cells #[.int .i64 a3_0, .int .i64 a3_1, .int .i64 a3_2] 72 (0, 0))) := ⟨by rw [← hq_]; exact zq57⟩; have n2_ : Aside0 (w55.heap[gb346]? = some (.cells #[.slice none 0 0] 28 (0, 0))) := ⟨by rw [← hq_]; exact zq60⟩; have n3_ : Aside0 (Below w.heap.size w w55) := ⟨by rw [← hq_]; exact zq56⟩; clear BK344 BK345 BK346 HB hq_; have BK344 := n0_; have BK345 := n1_; have BK346 := n2_; have HB := n3_; clear n0_ n1_ n2_ n3_)); have hnb57 := NB345_346.out; have hnc57 := NB346_345.out; have hcz58_0 : w55.cell? ⟨gb345, 0, none⟩ = some (.int .i64 a3_0) := (blk_cell BK345.out 0).trans rfl; have hcz58_1 : w55.cell? ⟨gb345, 1, none⟩ = some (.int .i64 a3_1) := (blk_cell BK345.out 1).trans rfl; have hcz58_2 : w55.cell? ⟨gb345, 2, none⟩ = some (.int .i64 a3_2) := (blk_cell BK345.out 2).trans rfl; have hfz58_0 := blk_frozen BK345.out 0; have hfz58_1 := blk_frozen BK345.out 1; have hfz58_2 := blk_frozen BK345.out 2; (try (have hcy0_0 : w55.cell? ⟨gb344, 0, none⟩ = some (.slice (some ad349) l0_0.length c0_0) := (blk_cell BK344.out 0).trans rfl)); (try (have hcy2_0 : w55.cell? ⟨gb346, 0, none⟩ = some (.slice none 0 0) := (blk_cell BK346.out 0).trans rfl))) | (go_at_call 94; (with_reducible refine (spec_l2Step.calls k _ _ l0_0 a3_0 a3_1 a3_2 false _ ?side1 ?side2 A26.out).mono ?_); (case side1 => repeat (first | exact (Kd.C_below HR0_0.out HB.out) | (with_reducible refine Kd.C_alloc ?_ _) | (with_reducible refine Kd.C_drewN ?_ _) | (with_reducible refine Kd.C_drew ?_))); (case side2 => exact HC0_0.out); rintro e w59 ⟨rfl, hb⟩; have n0_ := am (blk_below (g := gb344) (o := .cells #[.slice (some ad349) l0_0.length c0_0] 28 (0, 0)) zq55 hb); have n1_ := am (blk_below (g := gb345) (o := .cells #[.int .i64 a3_0, .int .i64 a3_1, .int .i64 a3_2] 72 (0, 0)) zq57 hb); have n2_ := am (blk_below (g := gb346) (o := .cells #[.slice none 0 0] 28 (0, 0)) zq60 hb); have n3_ := am (below_step zq56 hb); clear BK344; clear BK345; clear BK346; clear HB; have BK344 := n0_; have BK345 := n1_; have BK346 := n2_; have HB := n3_; clear n0_ n1_ n2_ n3_; (try clear hb); (try clear hb2); (try clear hk); (try clear hi); have hcz60_0 : w59.cell? ⟨gb346, 0, none⟩ = some (.slice none 0 0) := (blk_cell BK346.out 0).trans rfl; have hfz60_0 := blk_frozen BK346.out 0))
        refine bodyPost_ret (results_ct rfl _ _ gb346 28 #[.slice none 0 0] (0, 0) _ rfl zq61 Try.underlying28 rfl zq17) rfl ?_
        exact ⟨_, zq8, zq66, zq56⟩
      ·replace c25 := Bool.eq_false_iff.mpr c25
       subst c25
       have H1 : (some (([] : List (List (S72))), false)) = some (r1, r2) := by rw [if_neg (show ¬ (false = true) by decide)] at H; exact H
       clear H
       have H := H1
       clear H1
       simp only [Option.some.injEq, Prod.mk.injEq] at H
       obtain ⟨rfl, rfl⟩ := H
       go_enter Try.func47, Try.ntmps47
       go_wp2_with (first | ((with_reducible refine gate_dst (N := 4) rfl ?_); (try (refine gate_guard (by rfl) ?_; dsimp only)); refine box_event ?hg (N := 4) ?hd (cs := #[.slice A0_0 l0_0.length c0_0]) (t := 28) ?hr ?_; (case hd => rfl); (case hg => rfl); (case hr => first | (go_simp; done) | (go_simp; rfl)); intro gb344 hg w61 hbox hb; have n0_ := am (below_step zq0 hb); have n1_ := am (hbox); have n2_ := am ((zq12 : w.heap.size ≤ gb344)); have n3_ := am ((zq12 : w.heap.size ≤ gb344)); clear HB; have HB := n0_; have BK344 := n1_; have GW344 := n2_; have GE344 := n3_; clear n0_ n1_ n2_ n3_; clear hb hbox hg) | ((with_reducible refine gate_dst (N := 7) rfl ?_); (try (refine gate_guard (by rfl) ?_; dsimp only)); refine box_event ?hg (N := 7) ?hd (cs := #[.int .i64 a3_0, .int .i64 a3_1, .int .i64 a3_2]) (t := 72) ?hr ?_; (case hd => rfl); (case hg => rfl); (case hr => first | (go_simp; done) | (go_simp; rfl)); intro gb345 hg w62 hbox hb; have n0_ := am (blk_below (g := gb344) (o := .cells #[.slice A0_0 l0_0.length c0_0] 28 (0, 0)) zq55 hb); have n1_ := am (below_step zq59 hb); have n2_ := am (hbox); have n3_ := am ((zq68 : w.heap.size ≤ gb345)); have n4_ := am ((zq68 : w.heap.size ≤ gb345)); have n5_ := am ((zq62 : gb344 ≠ gb345)); have n6_ := am ((zq63 : gb345 ≠ gb344)); clear BK344; clear HB; have BK344 := n0_; have HB := n1_; have BK345 := n2_; have GW345 := n3_; have GE345 := n4_; have NB344_345 := n5_; have NB345_344 := n6_; clear n0_ n1_ n2_ n3_ n4_ n5_ n6_; clear hb hbox hg) | ((with_reducible refine gate_dst (N := 8) rfl ?_); (try (refine gate_guard (by rfl) ?_; dsimp only)); refine box_event ?hg (N := 8) ?hd (cs := #[.slice none 0 0]) (t := 28) ?hr ?_; (case hd => rfl); (case hg => rfl); (case hr => first | (go_simp; done) | (go_simp; rfl)); intro gb346 hg w63 hbox hb; have n0_ := am (blk_below (g := gb344) (o := .cells #[.slice A0_0 l0_0.length c0_0] 28 (0, 0)) zq55 hb); have n1_ := am (blk_below (g := gb345) (o := .cells #[.int .i64 a3_0, .int .i64 a3_1, .int .i64 a3_2] 72 (0, 0)) zq57 hb); have n2_ := am (below_step zq58 hb); have n3_ := am (hbox); have n4_ := am ((zq69 : w.heap.size ≤ gb346)); have n5_ := am ((zq69 : w.heap.size ≤ gb346)); have n6_ := am ((zq62 : gb344 ≠ gb346)); have n7_ := am ((zq63 : gb346 ≠ gb344)); have n8_ := am ((zq64 : gb345 ≠ gb346)); have n9_ := am ((zq65 : gb346 ≠ gb345)); clear BK344; clear BK345; clear HB; have BK344 := n0_; have BK345 := n1_; have HB := n2_; have BK346 := n3_; have GW346 := n4_; have GE346 := n5_; have NB344_346 := n6_; have NB346_344 := n7_; have NB345_346 := n8_; have NB346_345 := n9_; clear n0_ n1_ n2_ n3_ n4_ n5_ n6_ n7_ n8_ n9_; clear hb hbox hg; have hnb64 := NB344_345.out; have hnc64 := NB345_344.out; have hnb65 := NB344_346.out; have hnc65 := NB346_344.out; have hcz66_0 : w63.cell? ⟨gb344, 0, none⟩ = some (.slice A0_0 l0_0.length c0_0) := (blk_cell BK344.out 0).trans rfl; have hfz66_0 := blk_frozen BK344.out 0) | ((with_reducible refine gate_callee (f := 91) rfl ?_); refine goesL_ (some 11) rfl rfl Try.func91 zq17 rfl #[.agg #[.slice A0_0 l0_0.length c0_0]] rfl zq1 ?_; (with_reducible refine (spec_l2Program.calls k _ _ l0_0 true _ ?side1 ?side2 A5.out).mono ?_); (case side1 => repeat (first | exact (Kd.C_below HR0_0.out HB.out) | (with_reducible refine Kd.C_alloc ?_ _) | (with_reducible refine Kd.C_drewN ?_ _) | (with_reducible refine Kd.C_drew ?_))); (case side2 => exact HC0_0.out); rintro e w67 ⟨rfl, hb⟩; refine ⟨_, rfl, ?_⟩; have n0_ := am (blk_below (g := gb344) (o := .cells #[.slice A0_0 l0_0.length c0_0] 28 (0, 0)) zq55 hb); have n1_ := am (blk_below (g := gb345) (o := .cells #[.int .i64 a3_0, .int .i64 a3_1, .int .i64 a3_2] 72 (0, 0)) zq57 hb); have n2_ := am (blk_below (g := gb346) (o := .cells #[.slice none 0 0] 28 (0, 0)) zq60 hb); have n3_ := am (below_step zq56 hb); clear BK344; clear BK345; clear BK346; clear HB; have BK344 := n0_; have BK345 := n1_; have BK346 := n2_; have HB := n3_; clear n0_ n1_ n2_ n3_; (try clear hb); (try clear hb2); (try clear hk); (try clear hi); have hcz68_0 : w67.cell? ⟨gb344, 0, none⟩ = some (.slice A0_0 l0_0.length c0_0) := (blk_cell BK344.out 0).trans rfl; have hfz68_0 := blk_frozen BK344.out 0) | (go_at_call 92; (with_reducible refine (spec_l2Function.calls _ _ l0_0 a1 true _ ?side1 ?side2 A7.out).mono ?_); (case side1 => repeat (first | exact (Kd.C_below HR0_0.out HB.out) | (with_reducible refine Kd.C_alloc ?_ _) | (with_reducible refine Kd.C_drewN ?_ _) | (with_reducible refine Kd.C_drew ?_))); (case side2 => exact HC0_0.out); rintro e w69 ⟨rfl, hb⟩; have n0_ := am (blk_below (g := gb344) (o := .cells #[.slice A0_0 l0_0.length c0_0] 28 (0, 0)) zq55 hb); have n1_ := am (blk_below (g := gb345) (o := .cells #[.int .i64 a3_0, .int .i64 a3_1, .int .i64 a3_2] 72 (0, 0)) zq57 hb); have n2_ := am (blk_below (g := gb346) (o := .cells #[.slice none 0 0] 28 (0, 0)) zq60 hb); have n3_ := am (below_step zq56 hb); clear BK344; clear BK345; clear BK346; clear HB; have BK344 := n0_; have BK345 := n1_; have BK346 := n2_; have HB := n3_; clear n0_ n1_ n2_ n3_; (try clear hb); (try clear hb2); (try clear hk); (try clear hi); have hcz70_0 : w69.cell? ⟨gb344, 0, none⟩ = some (.slice A0_0 l0_0.length c0_0) := (blk_cell BK344.out 0).trans rfl; have hfz70_0 := blk_frozen BK344.out 0; have p349 : 0 ≤ (a1 : Int) := of_decide_eq_true zq15; have q349 : a1 < (l0_0.length : Int) := of_decide_eq_true zq15; obtain ⟨ad349, A349_0, c349_0, e349, hx349_0, hl349_0, hi349_0⟩ := at_L4 HR0_0.out a1 p349 q349; cases e349; replace hx349_0 := (HB.out.cell (World.block_lt_of_cell? w _ hx349_0)).trans hx349_0; have HR349_0 := am hi349_0; have HC349_0 := am hl349_0; clear hi349_0 hl349_0; replace p349 := eq_true p349; replace q349 := eq_true q349; have p350 : 0 ≤ (a1 : Int) := of_decide_eq_true zq15; have q350 : a1 < (l0_0.length : Int) := of_decide_eq_true zq15; obtain ⟨ad350, A350_0, c350_0, e350, hx350_0, hl350_0, hi350_0⟩ := at_L4 HR0_0.out a1 p350 q350; obtain rfl : ad349 = ad350 := (by injection e350); replace hx350_0 := (HB.out.cell (World.block_lt_of_cell? w _ hx350_0)).trans hx350_0; have HR350_0 := am hi350_0; have HC350_0 := am hl350_0; clear hi350_0 hl350_0; replace p350 := eq_true p350; replace q350 := eq_true q350; have ea_ := Option.some.inj (hx349_0.symm.trans hx350_0); injection ea_ with ea_ en_ ec_; subst ea_; subst ec_; clear en_) | (go_at_call 93; (with_reducible refine (spec_l1In.calls a2 0 ((rd_L4 l0_0 a1).length : Int) false _ A24.out).mono ?_); rintro e w' ⟨rfl, ⟨nd, rfl⟩⟩; (try (rw [drewN_self w69]; generalize hq_ : World.drewN w69 _ = w69; have n0_ : Aside0 (w69.heap[gb344]? = some (.cells #[.slice (some ad349) l0_0.length c0_0] 28 (0, 0))) := ⟨by rw [← hq_]; exact zq55⟩; have n1_ : Aside0 (w69.heap[gb345]? = some (.cells #[.int .i64 a3_0, .int .i64 a3_1, .int .i64 a3_2] 72 (0, 0))) := ⟨by rw [← hq_]; exact zq57⟩; have n2_ : Aside0 (w69.heap[gb346]? = some (.cells #[.slice none 0 0] 28 (0, 0))) := ⟨by rw [← hq_]; exact zq60⟩; have n3_ : Aside0 (Below w.heap.size w w69) := ⟨by rw [← hq_]; exact zq56⟩; clear BK344 BK345 BK346 HB hq_; have BK344 := n0_; have BK345 := n1_; have BK346 := n2_; have HB := n3_; clear n0_ n1_ n2_ n3_)); have hnb71 := NB346_345.out; have hnc71 := NB345_346.out; have hcz72_0 : w69.cell? ⟨gb346, 0, none⟩ = some (.slice none 0 0) := (blk_cell BK346.out 0).trans rfl; have hfz72_0 := blk_frozen BK346.out 0; (try (have hcy0_0 : w69.cell? ⟨gb344, 0, none⟩ = some (.slice (some ad349) l0_0.length c0_0) := (blk_cell BK344.out 0).trans rfl)); (try (have hcy1_0 : w69.cell? ⟨gb345, 0, none⟩ = some (.int .i64 a3_0) := (blk_cell BK345.out 0).trans rfl)); (try (have hcy1_1 : w69.cell? ⟨gb345, 1, none⟩ = some (.int .i64 a3_1) := (blk_cell BK345.out 1).trans rfl)); (try (have hcy1_2 : w69.cell? ⟨gb345, 2, none⟩ = some (.int .i64 a3_2) := (blk_cell BK345.out 2).trans rfl))))
       refine bodyPost_ret (results_ct rfl _ _ gb346 28 #[.slice none 0 0] (0, 0) _ rfl zq61 Try.underlying28 rfl zq17) rfl ?_
       exact ⟨_, zq8, zq66, zq56⟩
    ·rw [if_neg c10] at H
     exact absurd H (by simp)
   ·rw [if_neg c9] at H
    exact absurd H (by simp)
  ·replace c8 := Bool.eq_false_iff.mpr c8
   subst c8
   have H1 : (some (([] : List (List (S72))), false)) = some (r1, r2) := by rw [if_neg (show ¬ (false = true) by decide)] at H; exact H
   clear H
   have H := H1
   clear H1
   simp only [Option.some.injEq, Prod.mk.injEq] at H
   obtain ⟨rfl, rfl⟩ := H
   go_enter Try.func47, Try.ntmps47
   go_wp2_with (first | ((with_reducible refine gate_dst (N := 4) rfl ?_); (try (refine gate_guard (by rfl) ?_; dsimp only)); refine box_event ?hg (N := 4) ?hd (cs := #[.slice A0_0 l0_0.length c0_0]) (t := 28) ?hr ?_; (case hd => rfl); (case hg => rfl); (case hr => first | (go_simp; done) | (go_simp; rfl)); intro gb344 hg w73 hbox hb; have n0_ := am (below_step zq0 hb); have n1_ := am (hbox); have n2_ := am ((zq12 : w.heap.size ≤ gb344)); have n3_ := am ((zq12 : w.heap.size ≤ gb344)); clear HB; have HB := n0_; have BK344 := n1_; have GW344 := n2_; have GE344 := n3_; clear n0_ n1_ n2_ n3_; clear hb hbox hg) | ((with_reducible refine gate_dst (N := 7) rfl ?_); (try (refine gate_guard (by rfl) ?_; dsimp only)); refine box_event ?hg (N := 7) ?hd (cs := #[.int .i64 a3_0, .int .i64 a3_1, .int .i64 a3_2]) (t := 72) ?hr ?_; (case hd => rfl); (case hg => rfl); (case hr => first | (go_simp; done) | (go_simp; rfl)); intro gb345 hg w74 hbox hb; have n0_ := am (blk_below (g := gb344) (o := .cells #[.slice A0_0 l0_0.length c0_0] 28 (0, 0)) zq55 hb); have n1_ := am (below_step zq59 hb); have n2_ := am (hbox); have n3_ := am ((zq68 : w.heap.size ≤ gb345)); have n4_ := am ((zq68 : w.heap.size ≤ gb345)); have n5_ := am ((zq62 : gb344 ≠ gb345)); have n6_ := am ((zq63 : gb345 ≠ gb344)); clear BK344; clear HB; have BK344 := n0_; have HB := n1_; have BK345 := n2_; have GW345 := n3_; have GE345 := n4_; have NB344_345 := n5_; have NB345_344 := n6_; clear n0_ n1_ n2_ n3_ n4_ n5_ n6_; clear hb hbox hg) | ((with_reducible refine gate_dst (N := 8) rfl ?_); (try (refine gate_guard (by rfl) ?_; dsimp only)); refine box_event ?hg (N := 8) ?hd (cs := #[.slice none 0 0]) (t := 28) ?hr ?_; (case hd => rfl); (case hg => rfl); (case hr => first | (go_simp; done) | (go_simp; rfl)); intro gb346 hg w75 hbox hb; have n0_ := am (blk_below (g := gb344) (o := .cells #[.slice A0_0 l0_0.length c0_0] 28 (0, 0)) zq55 hb); have n1_ := am (blk_below (g := gb345) (o := .cells #[.int .i64 a3_0, .int .i64 a3_1, .int .i64 a3_2] 72 (0, 0)) zq57 hb); have n2_ := am (below_step zq58 hb); have n3_ := am (hbox); have n4_ := am ((zq69 : w.heap.size ≤ gb346)); have n5_ := am ((zq69 : w.heap.size ≤ gb346)); have n6_ := am ((zq62 : gb344 ≠ gb346)); have n7_ := am ((zq63 : gb346 ≠ gb344)); have n8_ := am ((zq64 : gb345 ≠ gb346)); have n9_ := am ((zq65 : gb346 ≠ gb345)); clear BK344; clear BK345; clear HB; have BK344 := n0_; have BK345 := n1_; have HB := n2_; have BK346 := n3_; have GW346 := n4_; have GE346 := n5_; have NB344_346 := n6_; have NB346_344 := n7_; have NB345_346 := n8_; have NB346_345 := n9_; clear n0_ n1_ n2_ n3_ n4_ n5_ n6_ n7_ n8_ n9_; clear hb hbox hg; have hnb76 := NB344_345.out; have hnc76 := NB345_344.out; have hnb77 := NB344_346.out; have hnc77 := NB346_344.out; have hcz78_0 : w75.cell? ⟨gb344, 0, none⟩ = some (.slice A0_0 l0_0.length c0_0) := (blk_cell BK344.out 0).trans rfl; have hfz78_0 := blk_frozen BK344.out 0) | ((with_reducible refine gate_callee (f := 91) rfl ?_); refine goesL_ (some 11) rfl rfl Try.func91 zq17 rfl #[.agg #[.slice A0_0 l0_0.length c0_0]] rfl zq1 ?_; (with_reducible refine (spec_l2Program.calls k _ _ l0_0 true _ ?side1 ?side2 A5.out).mono ?_); (case side1 => repeat (first | exact (Kd.C_below HR0_0.out HB.out) | (with_reducible refine Kd.C_alloc ?_ _) | (with_reducible refine Kd.C_drewN ?_ _) | (with_reducible refine Kd.C_drew ?_))); (case side2 => exact HC0_0.out); rintro e w79 ⟨rfl, hb⟩; refine ⟨_, rfl, ?_⟩; have n0_ := am (blk_below (g := gb344) (o := .cells #[.slice A0_0 l0_0.length c0_0] 28 (0, 0)) zq55 hb); have n1_ := am (blk_below (g := gb345) (o := .cells #[.int .i64 a3_0, .int .i64 a3_1, .int .i64 a3_2] 72 (0, 0)) zq57 hb); have n2_ := am (blk_below (g := gb346) (o := .cells #[.slice none 0 0] 28 (0, 0)) zq60 hb); have n3_ := am (below_step zq56 hb); clear BK344; clear BK345; clear BK346; clear HB; have BK344 := n0_; have BK345 := n1_; have BK346 := n2_; have HB := n3_; clear n0_ n1_ n2_ n3_; (try clear hb); (try clear hb2); (try clear hk); (try clear hi); have hcz80_0 : w79.cell? ⟨gb344, 0, none⟩ = some (.slice A0_0 l0_0.length c0_0) := (blk_cell BK344.out 0).trans rfl; have hfz80_0 := blk_frozen BK344.out 0) | (go_at_call 92; (with_reducible refine (spec_l2Function.calls _ _ l0_0 a1 false _ ?side1 ?side2 A7.out).mono ?_); (case side1 => repeat (first | exact (Kd.C_below HR0_0.out HB.out) | (with_reducible refine Kd.C_alloc ?_ _) | (with_reducible refine Kd.C_drewN ?_ _) | (with_reducible refine Kd.C_drew ?_))); (case side2 => exact HC0_0.out); rintro e w81 ⟨rfl, hb⟩; have n0_ := am (blk_below (g := gb344) (o := .cells #[.slice A0_0 l0_0.length c0_0] 28 (0, 0)) zq55 hb); have n1_ := am (blk_below (g := gb345) (o := .cells #[.int .i64 a3_0, .int .i64 a3_1, .int .i64 a3_2] 72 (0, 0)) zq57 hb); have n2_ := am (blk_below (g := gb346) (o := .cells #[.slice none 0 0] 28 (0, 0)) zq60 hb); have n3_ := am (below_step zq56 hb); clear BK344; clear BK345; clear BK346; clear HB; have BK344 := n0_; have BK345 := n1_; have BK346 := n2_; have HB := n3_; clear n0_ n1_ n2_ n3_; (try clear hb); (try clear hb2); (try clear hk); (try clear hi); have hnb82 := NB346_345.out; have hnc82 := NB345_346.out; have hcz83_0 : w81.cell? ⟨gb346, 0, none⟩ = some (.slice none 0 0) := (blk_cell BK346.out 0).trans rfl; have hfz83_0 := blk_frozen BK346.out 0))
   refine bodyPost_ret (results_ct rfl _ _ gb346 28 #[.slice none 0 0] (0, 0) _ rfl zq61 Try.underlying28 rfl zq17) rfl ?_
   exact ⟨_, zq8, zq66, zq56⟩
 ·replace c6 := Bool.eq_false_iff.mpr c6
  subst c6
  have H1 : (some (([] : List (List (S72))), false)) = some (r1, r2) := by rw [if_neg (show ¬ (false = true) by decide)] at H; exact H
  clear H
  have H := H1
  clear H1
  simp only [Option.some.injEq, Prod.mk.injEq] at H
  obtain ⟨rfl, rfl⟩ := H
  go_enter Try.func47, Try.ntmps47
  go_wp2_with (first | ((with_reducible refine gate_dst (N := 4) rfl ?_); (try (refine gate_guard (by rfl) ?_; dsimp only)); refine box_event ?hg (N := 4) ?hd (cs := #[.slice A0_0 l0_0.length c0_0]) (t := 28) ?hr ?_; (case hd => rfl); (case hg => rfl); (case hr => first | (go_simp; done) | (go_simp; rfl)); intro gb344 hg w84 hbox hb; have n0_ := am (below_step zq0 hb); have n1_ := am (hbox); have n2_ := am ((zq12 : w.heap.size ≤ gb344)); have n3_ := am ((zq12 : w.heap.size ≤ gb344)); clear HB; have HB := n0_; have BK344 := n1_; have GW344 := n2_; have GE344 := n3_; clear n0_ n1_ n2_ n3_; clear hb hbox hg) | ((with_reducible refine gate_dst (N := 7) rfl ?_); (try (refine gate_guard (by rfl) ?_; dsimp only)); refine box_event ?hg (N := 7) ?hd (cs := #[.int .i64 a3_0, .int .i64 a3_1, .int .i64 a3_2]) (t := 72) ?hr ?_; (case hd => rfl); (case hg => rfl); (case hr => first | (go_simp; done) | (go_simp; rfl)); intro gb345 hg w85 hbox hb; have n0_ := am (blk_below (g := gb344) (o := .cells #[.slice A0_0 l0_0.length c0_0] 28 (0, 0)) zq55 hb); have n1_ := am (below_step zq59 hb); have n2_ := am (hbox); have n3_ := am ((zq68 : w.heap.size ≤ gb345)); have n4_ := am ((zq68 : w.heap.size ≤ gb345)); have n5_ := am ((zq62 : gb344 ≠ gb345)); have n6_ := am ((zq63 : gb345 ≠ gb344)); clear BK344; clear HB; have BK344 := n0_; have HB := n1_; have BK345 := n2_; have GW345 := n3_; have GE345 := n4_; have NB344_345 := n5_; have NB345_344 := n6_; clear n0_ n1_ n2_ n3_ n4_ n5_ n6_; clear hb hbox hg) | ((with_reducible refine gate_dst (N := 8) rfl ?_); (try (refine gate_guard (by rfl) ?_; dsimp only)); refine box_event ?hg (N := 8) ?hd (cs := #[.slice none 0 0]) (t := 28) ?hr ?_; (case hd => rfl); (case hg => rfl); (case hr => first | (go_simp; done) | (go_simp; rfl)); intro gb346 hg w86 hbox hb; have n0_ := am (blk_below (g := gb344) (o := .cells #[.slice A0_0 l0_0.length c0_0] 28 (0, 0)) zq55 hb); have n1_ := am (blk_below (g := gb345) (o := .cells #[.int .i64 a3_0, .int .i64 a3_1, .int .i64 a3_2] 72 (0, 0)) zq57 hb); have n2_ := am (below_step zq58 hb); have n3_ := am (hbox); have n4_ := am ((zq69 : w.heap.size ≤ gb346)); have n5_ := am ((zq69 : w.heap.size ≤ gb346)); have n6_ := am ((zq62 : gb344 ≠ gb346)); have n7_ := am ((zq63 : gb346 ≠ gb344)); have n8_ := am ((zq64 : gb345 ≠ gb346)); have n9_ := am ((zq65 : gb346 ≠ gb345)); clear BK344; clear BK345; clear HB; have BK344 := n0_; have BK345 := n1_; have HB := n2_; have BK346 := n3_; have GW346 := n4_; have GE346 := n5_; have NB344_346 := n6_; have NB346_344 := n7_; have NB345_346 := n8_; have NB346_345 := n9_; clear n0_ n1_ n2_ n3_ n4_ n5_ n6_ n7_ n8_ n9_; clear hb hbox hg; have hnb87 := NB344_345.out; have hnc87 := NB345_344.out; have hnb88 := NB344_346.out; have hnc88 := NB346_344.out; have hcz89_0 : w86.cell? ⟨gb344, 0, none⟩ = some (.slice A0_0 l0_0.length c0_0) := (blk_cell BK344.out 0).trans rfl; have hfz89_0 := blk_frozen BK344.out 0) | ((with_reducible refine gate_callee (f := 91) rfl ?_); refine goesL_ (some 11) rfl rfl Try.func91 zq17 rfl #[.agg #[.slice A0_0 l0_0.length c0_0]] rfl zq1 ?_; (with_reducible refine (spec_l2Program.calls k _ _ l0_0 false _ ?side1 ?side2 A5.out).mono ?_); (case side1 => repeat (first | exact (Kd.C_below HR0_0.out HB.out) | (with_reducible refine Kd.C_alloc ?_ _) | (with_reducible refine Kd.C_drewN ?_ _) | (with_reducible refine Kd.C_drew ?_))); (case side2 => exact HC0_0.out); rintro e w90 ⟨rfl, hb⟩; refine ⟨_, rfl, ?_⟩; have n0_ := am (blk_below (g := gb344) (o := .cells #[.slice A0_0 l0_0.length c0_0] 28 (0, 0)) zq55 hb); have n1_ := am (blk_below (g := gb345) (o := .cells #[.int .i64 a3_0, .int .i64 a3_1, .int .i64 a3_2] 72 (0, 0)) zq57 hb); have n2_ := am (blk_below (g := gb346) (o := .cells #[.slice none 0 0] 28 (0, 0)) zq60 hb); have n3_ := am (below_step zq56 hb); clear BK344; clear BK345; clear BK346; clear HB; have BK344 := n0_; have BK345 := n1_; have BK346 := n2_; have HB := n3_; clear n0_ n1_ n2_ n3_; (try clear hb); (try clear hb2); (try clear hk); (try clear hi); have hnb91 := NB346_345.out; have hnc91 := NB345_346.out; have hcz92_0 : w90.cell? ⟨gb346, 0, none⟩ = some (.slice none 0 0) := (blk_cell BK346.out 0).trans rfl; have hfz92_0 := blk_frozen BK346.out 0))
  refine bodyPost_ret (results_ct rfl _ _ gb346 28 #[.slice none 0 0] (0, 0) _ rfl zq61 Try.underlying28 rfl zq17) rfl ?_
  exact ⟨_, zq8, zq66, zq56⟩
def spec_WithDefer.f (k : Nat) (l0_0 : List (List (S72))) (a1 : Int) (a2 : Int) (a3 : Int) : Option ((List (List (S72))) × Bool) := (spec_PutStep.f k l0_0 a1 0 5 a2 a3).bind fun bt389 => (some (bt389.1, bt389.2))
set_option maxHeartbeats 8000000 in
set_option maxRecDepth 100000 in
theorem spec_WithDefer.calls (k : Nat) (A0_0 : Option Addr) (c0_0 : Nat) (l0_0 : List (List (S72))) (a1 : Int) (a2 : Int) (a3 : Int) (r1 : List (List (S72))) (r2 : Bool) (w : World) (hr0_0 : Kd.C (Kd.slice 72 k72) w A0_0 l0_0.length l0_0) (hc0_0 : l0_0.length ≤ c0_0) (h : spec_WithDefer.f k l0_0 a1 a2 a3 = some (r1, r2)) :
  Calls Try.prog 51 #[.agg #[.slice A0_0 l0_0.length c0_0], .int .i64 a1, .int .i64 a2, .int .i64 a3] w fun e w' => ∃ v0_ : Value, e = .returned (.tuple #[.agg #[v0_], .bool r2]) ∧ Kd.S (Kd.slice 72 k72) 108 w' w.heap.size (fun _ => True) v0_ r1 ∧ Below w.heap.size w w' := by
 have hu28 := Try.underlying28
 have hu72 := Try.underlying72
 have HR0_0 := am hr0_0
 have HC0_0 := am hc0_0
 clear hr0_0 hc0_0
 have HB := am (Below.refl w.heap.size w)
 have H : ((spec_PutStep.f k l0_0 a1 0 5 a2 a3).bind fun bt389 => (some (bt389.1, bt389.2))) = some (r1, r2) := h
 clear h
 replace H := bem H
 obtain ⟨⟨t389, t392⟩, A50, H⟩ := H
 replace H : (some (t389, t392)) = some (r1, r2) := H
 have A5 := am A50
 clear A50
 simp only [Option.some.injEq, Prod.mk.injEq] at H
 obtain ⟨rfl, rfl⟩ := H
 go_enter Try.func51, Try.ntmps51
 go_wp2_with (first | ((with_reducible refine gate_dst (N := 4) rfl ?_); refine box_event ?hg (N := 4) ?hd (cs := #[.slice A0_0 l0_0.length c0_0]) (t := 28) ?hr ?_; (case hd => rfl); (case hg => rfl); (case hr => first | (go_simp; done) | (go_simp; rfl)); intro gb387 hg w6 hbox hb; have n0_ := am (below_step zq0 hb); have n1_ := am (hbox); have n2_ := am ((zq12 : w.heap.size ≤ gb387)); have n3_ := am ((zq12 : w.heap.size ≤ gb387)); clear HB; have HB := n0_; have BK387 := n1_; have GW387 := n2_; have GE387 := n3_; clear n0_ n1_ n2_ n3_; clear hb hbox hg) | ((with_reducible refine gate_dst (N := 8) rfl ?_); refine box_event ?hg (N := 8) ?hd (cs := #[.slice none 0 0]) (t := 28) ?hr ?_; (case hd => rfl); (case hg => rfl); (case hr => first | (go_simp; done) | (go_simp; rfl)); intro gb388 hg w7 hbox hb; have n0_ := am (blk_below (g := gb387) (o := .cells #[.slice A0_0 l0_0.length c0_0] 28 (0, 0)) zq70 hb); have n1_ := am (below_step zq71 hb); have n2_ := am (hbox); have n3_ := am ((by rw [hg]; exact (below_size zq71) : w.heap.size ≤ gb388)); have n4_ := am ((by rw [hg]; exact (below_size zq71) : w.heap.size ≤ gb388)); have n5_ := am ((by rw [hg]; exact Nat.ne_of_lt (blk_lt (g := gb387) (o := .cells #[.slice A0_0 l0_0.length c0_0] 28 (0, 0)) zq70) : gb387 ≠ gb388)); have n6_ := am ((by rw [hg]; exact Nat.ne_of_gt (blk_lt (g := gb387) (o := .cells #[.slice A0_0 l0_0.length c0_0] 28 (0, 0)) zq70) : gb388 ≠ gb387)); clear BK387; clear HB; have BK387 := n0_; have HB := n1_; have BK388 := n2_; have GW388 := n3_; have GE388 := n4_; have NB387_388 := n5_; have NB388_387 := n6_; clear n0_ n1_ n2_ n3_ n4_ n5_ n6_; clear hb hbox hg; have hnb8 := NB387_388.out; have hnc8 := NB388_387.out; have hcz9_0 : w7.cell? ⟨gb387, 0, none⟩ = some (.slice A0_0 l0_0.length c0_0) := (blk_cell BK387.out 0).trans rfl; have hfz9_0 := blk_frozen BK387.out 0) | ((with_reducible refine gate_callee (f := 47) rfl ?_); refine goesL_ (some 15) rfl rfl Try.func47 zq17 rfl #[.agg #[.slice A0_0 l0_0.length c0_0], .int .i64 a1, .int .i64 0, .agg #[.int .i64 5, .int .i64 a2, .int .i64 a3]] rfl zq1 ?_; (with_reducible refine (spec_PutStep.calls k _ _ l0_0 a1 0 5 a2 a3 t389 t392 _ ?side1 ?side2 A5.out).mono ?_); (case side1 => repeat (first | exact (Kd.C_below HR0_0.out HB.out) | (with_reducible refine Kd.C_alloc ?_ _) | (with_reducible refine Kd.C_drewN ?_ _) | (with_reducible refine Kd.C_drew ?_))); (case side2 => exact HC0_0.out); rintro e w10 ⟨v390, rfl, ho0, hb⟩; refine ⟨_, rfl, ?_⟩; have n0_ := am (Kd.S_lower ho0 (below_size zq67)); have n1_ := am (blk_below (g := gb387) (o := .cells #[.slice A0_0 l0_0.length c0_0] 28 (0, 0)) zq70 hb); have n2_ := am (blk_below (g := gb388) (o := .cells #[.slice none 0 0] 28 (0, 0)) (by (with_reducible repeat (first | refine blk_drewN ?_ _ | refine blk_drew ?_ | refine blk_alloc ?_ _)); exact BK388.out) hb); have n3_ := am (below_step zq67 hb); clear BK387; clear BK388; clear HB; have HO391 := n0_; have BK387 := n1_; have BK388 := n2_; have HB := n3_; clear n0_ n1_ n2_ n3_; (try clear hb); (try clear hb2); (try clear hk); (try clear hi); (try clear ho0); obtain ⟨Ao11, co11, eo11⟩ := Kd.S_slice HO391.out; subst eo11; have hcz12_0 : w10.cell? ⟨gb388, 0, none⟩ = some (.slice none 0 0) := (blk_cell BK388.out 0).trans rfl; have hfz12_0 := blk_frozen BK388.out 0))
 refine bodyPost_ret (results_ct rfl _ _ gb388 28 #[.slice Ao11 t389.length co11] (0, 0) _ rfl (by (with_reducible repeat (first | refine blk_drewN ?_ _ | refine blk_drew ?_ | refine blk_alloc ?_ _)); refine blk_put (cs := #[.slice none 0 0]) ?_ 0 _ rfl; (with_reducible repeat (first | refine blk_drewN ?_ _ | refine blk_drew ?_ | refine blk_alloc ?_ _)); exact BK388.out) Try.underlying28 rfl zq17) rfl ?_
 exact ⟨_, zq8, by (with_reducible repeat (first | apply Kd.S_alloc | apply Kd.S_drewN | apply Kd.S_drew)); exact Kd.S_mono (Kd.S_far (p := ⟨gb388, 0, none⟩) (Kd.S_types HO391.out BK388.out zq107) (fun _ hk => hk.2) (.slice Ao11 t389.length co11)) (fun _ hk => trivial), zq67⟩
def impl_WithDefer.f (l0_0 : List (List (S72))) (a1 : Int) (a2 : Int) (a3 : Int) : Option ((List (List (S72))) × Bool) := (impl_PutStep.f l0_0 a1 0 5 a2 a3).bind fun bt395 => (some (bt395.1, bt395.2))
set_option maxHeartbeats 8000000 in
set_option maxRecDepth 100000 in
theorem impl_WithDefer.calls (A0_0 : Option Addr) (c0_0 : Nat) (l0_0 : List (List (S72))) (a1 : Int) (a2 : Int) (a3 : Int) (r1 : List (List (S72))) (r2 : Bool) (w : World) (hr0_0 : Kd.C (Kd.slice 72 k72) w A0_0 l0_0.length l0_0) (hc0_0 : l0_0.length ≤ c0_0) (h : impl_WithDefer.f l0_0 a1 a2 a3 = some (r1, r2)) :
  Calls Try.prog 52 #[.agg #[.slice A0_0 l0_0.length c0_0], .int .i64 a1, .int .i64 a2, .int .i64 a3] w fun e w' => ∃ v0_ : Value, e = .returned (.tuple #[.agg #[v0_], .bool r2]) ∧ Kd.S (Kd.slice 72 k72) 108 w' w.heap.size (fun _ => True) v0_ r1 ∧ Below w.heap.size w w' := by
 have hu28 := Try.underlying28
 have hu72 := Try.underlying72
 have HR0_0 := am hr0_0
 have HC0_0 := am hc0_0
 clear hr0_0 hc0_0
 have HB := am (Below.refl w.heap.size w)
 have H : ((impl_PutStep.f l0_0 a1 0 5 a2 a3).bind fun bt395 => (some (bt395.1, bt395.2))) = some (r1, r2) := h
 clear h
 replace H := bem H
 obtain ⟨⟨t395, t398⟩, A50, H⟩ := H
 replace H : (some (t395, t398)) = some (r1, r2) := H
 have A5 := am A50
 clear A50
 simp only [Option.some.injEq, Prod.mk.injEq] at H
 obtain ⟨rfl, rfl⟩ := H
 go_enter Try.func52, Try.ntmps52
 go_wp2_with (first | ((with_reducible refine gate_dst (N := 4) rfl ?_); refine box_event ?hg (N := 4) ?hd (cs := #[.slice A0_0 l0_0.length c0_0]) (t := 28) ?hr ?_; (case hd => rfl); (case hg => rfl); (case hr => first | (go_simp; done) | (go_simp; rfl)); intro gb393 hg w6 hbox hb; have n0_ := am (below_step zq0 hb); have n1_ := am (hbox); have n2_ := am ((zq12 : w.heap.size ≤ gb393)); have n3_ := am ((zq12 : w.heap.size ≤ gb393)); clear HB; have HB := n0_; have BK393 := n1_; have GW393 := n2_; have GE393 := n3_; clear n0_ n1_ n2_ n3_; clear hb hbox hg) | ((with_reducible refine gate_dst (N := 8) rfl ?_); refine box_event ?hg (N := 8) ?hd (cs := #[.slice none 0 0]) (t := 28) ?hr ?_; (case hd => rfl); (case hg => rfl); (case hr => first | (go_simp; done) | (go_simp; rfl)); intro gb394 hg w7 hbox hb; have n0_ := am (blk_below (g := gb393) (o := .cells #[.slice A0_0 l0_0.length c0_0] 28 (0, 0)) zq73 hb); have n1_ := am (below_step zq74 hb); have n2_ := am (hbox); have n3_ := am ((by rw [hg]; exact (below_size zq74) : w.heap.size ≤ gb394)); have n4_ := am ((by rw [hg]; exact (below_size zq74) : w.heap.size ≤ gb394)); have n5_ := am ((by rw [hg]; exact Nat.ne_of_lt (blk_lt (g := gb393) (o := .cells #[.slice A0_0 l0_0.length c0_0] 28 (0, 0)) zq73) : gb393 ≠ gb394)); have n6_ := am ((by rw [hg]; exact Nat.ne_of_gt (blk_lt (g := gb393) (o := .cells #[.slice A0_0 l0_0.length c0_0] 28 (0, 0)) zq73) : gb394 ≠ gb393)); clear BK393; clear HB; have BK393 := n0_; have HB := n1_; have BK394 := n2_; have GW394 := n3_; have GE394 := n4_; have NB393_394 := n5_; have NB394_393 := n6_; clear n0_ n1_ n2_ n3_ n4_ n5_ n6_; clear hb hbox hg; have hnb8 := NB393_394.out; have hnc8 := NB394_393.out; have hcz9_0 : w7.cell? ⟨gb393, 0, none⟩ = some (.slice A0_0 l0_0.length c0_0) := (blk_cell BK393.out 0).trans rfl; have hfz9_0 := blk_frozen BK393.out 0) | ((with_reducible refine gate_callee (f := 49) rfl ?_); refine goesL_ (some 15) rfl rfl Try.func49 zq17 rfl #[.agg #[.slice A0_0 l0_0.length c0_0], .int .i64 a1, .int .i64 0, .agg #[.int .i64 5, .int .i64 a2, .int .i64 a3]] rfl zq1 ?_; (with_reducible refine (impl_PutStep.calls _ _ l0_0 a1 0 5 a2 a3 t395 t398 _ ?side1 ?side2 A5.out).mono ?_); (case side1 => repeat (first | exact (Kd.C_below HR0_0.out HB.out) | (with_reducible refine Kd.C_alloc ?_ _) | (with_reducible refine Kd.C_drewN ?_ _) | (with_reducible refine Kd.C_drew ?_))); (case side2 => exact HC0_0.out); rintro e w10 ⟨v396, rfl, ho0, hb⟩; refine ⟨_, rfl, ?_⟩; have n0_ := am (Kd.S_lower ho0 (below_size zq72)); have n1_ := am (blk_below (g := gb393) (o := .cells #[.slice A0_0 l0_0.length c0_0] 28 (0, 0)) zq73 hb); have n2_ := am (blk_below (g := gb394) (o := .cells #[.slice none 0 0] 28 (0, 0)) (by (with_reducible repeat (first | refine blk_drewN ?_ _ | refine blk_drew ?_ | refine blk_alloc ?_ _)); exact BK394.out) hb); have n3_ := am (below_step zq72 hb); clear BK393; clear BK394; clear HB; have HO397 := n0_; have BK393 := n1_; have BK394 := n2_; have HB := n3_; clear n0_ n1_ n2_ n3_; (try clear hb); (try clear hb2); (try clear hk); (try clear hi); (try clear ho0); obtain ⟨Ao11, co11, eo11⟩ := Kd.S_slice HO397.out; subst eo11; have hcz12_0 : w10.cell? ⟨gb394, 0, none⟩ = some (.slice none 0 0) := (blk_cell BK394.out 0).trans rfl; have hfz12_0 := blk_frozen BK394.out 0))
 refine bodyPost_ret (results_ct rfl _ _ gb394 28 #[.slice Ao11 t395.length co11] (0, 0) _ rfl (by (with_reducible repeat (first | refine blk_drewN ?_ _ | refine blk_drew ?_ | refine blk_alloc ?_ _)); refine blk_put (cs := #[.slice none 0 0]) ?_ 0 _ rfl; (with_reducible repeat (first | refine blk_drewN ?_ _ | refine blk_drew ?_ | refine blk_alloc ?_ _)); exact BK394.out) Try.underlying28 rfl zq17) rfl ?_
 exact ⟨_, zq8, by (with_reducible repeat (first | apply Kd.S_alloc | apply Kd.S_drewN | apply Kd.S_drew)); exact Kd.S_mono (Kd.S_far (p := ⟨gb394, 0, none⟩) (Kd.S_types HO397.out BK394.out zq107) (fun _ hk => hk.2) (.slice Ao11 t395.length co11)) (fun _ hk => trivial), zq72⟩
end Go.Proofs.Ythdhhpcbagpmgaa.Pr
end

section
set_option linter.unusedVariables false
set_option linter.unusedSimpArgs false
namespace Go.Proofs.Ythdhhpcbagpmgaa.PureL
open Go.RowKit Go.Proofs.Ythdhhpcbagpmgaa.Pr Go.Proofs.YthdhhpcbagpmgaaW.PrintWords Go.Proofs.YthdhhpcbagpmgaaW.PrintLast Go.Proofs.YthdhhpcbagpmgaaW.PrintMore
theorem putStep_eq (p : List (List S72)) (f at_ : Int) (s : S72) (k : Nat) (hk : 1048577 < k) (hlen : p.length ≤ 1048576) : spec_PutStep.f k p f at_ s.f0 s.f1 s.f2 = impl_PutStep.f p f at_ s.f0 s.f1 s.f2 := by
 unfold spec_PutStep.f impl_PutStep.f
 rw [program_ok p k (by omega), Option.bind_some]
 cases hP : progOk p with
 | false =>
  have : putOk p f at_ s = false := by unfold putOk; rw [hP]; simp
  rw [this]; rfl
 | true =>
  obtain ⟨hl1, hl6, hbs⟩ := progOk_len hP
  rw [if_pos rfl]
  unfold spec_l2Function.f
  rw [wrap_in (by omega) (by omega), sin_eq, Option.bind_some, Option.bind_some]
  by_cases hf : 0 ≤ f ∧ f ≤ (p.length : Int) - 1
  ·rw [decide_eq_true hf, if_pos rfl, if_pos hf.1, if_pos (by omega)]
   obtain ⟨fn, rfl⟩ : ∃ fn : Nat, f = fn := ⟨f.toNat, by omega⟩
   have hfn : fn < p.length := by omega
   have hg : p.getD (fn : Int).toNat [] = p[fn] := by rw [Int.toNat_natCast, List.getD_eq_getElem?_getD, List.getElem?_eq_getElem hfn]; rfl
   obtain ⟨hx8, hst⟩ := hbs _ (List.getElem_mem hfn)
   unfold putOk
   rw [hg, hP, decide_eq_true hf, rd4_at p fn hfn, Bool.true_and, Bool.true_and]
   by_cases h8 : p[fn].length = 8
   ·rw [if_pos (by omega)]
    have : decide (p[fn].length ≠ 8) = false := decide_eq_false (by simpa using h8)
    rw [this, Bool.and_false, Bool.false_and]; rfl
   ·have : decide (p[fn].length ≠ 8) = true := decide_eq_true h8
    rw [if_neg (by omega), sin_eq, Option.bind_some, this, Bool.and_true]
    by_cases h2 : 0 ≤ at_ ∧ at_ ≤ (p[fn].length : Int)
    ·rw [decide_eq_true h2, if_pos rfl, Bool.true_and, sStep_eq p s hl6 k (by omega), Option.bind_some]
     cases hs : stepOk (p.length : Int) s with
     | false => rfl
     | true =>
      obtain ⟨an, rfl⟩ : ∃ an : Nat, at_ = an := ⟨at_.toNat, by omega⟩
      have hl2 : spec_l2Put.f p fn an s.f0 s.f1 s.f2 = some (p.set fn (putB an s p[fn])) := by
       unfold spec_l2Put.f
       rw [hg, hP, decide_eq_true hf, decide_eq_true h2, Bool.and_self, if_pos (by rfl), Int.toNat_natCast]
      rw [if_pos rfl, hl2, Option.bind_some, if_pos rfl, Int.toNat_natCast]
    ·rw [decide_eq_false h2, Bool.false_and]; rfl
  ·have : putOk p f at_ s = false := by unfold putOk; rw [hP, decide_eq_false hf]; simp
   rw [decide_eq_false hf, this]; rfl
theorem withDefer_eq (p : List (List S72)) (x1 x2 x3 : Int) (k : Nat) (hk : 1048577 < k) (hlen : p.length ≤ 1048576) : spec_WithDefer.f k p x1 x2 x3 = impl_PutStep.f p x1 0 5 x2 x3 ∧ impl_WithDefer.f p x1 x2 x3 = impl_PutStep.f p x1 0 5 x2 x3 := by
 have h := putStep_eq p x1 0 ⟨5, x2, x3⟩ k hk hlen
 unfold spec_WithDefer.f impl_WithDefer.f
 simp only at h
 rw [h]
 refine ⟨?_, ?_⟩ <;> · unfold impl_PutStep.f; rfl
theorem putStep_small (p : List (List S72)) (f at_ k a b : Int) (r : List (List S72)) (o : Bool) (h : impl_PutStep.f p f at_ k a b = some (r, o)) : r.length ≤ 6 ∧ ∀ b ∈ r, b.length ≤ 9 := by
 unfold impl_PutStep.f at h
 by_cases hp : putOk p f at_ ⟨k, a, b⟩ = true
 ·rw [if_pos hp] at h
  obtain ⟨rfl, rfl⟩ := Prod.mk.inj (Option.some.inj h)
  unfold putOk at hp
  simp only [Bool.and_eq_true, decide_eq_true_eq] at hp
  obtain ⟨hl1, hl6, hbs⟩ := progOk_len hp.1.1.1.1
  have hg := getD_mem p f.toNat (by omega)
  refine ⟨by rw [List.length_set]; exact hl6, fun c hc => ?_⟩
  rcases List.mem_or_eq_of_mem_set hc with hc | rfl
  ·have := (hbs _ hc).1; omega
  ·have h8 := (hbs _ hg).1
   unfold putB
   simp only [List.length_append, List.length_take, List.length_map, List.length_cons, List.length_drop]
   omega
 ·rw [if_neg hp] at h
  obtain ⟨rfl, rfl⟩ := Prod.mk.inj (Option.some.inj h)
  exact ⟨by decide, fun c hc => by cases hc⟩
end Go.Proofs.Ythdhhpcbagpmgaa.PureL
end

section
set_option linter.unusedVariables false
set_option linter.unusedSimpArgs false
namespace Go.Proofs.Ythdhhpcbagpmgaa.PureL
open Go.RowKit Go.Proofs.Ythdhhpcbagpmgaa.Pr Go.Proofs.YthdhhpcbagpmgaaW.PrintWords Go.Proofs.YthdhhpcbagpmgaaW.PrintLast
theorem total_toP' (l : List (List S69)) : total (toP l) = total l := by
 unfold total toP
 rw [List.map_map]
 congr 1
 apply List.map_congr_left
 intro b _
 simp
theorem mem_total' {α : Type} : ∀ (l : List (List α)) (b : List α), b ∈ l → b.length ≤ total l := by
 intro l
 induction l with
 | nil => intro b h; cases h
 | cons c l ih =>
  intro b h
  rw [total_cons]
  rcases List.mem_cons.1 h with h | h
  ·subst h; omega
  ·have := ih b h; omega
theorem total_le {l : List (List S72)} {n : Nat} (hb : ∀ b ∈ l, b.length ≤ n) : total l ≤ l.length * n := by
 induction l with
 | nil => simp [total]
 | cons c l ih =>
  rw [total_cons, List.length_cons, Nat.succ_mul]
  have := ih (fun b h => hb b (List.mem_cons_of_mem _ h))
  have := hb c List.mem_cons_self
  omega
theorem heldP_ok (l : List (List S72)) (h : total l ≤ 1048576) (hl : l.length ≤ 1048576) (k : Nat) (hk : 20000000 < k) : laws_heldProgram.f k (marks 1 l) 1 = some (1 + 3 * (total l : Int)) := by
 have h1 := heldSS_l l [] 1 (by omega) (by omega) (by omega) (by simp; omega) k (by omega)
 simp only [List.nil_append, List.length_nil, Int.natCast_zero] at h1
 unfold laws_heldProgram.f laws_heldStepSS.f
 rw [h1, Option.bind_some, if_neg (by omega)]
theorem prog_facts (l0 : List (List S69)) (hb : ∀ b ∈ l0, b.length ≤ 9223372036854775807) (hl : l0.length ≤ 9223372036854775807) : ∃ (sz : Int) (k : Nat), 30000000 < k ∧ laws_szProgram.f k l0 1048576 = some sz ∧
  (0 ≤ sz → laws_toProgram.f k l0 = some (toP l0) ∧ laws_eqProgram.f k (toP l0) (toP l0) = some true ∧ laws_markStepSS.f k (toP l0) 1 = some (1 + 3 * (total (toP l0) : Int), marks 1 (toP l0)) ∧ (toP l0).length ≤ 1048576 ∧ (∀ b ∈ toP l0, b.length ≤ 1048576)) := by
 obtain ⟨sz, h1, h2⟩ := szProgram_ok l0 hb hl
 obtain ⟨k, hk⟩ : ∃ k, 30000000 + l0.length < k := ⟨_, Nat.lt_succ_self _⟩
 refine ⟨sz, k, by omega, h1 k (by omega), fun h0 => ?_⟩
 have hs := h2 (by omega)
 have hb2 : ∀ b ∈ l0, b.length ≤ 1048576 := fun b hb => by have := mem_total' l0 b hb; omega
 have hpl : (toP l0).length ≤ 1048576 := by unfold toP; rw [List.length_map]; omega
 have htp : total (toP l0) ≤ 1048576 := by rw [total_toP']; omega
 have hpb : ∀ b ∈ toP l0, b.length ≤ 1048576 := fun b hb => by have := mem_total' _ b hb; omega
 exact ⟨toProgram_ok l0 (by omega) hb2 k (by omega), eqProgram_ok _ hpl hpb k (by omega), mark_ok _ htp k (by omega), hpl, hpb⟩
theorem small_facts (b : List (List S72)) (hl : b.length ≤ 7) (hb : ∀ x ∈ b, x.length ≤ 20) (k : Nat) (hk : 30000000 < k) :
  laws_eqProgram.f k b b = some true ∧ laws_markStepSS.f k b 1 = some (1 + 3 * (total b : Int), marks 1 b) ∧ laws_heldProgram.f k (marks 1 b) 1 = some (1 + 3 * (total b : Int)) := by
 have ht : total b ≤ 1048576 := by
  have := total_le hb
  have : b.length * 20 ≤ 7 * 20 := Nat.mul_le_mul_right _ hl
  omega
 exact ⟨eqProgram_ok b (by omega) (fun x hx => by have := hb x hx; omega) k (by omega), mark_ok b ht k (by omega), heldP_ok b ht (by omega) k (by omega)⟩
end Go.Proofs.Ythdhhpcbagpmgaa.PureL
end

section
namespace Go.Proofs.Ythdhhpcbagpmgaa.Pr
open Go.RowKit Go.Proofs.YthdhhpcbagpmgaaW.PrintWords Go.Proofs.YthdhhpcbagpmgaaW.PrintLast Go.Proofs.YthdhhpcbagpmgaaW.PrintMore
set_option linter.unusedVariables false
set_option linter.unusedSimpArgs false
def Made (w W : World) (a b : Nat) (v : Value) (l : List (List S72)) : Prop := Kd.S (Kd.slice 72 k72) 108 W w.heap.size (fun q => a ≤ q ∧ q < b) v l
theorem Made.new {w W W' : World} {v : Value} {l : List (List S72)} (h : Kd.S (Kd.slice 72 k72) 108 W' W.heap.size (fun _ => True) v l) (hb : w.heap.size ≤ W.heap.size) : Made w W' W.heap.size W'.heap.size v l :=
 Kd.S_mono (Kd.S_lower (Kd.S_bound h) hb) (fun q hq => ⟨hq.2.1, hq.2.2.1⟩)
theorem Made.below {w W W' : World} {a b : Nat} {v : Value} {l : List (List S72)} (h : Made w W a b v l) (hb : Below W.heap.size W W') : Made w W' a b v l := Kd.S_below h hb
theorem Made.kept {w W W' : World} {a b : Nat} {v : Value} {l : List (List S72)} {S : Nat → Prop} (h : Made w W a b v l) (hk : Kept W W' S) (hn : ∀ q, a ≤ q → q < b → ¬ S q) : Made w W' a b v l := Kd.S_kept h hk (fun q hq => hn q hq.1 hq.2)
end Go.Proofs.Ythdhhpcbagpmgaa.Pr
end

section
namespace Go.Proofs.Ythdhhpcbagpmgaa.Pr
open Go.RowKit Go.Proofs.YthdhhpcbagpmgaaW.PrintWords Go.Proofs.YthdhhpcbagpmgaaW.PrintLast Go.Proofs.YthdhhpcbagpmgaaW.PrintMore
attribute [local go_sem] max2_int min2_int max_two min_two max_three min_three max_four min_four
set_option linter.unusedVariables false
set_option linter.unusedSimpArgs false
def spec_l5Guard.j0 : Nat → Int → List (S72) → Bool → List (List (S72)) → Option ((List (List (S72))) × Bool)
 | 0, _, _, _, _ => none
 | k + 1, x1, x2, x23, x424000 => if x23 = true then (some (([] : List (List (S72))), false)) else ((spec_l2Own.f k x424000).bind fun t427 => ((some (([(⟨7, 0, 0⟩ : S72)] : List (S72)) : List (S72))).bind fun y431 => (if y431.length + x2.length < 5864062014805 then (if t427.length < 5864062014805 then ((spec_WithDefer.f k (t427 ++ [(y431 ++ x2)]) x1 (x424000.length : Int) 0).bind fun bt440 => (some (bt440.1, bt440.2))) else (none)) else (none))))
def spec_l5Guard.f (k : Nat) (l0_0 : List (List (S72))) (a1 : Int) (l2 : List (S72)) : Option ((List (List (S72))) × Bool) := (spec_l2Program.f k l0_0).bind fun t425 => (if t425 = true then ((spec_l2Function.f l0_0 a1).bind fun t426 => (if t426 = true then (spec_l5Guard.j0 k a1 l2 ((l0_0.length : Int) == 6) l0_0) else (spec_l5Guard.j0 k a1 l2 true l0_0))) else (spec_l5Guard.j0 k a1 l2 true l0_0))
def spec_l5Guard.T4 : Bool × List (List Nat × List Nat) := (true, [([], []), ([0], [0]), ([], []), ([2], [2]), ([], []), ([3, 4], [3, 4]), ([5], [5]), ([1, 6, 5], [1, 6]), ([0, 1, 2, 3, 4, 5, 6, 7], []), ([8, 7, 7, 0, 1, 2, 3, 4, 5, 6, 7], [7, 8])])
def spec_l5Guard.B4 : List Nat := [0, 1, 0, 4, 0, 28, 60, 127, 255, 511]
theorem spec_l5Guard.tab4 : rtab .any (opsOf Try.f102 4) = spec_l5Guard.T4 := by kernel_rfl
theorem spec_l5Guard.bits4 : waitsOk spec_l5Guard.T4.2 spec_l5Guard.B4 = true := by kernel_rfl
set_option maxHeartbeats 8000000 in
set_option maxRecDepth 100000 in
theorem spec_l5Guard.calls (k : Nat) (A0_0 : Option Addr) (c0_0 : Nat) (l0_0 : List (List (S72))) (a1 : Int) (A2 : Option Addr) (c2 : Nat) (l2 : List (S72)) (r1 : List (List (S72))) (r2 : Bool) (w : World) (hr0_0 : Kd.C (Kd.slice 72 k72) w A0_0 l0_0.length l0_0) (hc0_0 : l0_0.length ≤ c0_0) (hr2 : Kd.C k72 w A2 l2.length l2) (hc2 : l2.length ≤ c2) (h : spec_l5Guard.f k l0_0 a1 l2 = some (r1, r2)) :
  Calls Try.prog 102 #[.agg #[.slice A0_0 l0_0.length c0_0], .int .i64 a1, .slice A2 l2.length c2] w fun e w' => ∃ v0_ : Value, e = .returned (.tuple #[.agg #[v0_], .bool r2]) ∧ Kd.S (Kd.slice 72 k72) 108 w' w.heap.size (fun _ => True) v0_ r1 ∧ Below w.heap.size w w' := by
 have hu28 := Try.underlying28
 have hu72 := Try.underlying72
 have HR0_0 := am hr0_0
 have HC0_0 := am hc0_0
 clear hr0_0 hc0_0
 have HR2 := am hr2
 have HC2 := am hc2
 clear hr2 hc2
 have HB := am (Below.refl w.heap.size w)
 have H : ((spec_l2Program.f k l0_0).bind fun t425 => (if t425 = true then ((spec_l2Function.f l0_0 a1).bind fun t426 => (if t426 = true then (spec_l5Guard.j0 k a1 l2 ((l0_0.length : Int) == 6) l0_0) else (spec_l5Guard.j0 k a1 l2 true l0_0))) else (spec_l5Guard.j0 k a1 l2 true l0_0))) = some (r1, r2) := h
 clear h
 have HC4 := am H
 clear H
 go_enter Try.func102, Try.ntmps102
 go_upto_region 1 with (first | ((with_reducible refine gate_dst (N := 3) rfl ?_); (try (refine gate_guard (by rfl) ?_; dsimp only)); refine box_event ?hg (N := 3) ?hd (cs := #[.slice A0_0 l0_0.length c0_0]) (t := 28) ?hr ?_; (case hd => rfl); (case hg => rfl); (case hr => first | (go_simp; done) | (go_simp; rfl)); intro gb423 hg w5 hbox hb; have n0_ := am (below_step zq0 hb); have n1_ := am (hbox); have n2_ := am ((zq12 : w.heap.size ≤ gb423)); have n3_ := am ((zq12 : w.heap.size ≤ gb423)); clear HB; have HB := n0_; have BK423 := n1_; have GW423 := n2_; have GE423 := n3_; clear n0_ n1_ n2_ n3_; clear hb hbox hg) | ((with_reducible refine gate_dst (N := 6) rfl ?_); (try (refine gate_guard (by rfl) ?_; dsimp only)); refine box_event ?hg (N := 6) ?hd (cs := #[.slice none 0 0]) (t := 28) ?hr ?_; (case hd => rfl); (case hg => rfl); (case hr => first | (go_simp; done) | (go_simp; rfl)); intro gb424 hg w6 hbox hb; have n0_ := am (blk_below (g := gb423) (o := .cells #[.slice A0_0 l0_0.length c0_0] 28 (0, 0)) zq77 hb); have n1_ := am (below_step zq80 hb); have n2_ := am (hbox); have n3_ := am ((by rw [hg]; exact (below_size zq80) : w.heap.size ≤ gb424)); have n4_ := am ((by rw [hg]; exact (below_size zq80) : w.heap.size ≤ gb424)); have n5_ := am ((zq128 : gb423 ≠ gb424)); have n6_ := am ((zq129 : gb424 ≠ gb423)); clear BK423; clear HB; have BK423 := n0_; have HB := n1_; have BK424 := n2_; have GW424 := n3_; have GE424 := n4_; have NB423_424 := n5_; have NB424_423 := n6_; clear n0_ n1_ n2_ n3_ n4_ n5_ n6_; clear hb hbox hg))
 (try simp only [Act.put, List.setIfInBounds_toArray, List.set_cons_zero, List.set_cons_succ])
 go_cut [23] (fun v23 wc => ∃ (kq : Nat) (x23_3 : Bool), v23 = .bool x23_3 ∧ Aside0 (spec_l5Guard.j0 kq a1 l2 x23_3 l0_0 = some (r1, r2)) ∧ Aside0 (kq ≤ k) ∧ Aside0 (wc.heap[gb423]? = some (.cells #[(.slice A0_0 l0_0.length c0_0)] 28 (0, 0))) ∧ Aside0 (wc.heap[gb424]? = some (.cells #[(.slice none 0 0)] 28 (0, 0))) ∧ Aside0 (Below w.heap.size w wc))
 case first =>
  have H := HC4.out
  clear HC4
  replace H := bem H
  obtain ⟨t425, A70, H⟩ := H
  replace H : (if t425 = true then ((spec_l2Function.f l0_0 a1).bind fun t426 => (if t426 = true then (spec_l5Guard.j0 k a1 l2 ((l0_0.length : Int) == 6) l0_0) else (spec_l5Guard.j0 k a1 l2 true l0_0))) else (spec_l5Guard.j0 k a1 l2 true l0_0)) = some (r1, r2) := H
  have A7 := am A70
  clear A70
  by_cases c8 : t425 = true
  ·subst c8
   have H1 : ((spec_l2Function.f l0_0 a1).bind fun t426 => (if t426 = true then (spec_l5Guard.j0 k a1 l2 ((l0_0.length : Int) == 6) l0_0) else (spec_l5Guard.j0 k a1 l2 true l0_0))) = some (r1, r2) := by rw [if_pos rfl] at H; exact H
   clear H
   have H := H1
   clear H1
   replace H := bem H
   obtain ⟨t426, A90, H⟩ := H
   replace H : (if t426 = true then (spec_l5Guard.j0 k a1 l2 ((l0_0.length : Int) == 6) l0_0) else (spec_l5Guard.j0 k a1 l2 true l0_0)) = some (r1, r2) := H
   have A9 := am A90
   clear A90
   by_cases c10 : t426 = true
   ·subst c10
    have H1 : (spec_l5Guard.j0 k a1 l2 ((l0_0.length : Int) == 6) l0_0) = some (r1, r2) := by rw [if_pos rfl] at H; exact H
    clear H
    have H := H1
    clear H1
    have H' := am H
    clear H
    have hnb11 := NB423_424.out
    have hnc11 := NB424_423.out
    have hcz12_0 : w6.cell? ⟨gb423, 0, none⟩ = some (.slice A0_0 l0_0.length c0_0) := (blk_cell BK423.out 0).trans rfl
    have hfz12_0 := blk_frozen BK423.out 0
    go_wp2_with (first | ((with_reducible refine gate_callee (f := 91) rfl ?_); refine goesL_ (some 10) rfl rfl Try.func91 zq17 rfl #[.agg #[.slice A0_0 l0_0.length c0_0]] rfl zq1 ?_; (with_reducible refine (spec_l2Program.calls k _ _ l0_0 true _ ?side1 ?side2 A7.out).mono ?_); (case side1 => repeat (first | exact (Kd.C_below HR0_0.out HB.out) | (with_reducible refine Kd.C_alloc ?_ _) | (with_reducible refine Kd.C_drewN ?_ _) | (with_reducible refine Kd.C_drew ?_))); (case side2 => exact HC0_0.out); rintro e w13 ⟨rfl, hb⟩; refine ⟨_, rfl, ?_⟩; have n0_ := am (blk_below (g := gb423) (o := .cells #[.slice A0_0 l0_0.length c0_0] 28 (0, 0)) zq77 hb); have n1_ := am (blk_below (g := gb424) (o := .cells #[.slice none 0 0] 28 (0, 0)) zq78 hb); have n2_ := am (below_step zq75 hb); clear BK423; clear BK424; clear HB; have BK423 := n0_; have BK424 := n1_; have HB := n2_; clear n0_ n1_ n2_; (try clear hb); (try clear hb2); (try clear hk); (try clear hi); have hcz14_0 : w13.cell? ⟨gb423, 0, none⟩ = some (.slice A0_0 l0_0.length c0_0) := (blk_cell BK423.out 0).trans rfl; have hfz14_0 := blk_frozen BK423.out 0) | (go_at_call 92; (with_reducible refine (spec_l2Function.calls _ _ l0_0 a1 true _ ?side1 ?side2 A9.out).mono ?_); (case side1 => repeat (first | exact (Kd.C_below HR0_0.out HB.out) | (with_reducible refine Kd.C_alloc ?_ _) | (with_reducible refine Kd.C_drewN ?_ _) | (with_reducible refine Kd.C_drew ?_))); (case side2 => exact HC0_0.out); rintro e w15 ⟨rfl, hb⟩; have n0_ := am (blk_below (g := gb423) (o := .cells #[.slice A0_0 l0_0.length c0_0] 28 (0, 0)) zq77 hb); have n1_ := am (blk_below (g := gb424) (o := .cells #[.slice none 0 0] 28 (0, 0)) zq78 hb); have n2_ := am (below_step zq75 hb); clear BK423; clear BK424; clear HB; have BK423 := n0_; have BK424 := n1_; have HB := n2_; clear n0_ n1_ n2_; (try clear hb); (try clear hb2); (try clear hk); (try clear hi); have hcz16_0 : w15.cell? ⟨gb423, 0, none⟩ = some (.slice A0_0 l0_0.length c0_0) := (blk_cell BK423.out 0).trans rfl; have hfz16_0 := blk_frozen BK423.out 0))
    go_meet
    case rel => exact ⟨_, (((l0_0.length : Int) == 6)), zq3, H', ⟨zq106⟩, ⟨zq77⟩, ⟨zq78⟩, ⟨zq75⟩⟩
   ·replace c10 := Bool.eq_false_iff.mpr c10
    subst c10
    have H1 : (spec_l5Guard.j0 k a1 l2 true l0_0) = some (r1, r2) := by rw [if_neg (show ¬ (false = true) by decide)] at H; exact H
    clear H
    have H := H1
    clear H1
    have H' := am H
    clear H
    have hnb17 := NB423_424.out
    have hnc17 := NB424_423.out
    have hcz18_0 : w6.cell? ⟨gb423, 0, none⟩ = some (.slice A0_0 l0_0.length c0_0) := (blk_cell BK423.out 0).trans rfl
    have hfz18_0 := blk_frozen BK423.out 0
    go_wp2_with (first | ((with_reducible refine gate_callee (f := 91) rfl ?_); refine goesL_ (some 10) rfl rfl Try.func91 zq17 rfl #[.agg #[.slice A0_0 l0_0.length c0_0]] rfl zq1 ?_; (with_reducible refine (spec_l2Program.calls k _ _ l0_0 true _ ?side1 ?side2 A7.out).mono ?_); (case side1 => repeat (first | exact (Kd.C_below HR0_0.out HB.out) | (with_reducible refine Kd.C_alloc ?_ _) | (with_reducible refine Kd.C_drewN ?_ _) | (with_reducible refine Kd.C_drew ?_))); (case side2 => exact HC0_0.out); rintro e w19 ⟨rfl, hb⟩; refine ⟨_, rfl, ?_⟩; have n0_ := am (blk_below (g := gb423) (o := .cells #[.slice A0_0 l0_0.length c0_0] 28 (0, 0)) zq77 hb); have n1_ := am (blk_below (g := gb424) (o := .cells #[.slice none 0 0] 28 (0, 0)) zq78 hb); have n2_ := am (below_step zq75 hb); clear BK423; clear BK424; clear HB; have BK423 := n0_; have BK424 := n1_; have HB := n2_; clear n0_ n1_ n2_; (try clear hb); (try clear hb2); (try clear hk); (try clear hi); have hcz20_0 : w19.cell? ⟨gb423, 0, none⟩ = some (.slice A0_0 l0_0.length c0_0) := (blk_cell BK423.out 0).trans rfl; have hfz20_0 := blk_frozen BK423.out 0) | (go_at_call 92; (with_reducible refine (spec_l2Function.calls _ _ l0_0 a1 false _ ?side1 ?side2 A9.out).mono ?_); (case side1 => repeat (first | exact (Kd.C_below HR0_0.out HB.out) | (with_reducible refine Kd.C_alloc ?_ _) | (with_reducible refine Kd.C_drewN ?_ _) | (with_reducible refine Kd.C_drew ?_))); (case side2 => exact HC0_0.out); rintro e w21 ⟨rfl, hb⟩; have n0_ := am (blk_below (g := gb423) (o := .cells #[.slice A0_0 l0_0.length c0_0] 28 (0, 0)) zq77 hb); have n1_ := am (blk_below (g := gb424) (o := .cells #[.slice none 0 0] 28 (0, 0)) zq78 hb); have n2_ := am (below_step zq75 hb); clear BK423; clear BK424; clear HB; have BK423 := n0_; have BK424 := n1_; have HB := n2_; clear n0_ n1_ n2_; (try clear hb); (try clear hb2); (try clear hk); (try clear hi)))
    go_meet
    case rel => exact ⟨_, (true), zq3, H', ⟨zq106⟩, ⟨zq77⟩, ⟨zq78⟩, ⟨zq75⟩⟩
  ·replace c8 := Bool.eq_false_iff.mpr c8
   subst c8
   have H1 : (spec_l5Guard.j0 k a1 l2 true l0_0) = some (r1, r2) := by rw [if_neg (show ¬ (false = true) by decide)] at H; exact H
   clear H
   have H := H1
   clear H1
   have H' := am H
   clear H
   have hnb22 := NB423_424.out
   have hnc22 := NB424_423.out
   have hcz23_0 : w6.cell? ⟨gb423, 0, none⟩ = some (.slice A0_0 l0_0.length c0_0) := (blk_cell BK423.out 0).trans rfl
   have hfz23_0 := blk_frozen BK423.out 0
   go_wp2_with (first | ((with_reducible refine gate_callee (f := 91) rfl ?_); refine goesL_ (some 10) rfl rfl Try.func91 zq17 rfl #[.agg #[.slice A0_0 l0_0.length c0_0]] rfl zq1 ?_; (with_reducible refine (spec_l2Program.calls k _ _ l0_0 false _ ?side1 ?side2 A7.out).mono ?_); (case side1 => repeat (first | exact (Kd.C_below HR0_0.out HB.out) | (with_reducible refine Kd.C_alloc ?_ _) | (with_reducible refine Kd.C_drewN ?_ _) | (with_reducible refine Kd.C_drew ?_))); (case side2 => exact HC0_0.out); rintro e w24 ⟨rfl, hb⟩; refine ⟨_, rfl, ?_⟩; have n0_ := am (blk_below (g := gb423) (o := .cells #[.slice A0_0 l0_0.length c0_0] 28 (0, 0)) zq77 hb); have n1_ := am (blk_below (g := gb424) (o := .cells #[.slice none 0 0] 28 (0, 0)) zq78 hb); have n2_ := am (below_step zq75 hb); clear BK423; clear BK424; clear HB; have BK423 := n0_; have BK424 := n1_; have HB := n2_; clear n0_ n1_ n2_; (try clear hb); (try clear hb2); (try clear hk); (try clear hi)))
   go_meet
   case rel => exact ⟨_, (true), zq3, H', ⟨zq106⟩, ⟨zq77⟩, ⟨zq78⟩, ⟨zq75⟩⟩
 case rest =>
  clear HC4
  try clear c1
  try clear c2
  try clear p2
  try clear c8
  try clear c9
  try clear c10
  try clear c11
  try clear c17
  try clear c22
  try clear hcz12_0
  try clear hcz14_0
  try clear hcz16_0
  try clear hcz18_0
  try clear hcz20_0
  try clear hcz23_0
  try clear hfz12_0
  try clear hfz14_0
  try clear hfz16_0
  try clear hfz18_0
  try clear hfz20_0
  try clear hfz23_0
  obtain ⟨kq, x23_3, rfl, HA, HJ3, BK423, BK424, HB⟩ := hcut
  cases kq with
  | zero => exact absurd HA.out (by simp [spec_l5Guard.j0])
  | succ kj3 =>
   have H := HA.out
   clear HA
   simp only [spec_l5Guard.j0] at H
   by_cases c25 : x23_3 = true
   ·subst c25
    have H1 : (some (([] : List (List (S72))), false)) = some (r1, r2) := by rw [if_pos rfl] at H; exact H
    clear H
    have H := H1
    clear H1
    simp only [Option.some.injEq, Prod.mk.injEq] at H
    obtain ⟨rfl, rfl⟩ := H
    have hnb26 := NB424_423.out
    have hnc26 := NB423_424.out
    have hcz27_0 : wc.cell? ⟨gb424, 0, none⟩ = some (.slice none 0 0) := (blk_cell BK424.out 0).trans rfl
    have hfz27_0 := blk_frozen BK424.out 0
    go_wp2
    refine bodyPost_ret (results_ct rfl _ _ gb424 28 #[.slice none 0 0] (0, 0) _ rfl zq81 Try.underlying28 rfl zq17) rfl ?_
    exact ⟨_, zq8, zq66, zq75⟩
   ·replace c25 := Bool.eq_false_iff.mpr c25
    subst c25
    have H1 : ((spec_l2Own.f kj3 l0_0).bind fun t427 => ((some (([(⟨7, 0, 0⟩ : S72)] : List (S72)) : List (S72))).bind fun y431 => (if y431.length + l2.length < 5864062014805 then (if t427.length < 5864062014805 then ((spec_WithDefer.f kj3 (t427 ++ [(y431 ++ l2)]) a1 (l0_0.length : Int) 0).bind fun bt440 => (some (bt440.1, bt440.2))) else (none)) else (none)))) = some (r1, r2) := by rw [if_neg (show ¬ (false = true) by decide)] at H; exact H
    clear H
    have H := H1
    clear H1
    replace H := bem H
    obtain ⟨t427, A280, H⟩ := H
    replace H : ((some (([(⟨7, 0, 0⟩ : S72)] : List (S72)) : List (S72))).bind fun y431 => (if y431.length + l2.length < 5864062014805 then (if t427.length < 5864062014805 then ((spec_WithDefer.f kj3 (t427 ++ [(y431 ++ l2)]) a1 (l0_0.length : Int) 0).bind fun bt440 => (some (bt440.1, bt440.2))) else (none)) else (none))) = some (r1, r2) := H
    have A28 := am A280
    clear A280
    obtain ⟨y431, hy431⟩ : ∃ y_ : List (S72), y_ = (([(⟨7, 0, 0⟩ : S72)] : List (S72))) := ⟨_, rfl⟩
    replace H : (if y431.length + l2.length < 5864062014805 then (if t427.length < 5864062014805 then ((spec_WithDefer.f kj3 (t427 ++ [(y431 ++ l2)]) a1 (l0_0.length : Int) 0).bind fun bt440 => (some (bt440.1, bt440.2))) else (none)) else (none)) = some (r1, r2) := by first | (rw [hy431]; with_reducible exact H) | (have H2_ := (Option.bind_some _ _).symm.trans H; rw [hy431]; with_reducible exact H2_) | (have H2_ := (Option.bind_some _ _).symm.trans H; with_reducible exact H2_) | with_reducible exact H | (rw [hy431]; exact H) | exact H
    have Ny431 := am hy431
    clear hy431
    by_cases c29 : y431.length + l2.length < 5864062014805
    ·rw [if_pos c29] at H
     have LMc29 := am c29
     clear c29
     obtain ⟨y434, hy434⟩ : ∃ y_ : List (S72), y_ = (y431 ++ l2) := ⟨_, rfl⟩
     replace H : (if t427.length < 5864062014805 then ((spec_WithDefer.f kj3 (t427 ++ [y434]) a1 (l0_0.length : Int) 0).bind fun bt440 => (some (bt440.1, bt440.2))) else (none)) = some (r1, r2) := by first | (rw [hy434]; with_reducible exact H) | (have H2_ := (Option.bind_some _ _).symm.trans H; rw [hy434]; with_reducible exact H2_) | (have H2_ := (Option.bind_some _ _).symm.trans H; with_reducible exact H2_) | with_reducible exact H | (rw [hy434]; exact H) | exact H
     have Ny434 := am hy434
     clear hy434
     by_cases c30 : t427.length < 5864062014805
     ·rw [if_pos c30] at H
      have LMc30 := am c30
      clear c30
      obtain ⟨y437, hy437⟩ : ∃ y_ : List (List (S72)), y_ = (t427 ++ [y434]) := ⟨_, rfl⟩
      replace H : ((spec_WithDefer.f kj3 y437 a1 (l0_0.length : Int) 0).bind fun bt440 => (some (bt440.1, bt440.2))) = some (r1, r2) := by first | (rw [hy437]; with_reducible exact H) | (have H2_ := (Option.bind_some _ _).symm.trans H; rw [hy437]; with_reducible exact H2_) | (have H2_ := (Option.bind_some _ _).symm.trans H; with_reducible exact H2_) | with_reducible exact H | (rw [hy437]; exact H) | exact H
      have Ny437 := am hy437
      clear hy437
      replace H := bem H
      obtain ⟨⟨t440, t443⟩, A310, H⟩ := H
      replace H : (some (t440, t443)) = some (r1, r2) := H
      have A31 := am A310
      clear A310
      simp only [Option.some.injEq, Prod.mk.injEq] at H
      obtain ⟨rfl, rfl⟩ := H
      have hnb32 := NB423_424.out
      have hnc32 := NB424_423.out
      have hcz33_0 : wc.cell? ⟨gb423, 0, none⟩ = some (.slice A0_0 l0_0.length c0_0) := (blk_cell BK423.out 0).trans rfl
      have hfz33_0 := blk_frozen BK423.out 0
      try go_wp2_with (first | ((with_reducible refine gate_callee (f := 105) rfl ?_); refine goesL_ (some 26) rfl rfl Try.func105 zq17 rfl #[.agg #[.slice A0_0 l0_0.length c0_0]] rfl zq1 ?_; (with_reducible refine (spec_l2Own.calls kj3 _ _ l0_0 t427 _ ?side1 ?side2 A28.out).mono ?_); (case side1 => repeat (first | exact (Kd.C_below HR0_0.out HB.out) | (with_reducible refine Kd.C_alloc ?_ _) | (with_reducible refine Kd.C_drewN ?_ _) | (with_reducible refine Kd.C_drew ?_))); (case side2 => exact HC0_0.out); rintro e w34 ⟨v428, rfl, ho0, hb⟩; refine ⟨_, rfl, ?_⟩; have n0_ := am (Kd.S_lower ho0 (below_size zq75)); have n1_ := am (blk_below (g := gb423) (o := .cells #[.slice A0_0 l0_0.length c0_0] 28 (0, 0)) zq77 hb); have n2_ := am (blk_below (g := gb424) (o := .cells #[.slice none 0 0] 28 (0, 0)) zq78 hb); have n3_ := am (below_step zq75 hb); clear BK423; clear BK424; clear HB; have HO429 := n0_; have BK423 := n1_; have BK424 := n2_; have HB := n3_; clear n0_ n1_ n2_ n3_; (try clear hb); (try clear hb2); (try clear hk); (try clear hi); (try clear ho0)) | ((with_reducible refine gate_dst (N := 8) rfl ?_); (try (refine gate_guard (by rfl) ?_; dsimp only)); refine box_event ?hg (N := 8) ?hd (cs := #[.slice none 0 0]) (t := 28) ?hr ?_; (case hd => rfl); (case hg => rfl); (case hr => first | (go_simp; done) | (go_simp; rfl)); intro gb430 hg w35 hbox hb; have n0_ := am (Kd.S_below zq85 hb); have n1_ := am (blk_below (g := gb423) (o := .cells #[.slice A0_0 l0_0.length c0_0] 28 (0, 0)) zq77 hb); have n2_ := am (blk_below (g := gb424) (o := .cells #[.slice none 0 0] 28 (0, 0)) zq78 hb); have n3_ := am (below_step zq75 hb); have n4_ := am (hbox); have n5_ := am ((by rw [hg]; exact (below_size zq75) : w.heap.size ≤ gb430)); have n6_ := am ((by rw [hg]; exact (below_size zq75) : w.heap.size ≤ gb430)); have n7_ := am ((zq128 : gb423 ≠ gb430)); have n8_ := am ((zq129 : gb430 ≠ gb423)); have n9_ := am ((by rw [hg]; exact Nat.ne_of_lt (blk_lt (g := gb424) (o := .cells #[.slice none 0 0] 28 (0, 0)) zq78) : gb424 ≠ gb430)); have n10_ := am ((by rw [hg]; exact Nat.ne_of_gt (blk_lt (g := gb424) (o := .cells #[.slice none 0 0] 28 (0, 0)) zq78) : gb430 ≠ gb424)); clear HO429; clear BK423; clear BK424; clear HB; have HO429 := n0_; have BK423 := n1_; have BK424 := n2_; have HB := n3_; have BK430 := n4_; have GW430 := n5_; have GE430 := n6_; have NB423_430 := n7_; have NB430_423 := n8_; have NB424_430 := n9_; have NB430_424 := n10_; clear n0_ n1_ n2_ n3_ n4_ n5_ n6_ n7_ n8_ n9_ n10_; clear hb hbox hg; obtain ⟨Ao36, co36, eo36⟩ := Kd.S_slice HO429.out; subst eo36; have hnb37 := NB430_423.out; have hnc37 := NB423_430.out; have hnb38 := NB430_424.out; have hnc38 := NB424_430.out; have hcz39_0 : w35.cell? ⟨gb430, 0, none⟩ = some (.slice none 0 0) := (blk_cell BK430.out 0).trans rfl; have hfz39_0 := blk_frozen BK430.out 0))
      have n0_ : Aside0 (Kd.S (Kd.slice 72 k72) 108 (w35.setCell ⟨gb430, 0, none⟩ (.slice Ao36 t427.length co36)) w.heap.size (fun _ => True) (.slice Ao36 t427.length co36) t427) := ⟨by (with_reducible repeat (first | apply Kd.S_alloc | apply Kd.S_drewN | apply Kd.S_drew)); exact Kd.S_mono (Kd.S_far (p := ⟨gb430, 0, none⟩) (Kd.S_types HO429.out BK430.out zq107) (fun _ hk => hk.2) (.slice Ao36 t427.length co36)) (fun _ hk => trivial)⟩
      have n1_ : Aside0 ((w35.setCell ⟨gb430, 0, none⟩ (.slice Ao36 t427.length co36)).heap[gb423]? = some (.cells #[.slice A0_0 l0_0.length c0_0] 28 (0, 0))) := ⟨zq82⟩
      have n2_ : Aside0 ((w35.setCell ⟨gb430, 0, none⟩ (.slice Ao36 t427.length co36)).heap[gb424]? = some (.cells #[.slice none 0 0] 28 (0, 0))) := ⟨zq83⟩
      have n3_ : Aside0 ((w35.setCell ⟨gb430, 0, none⟩ (.slice Ao36 t427.length co36)).heap[gb430]? = some (.cells #[.slice Ao36 t427.length co36] 28 (0, 0))) := ⟨by (with_reducible repeat (first | refine blk_drewN ?_ _ | refine blk_drew ?_ | refine blk_alloc ?_ _)); refine blk_put (cs := #[.slice none 0 0]) ?_ 0 _ rfl; (with_reducible repeat (first | refine blk_drewN ?_ _ | refine blk_drew ?_ | refine blk_alloc ?_ _)); exact BK430.out⟩
      have n4_ : Aside0 (Below w.heap.size w (w35.setCell ⟨gb430, 0, none⟩ (.slice Ao36 t427.length co36))) := ⟨zq76⟩
      (try clear HO429)
      (try clear BK423)
      (try clear BK424)
      (try clear BK430)
      (try clear HB)
      generalize (w35.setCell ⟨gb430, 0, none⟩ (.slice Ao36 t427.length co36)) = w40 at n0_ n1_ n2_ n3_ n4_ ⊢
      have HO429 := n0_
      have BK423 := n1_
      have BK424 := n2_
      have BK430 := n3_
      have HB := n4_
      clear n0_ n1_ n2_ n3_ n4_
      have n0_ := am (Kd.S_drew HO429.out)
      have n1_ := am (blk_drew BK423.out)
      have n2_ := am (blk_drew BK424.out)
      have n3_ := am (blk_drew BK430.out)
      have n4_ := am (below_drew1 HB.out)
      clear HO429
      clear BK423
      clear BK424
      clear BK430
      clear HB
      have HO429 := n0_
      have BK423 := n1_
      have BK424 := n2_
      have BK430 := n3_
      have HB := n4_
      clear n0_ n1_ n2_ n3_ n4_
      refine start_ (n := 10) (S := fun w' => w'.cell? ⟨gb430, 0, none⟩ = some (.slice Ao36 t427.length co36)) (ds := [9]) #[false, false, false, false, false, false, false, false, false, false] zq17 rfl rfl ((blk_cell BK430.out 0).trans rfl) (fun hHeld => ?_); refine with_tabW spec_l5Guard.tab4 spec_l5Guard.bits4 (fun HT_ HW_ => ?_)
      generalize w40.drew = w41 at HO429 BK423 BK424 BK430 HB hHeld ⊢
      refine pure_ (i := 0) (N := some 27) (v := ?_) (a' := ?_) #[true, false, false, false, false, false, false, false, false, false] rfl rfl (any_of HT_.out zq17) (fun _ _ _ h => h) (Or.inl ⟨by rfl, ?_⟩) ?_ ?_
      rotate_left
      ·intro w'
       go_simp
       with_reducible rfl
      rotate_left
      ·simp only [Act.put, List.setIfInBounds_toArray, List.set_cons_zero, List.set_cons_succ, i64_w, i32_w]
       rfl
      refine pure_ (i := 2) (N := some 29) (v := ?_) (a' := ?_) #[true, false, true, false, false, false, false, false, false, false] rfl rfl (any_of HT_.out zq17) (fun _ _ _ h => h) (Or.inl ⟨by rfl, ?_⟩) ?_ ?_
      rotate_left
      ·intro w'
       go_simp
       with_reducible rfl
      rotate_left
      ·simp only [Act.put, List.setIfInBounds_toArray, List.set_cons_zero, List.set_cons_succ, i64_w, i32_w]
       rfl
      refine pure_ (i := 4) (N := some 31) (v := ?_) (a' := ?_) #[true, false, true, false, true, false, false, false, false, false] rfl rfl (any_of HT_.out zq17) (fun _ _ _ h => h) (Or.inl ⟨by rfl, ?_⟩) ?_ ?_
      rotate_left
      ·intro w'
       go_simp
       with_reducible rfl
      rotate_left
      ·simp only [Act.put, List.setIfInBounds_toArray, List.set_cons_zero, List.set_cons_succ, i64_w, i32_w]
       rfl
      refine take_ (i := 1) (N := some 28) (v := ?_) (a' := ?_) #[true, true, true, false, true, false, false, false, false, false] rfl rfl (take_ofW HT_.out HW_.out zq17) (fun _ _ _ h => h) (Or.inl ⟨by rfl, ?_⟩) hHeld ?_ ?_
      rotate_left
      ·intro w' s0
       go_simp
       with_reducible rfl
      rotate_left
      ·simp only [Act.put, List.setIfInBounds_toArray, List.set_cons_zero, List.set_cons_succ, i64_w, i32_w]
       rfl
      refine one_ (i := 3) (N := some 30) #[true, true, true, true, true, false, false, false, false, false] rfl rfl (one_of HT_.out zq17) zq107 (fun K hK => ?_)
      refine Kd.R_lit_step k72 _ 72 ?hg (N := 30) ?hd (xs := ([(⟨7, 0, 0⟩ : S72)] : List (S72))) (inner := [.int .i64 7, .int .i64 0, .int .i64 0]) (ok := fun _ => True) (okp := fun _ => True) ?hr ?hp (fun _ hk => hk) trivial (Below.refl _ _) (Nat.le_refl _) (by simp) ?_; (case hd => rfl); (case hg => rfl); (case hr => first | (go_simp; done) | (go_simp; rfl)); (case hp => exact (Reps.c3 (show Kd.M k72 _ _ _ (⟨7, 0, 0⟩ : S72) [.int .i64 7, .int .i64 0, .int .i64 0] from (k72_mkM _ _ _ (⟨7, 0, 0⟩ : S72) )) (Reps.none _ _)))
      intro v432 w42 ho43 hb hg_ hnew_
      clear hg_ hnew_
      (first | rw [← Ny431.out] at ho43 | (simp only [Int.reduceToNat] at ho43; rw [← Ny431.out] at ho43))
      have n0_ := am (Kd.S_elder' zq85 (Kd.R_base ho43) hb)
      have n1_ := am (Kd.R_lower ho43 (below_size zq76))
      have n2_ := am (blk_below (g := gb423) (o := .cells #[.slice A0_0 l0_0.length c0_0] 28 (0, 0)) zq77 hb)
      have n3_ := am (blk_below (g := gb424) (o := .cells #[.slice none 0 0] 28 (0, 0)) zq78 hb)
      have n4_ := am (blk_below (g := gb430) (o := .cells #[.slice Ao36 t427.length co36] 28 (0, 0)) zq84 hb)
      have n5_ := am (below_step zq76 hb)
      clear HO429
      clear BK423
      clear BK424
      clear BK430
      clear HB
      have HO429 := n0_
      have HO433 := n1_
      have BK423 := n2_
      have BK424 := n3_
      have BK430 := n4_
      have HB := n5_
      clear n0_ n1_ n2_ n3_ n4_ n5_
      clear hb ho43
      refine hK.out _ _ ((blk_cell BK430.out 0).trans rfl) (fun hHeld => ?_)
      clear hK K
      refine norm_ (a' := ?_) ?_ ?_
      rotate_left
      ·show Act.put _ (some 30) _ = _
       simp only [Act.put, List.setIfInBounds_toArray, List.set_cons_zero, List.set_cons_succ, i64_w, i32_w]
       rfl
      refine one_ (i := 5) (N := some 32) #[true, true, true, true, true, true, false, false, false, false] rfl rfl (one_of HT_.out zq17) zq107 (fun K hK => ?_)
      refine Kd.R_append_rows_step k72 (w0 := w) w.heap.size (by rfl) (.tmp 30) (.tmp 31) 108 72 (.agg #[(.int .i64 0), (.int .i64 0), (.int .i64 0)]) 24 rfl Try.underlying108 info72 rfl zq107 (by omega) v432 y431 l2 _ _ _ (fun _ => True) (fun _ => False) rfl rfl ?aO ?aR (fun _ _ h => h) (fun _ h => h.elim) ?aF ?aB ?aS ?aL ?_
      (case aR => repeat (first | exact (Kd.C_below HR2.out HB.out) | (with_reducible refine Kd.C_alloc ?_ _) | (with_reducible refine Kd.C_drewN ?_ _) | (with_reducible refine Kd.C_drew ?_)))
      (case aB => exact zq76)
      (case aF => exact (fun _ _ => trivial))
      (case aO => exact (by (with_reducible repeat (first | apply Kd.R_alloc | apply Kd.R_drewN | apply Kd.R_drew)); exact HO433.out))
      (case aS => exact (below_size zq76))
      (case aL => have := LMc29.out; omega)
      intro v435 w44 ho hb hg hat
      rw [← Ny434.out] at ho
      have n0_ := am (blk_grown (g := gb423) (o := .cells #[.slice A0_0 l0_0.length c0_0] 28 (0, 0)) zq77 hg (Kd.R_ne HO433.out BK423.out zq107))
      have n1_ := am (blk_grown (g := gb424) (o := .cells #[.slice none 0 0] 28 (0, 0)) zq78 hg (Kd.R_ne HO433.out BK424.out zq107))
      have n2_ := am (Kd.S_after (ok := (fun _ => True)) zq85 hg hat)
      have n3_ := am (blk_grown (g := gb430) (o := .cells #[.slice Ao36 t427.length co36] 28 (0, 0)) zq84 hg (Kd.R_ne HO433.out BK430.out zq107))
      have n4_ := am (hb)
      have n5_ := am (ho)
      clear BK423
      clear BK424
      clear HO429
      clear BK430
      clear HB
      clear HO433
      have BK423 := n0_
      have BK424 := n1_
      have HO429 := n2_
      have BK430 := n3_
      have HB := n4_
      have HO436 := n5_
      clear n0_ n1_ n2_ n3_ n4_ n5_
      clear ho hb hg hat
      obtain ⟨Ao46, co46, eo46⟩ := Kd.R_slice HO436.out
      (first | subst eo46 | (injection eo46 with f1_ f2_ f3_; have f4_ := f1_.symm; have f5_ := f3_.symm; clear f1_ f2_ f3_; subst f4_; subst f5_))
      refine hK.out _ _ ((blk_cell BK430.out 0).trans rfl) (fun hHeld => ?_)
      clear hK K
      refine norm_ (a' := ?_) ?_ ?_
      rotate_left
      ·show Act.put _ (some 32) _ = _
       simp only [Act.put, List.setIfInBounds_toArray, List.set_cons_zero, List.set_cons_succ, i64_w, i32_w]
       rfl
      refine one_ (i := 6) (N := some 33) #[true, true, true, true, true, true, true, false, false, false] rfl rfl (one_of HT_.out zq17) zq107 (fun K hK => ?_)
      refine value_ (w1 := ?_) (v := ?_) (by rfl) rfl ?_ ?_
      rotate_left 2
      ·go_simp
       constructor
       ·rfl
       ·rfl
      refine hK.out _ _ ((blk_cell (blk_alloc BK430.out _) 0).trans rfl) (fun hHeld => ?_)
      clear hK K
      refine norm_ (a' := ?_) ?_ ?_
      rotate_left
      ·show Act.put _ (some 33) _ = _
       simp only [Act.put, List.setIfInBounds_toArray, List.set_cons_zero, List.set_cons_succ, i64_w, i32_w]
       rfl
      refine one_ (i := 7) (N := some 34) #[true, true, true, true, true, true, true, true, false, false] rfl rfl (one_of HT_.out zq17) zq107 (fun K hK => ?_)
      refine Kd.S_append_step (Kd.slice 72 k72) (w0 := w) w.heap.size (by rfl) (.tmp 28) (.tmp 33) 26 108 (.slice none 0 0) 24 rfl Try.underlying26 info108 rfl zq107 (by omega) (.slice Ao36 t427.length co36) t427 y434 [.slice Ao46 y434.length co46] (fun _ => True) (fun k_ => some k_ = (.slice Ao46 y434.length co46 : Value).ownBlock) rfl rfl ?aP (fun k_ hk_ => ((Kd.R_mono (ok' := fun k_ => ((fun _ => True)) k_ ∧ some k_ ≠ (.slice Ao36 t427.length co36 : Value).ownBlock) (Kd.R_apart' (HO436.out) (Kd.S_typed HO429.out) zq107) (fun k_ hk => ⟨trivial, hk.2⟩))).1 k_ hk_.symm) ?aF ?aO ?aB ?aS ?aL ?_
      (case aP => exact Kd.M_row (Kd.R_mono (Kd.R_tight rfl (Kd.R_mono (ok' := fun k_ => ((fun _ => True)) k_ ∧ some k_ ≠ (.slice Ao36 t427.length co36 : Value).ownBlock) (Kd.R_apart' (HO436.out) (Kd.S_typed HO429.out) zq107) (fun k_ hk => ⟨trivial, hk.2⟩))) (fun _ h_ => h_)))
      (case aB => exact zq76)
      (case aF => exact (fun _ _ => trivial))
      (case aO => exact (by (with_reducible repeat (first | apply Kd.S_alloc | apply Kd.S_drewN | apply Kd.S_drew)); exact Kd.S_mono HO429.out (fun k_ hk => ⟨trivial, fun e_ => hk.2 e_⟩)))
      (case aS => exact (below_size zq76))
      (case aL => have := LMc30.out; omega)
      intro v438 w45 ho hb hg hat
      rw [← Ny437.out] at ho
      have n0_ := am (blk_grown (g := gb423) (o := .cells #[.slice A0_0 l0_0.length c0_0] 28 (0, 0)) zq77 hg (Kd.S_ne HO429.out BK423.out zq107))
      have n1_ := am (blk_grown (g := gb424) (o := .cells #[.slice none 0 0] 28 (0, 0)) zq78 hg (Kd.S_ne HO429.out BK424.out zq107))
      have n2_ := am (blk_grown (g := gb430) (o := .cells #[.slice Ao36 t427.length co36] 28 (0, 0)) zq84 hg (Kd.S_ne HO429.out BK430.out zq107))
      have n3_ := am (hb)
      have n4_ := am (ho)
      clear BK423
      clear BK424
      clear BK430
      clear HB
      clear HO429
      clear HO436
      have BK423 := n0_
      have BK424 := n1_
      have BK430 := n2_
      have HB := n3_
      have HO439 := n4_
      clear n0_ n1_ n2_ n3_ n4_
      clear ho hb hg hat
      obtain ⟨Ao47, co47, eo47⟩ := Kd.S_slice HO439.out
      (first | subst eo47 | (injection eo47 with f1_ f2_ f3_; have f4_ := f1_.symm; have f5_ := f3_.symm; clear f1_ f2_ f3_; subst f4_; subst f5_))
      refine hK.out _ _ ((blk_cell BK430.out 0).trans rfl) (fun hHeld => ?_)
      clear hK K
      refine norm_ (a' := ?_) ?_ ?_
      rotate_left
      ·show Act.put _ (some 34) _ = _
       simp only [Act.put, List.setIfInBounds_toArray, List.set_cons_zero, List.set_cons_succ, i64_w, i32_w]
       rfl
      refine pure_ (i := 8) (N := some 35) (v := ?_) (a' := ?_) #[true, true, true, true, true, true, true, true, true, false] rfl rfl (any_of HT_.out zq17) (fun _ _ _ h => h) (Or.inl ⟨by rfl, ?_⟩) ?_ ?_
      rotate_left
      ·intro w'
       go_simp
       with_reducible rfl
      rotate_left
      ·simp only [Act.put, List.setIfInBounds_toArray, List.set_cons_zero, List.set_cons_succ, i64_w, i32_w]
       rfl
      refine last_ (i := 9) (N := none) #[true, true, true, true, true, true, true, true, true, true] rfl rfl (one_of HT_.out zq17) zq107 (fun K hK => ?_)
      have hs48 : w45.cell? ⟨gb430, 0, none⟩ = some (.slice Ao36 t427.length co36) := (blk_cell BK430.out 0).trans rfl
      have hfs48 := blk_frozen BK430.out 0
      have hns48_0 := NB423_430.out
      have hns48_1 := NB424_430.out
      have hms48_0 := NB430_423.out
      have hms48_1 := NB430_424.out
      refine skip_ (w1 := ?_) (by rfl) rfl ?_ ?_
      rotate_left
      ·go_simp
       rfl
      refine hK.out _ _ ?_
      clear hK K
      refine done_ (done_of HT_.out zq17) ?_
      have hcz49_0 : w45.cell? ⟨gb430, 0, none⟩ = some (.slice Ao36 t427.length co36) := (blk_cell BK430.out 0).trans rfl
      have hfz49_0 := blk_frozen BK430.out 0
      have hcz50_0 : w45.cell? ⟨gb423, 0, none⟩ = some (.slice A0_0 l0_0.length c0_0) := (blk_cell BK423.out 0).trans rfl
      have hfz50_0 := blk_frozen BK423.out 0
      try go_wp2_with (first | ((with_reducible refine gate_callee (f := 51) rfl ?_); refine goesL_ (some 41) rfl rfl Try.func51 zq17 rfl #[.agg #[.slice Ao47 y437.length co47], .int .i64 a1, .int .i64 (l0_0.length : Int), .int .i64 0] rfl zq1 ?_; (with_reducible refine (spec_WithDefer.calls kj3 _ _ y437 a1 (l0_0.length : Int) 0 t440 t443 _ ?side1 ?side2 A31.out).mono ?_); (case side1 => refine (Kd.S_reads' (e := 108) (base := w.heap.size) (ok := fun k_ => True) (n := y437.length) (c := co47) ?_).2.2; exact zq79); (case side2 => exact (Kd.S_reads' HO439.out).2.1); rintro e w51 ⟨v441, rfl, ho0, hb⟩; refine ⟨_, rfl, ?_⟩; have n0_ := am (Kd.S_elder' zq79 (Kd.S_base ho0) hb); have n1_ := am (Kd.S_lower (Kd.S_new' ho0 (Kd.S_lt zq79)) (below_size zq76)); have n2_ := am (blk_below (g := gb423) (o := .cells #[.slice A0_0 l0_0.length c0_0] 28 (0, 0)) zq82 hb); have n3_ := am (blk_below (g := gb424) (o := .cells #[.slice none 0 0] 28 (0, 0)) zq83 hb); have n4_ := am (blk_below (g := gb430) (o := .cells #[.slice Ao47 y437.length co47] 28 (0, 0)) (by (with_reducible repeat (first | refine blk_drewN ?_ _ | refine blk_drew ?_ | refine blk_alloc ?_ _)); refine blk_put (cs := #[.slice Ao36 t427.length co36]) ?_ 0 _ rfl; (with_reducible repeat (first | refine blk_drewN ?_ _ | refine blk_drew ?_ | refine blk_alloc ?_ _)); exact BK430.out) hb); have n5_ := am (below_step zq76 hb); clear HO439; clear BK423; clear BK424; clear BK430; clear HB; have HO439 := n0_; have HO442 := n1_; have BK423 := n2_; have BK424 := n3_; have BK430 := n4_; have HB := n5_; clear n0_ n1_ n2_ n3_ n4_ n5_; (try clear hb); (try clear hb2); (try clear hk); (try clear hi); (try clear ho0); obtain ⟨Ao52, co52, eo52⟩ := Kd.S_slice HO442.out; subst eo52; have hcz53_0 : w51.cell? ⟨gb424, 0, none⟩ = some (.slice none 0 0) := (blk_cell BK424.out 0).trans rfl; have hfz53_0 := blk_frozen BK424.out 0))
      refine bodyPost_ret (results_ct rfl _ _ gb424 28 #[.slice Ao52 t440.length co52] (0, 0) _ rfl zq81 Try.underlying28 rfl zq17) rfl ?_
      exact ⟨_, zq8, by (with_reducible repeat (first | apply Kd.S_alloc | apply Kd.S_drewN | apply Kd.S_drew)); exact Kd.S_mono (Kd.S_far (p := ⟨gb424, 0, none⟩) (Kd.S_types HO442.out BK424.out zq107) (fun _ hk => hk.2) (.slice Ao52 t440.length co52)) (fun _ hk => trivial), zq76⟩
     ·rw [if_neg c30] at H
      exact absurd H (by simp)
    ·rw [if_neg c29] at H
     exact absurd H (by simp)
def impl_guarded.j0 : Nat → Int → List (S72) → Bool → List (List (S72)) → Option ((List (List (S72))) × Bool)
 | 0, _, _, _, _ => none
 | k + 1, x1, x2, x18, x454000 => if x18 = true then (some (([] : List (List (S72))), false)) else ((impl_Program_copied.f k x454000).bind fun t456 => (if t456.length < 5864062014805 then ((impl_WithDefer.f (t456 ++ [x2]) x1 (x454000.length : Int) 0).bind fun bt463 => (some (bt463.1, bt463.2))) else (none)))
def impl_guarded.f (k : Nat) (l0_0 : List (List (S72))) (a1 : Int) (l2 : List (S72)) : Option ((List (List (S72))) × Bool) := (impl_isFunction.f l0_0 a1).bind fun t455 => (if t455 = true then (impl_guarded.j0 k a1 l2 ((l0_0.length : Int) == 6) l0_0) else (impl_guarded.j0 k a1 l2 true l0_0))
set_option maxHeartbeats 8000000 in
set_option maxRecDepth 100000 in
theorem impl_guarded.calls (k : Nat) (A0_0 : Option Addr) (c0_0 : Nat) (l0_0 : List (List (S72))) (a1 : Int) (P2_ : Nat → Prop) (A2 : Option Addr) (c2 : Nat) (l2 : List (S72)) (r1 : List (List (S72))) (r2 : Bool) (w : World) (hr0_0 : Kd.C (Kd.slice 72 k72) w A0_0 l0_0.length l0_0) (hc0_0 : l0_0.length ≤ c0_0) (hs2 : Kd.V k72 72 w w.heap.size (fun k_ => P2_ k_) (.slice A2 l2.length c2) l2) (h : impl_guarded.f k l0_0 a1 l2 = some (r1, r2)) :
  Calls Try.prog 103 #[.agg #[.slice A0_0 l0_0.length c0_0], .int .i64 a1, .slice A2 l2.length c2] w fun e w' => ∃ v0_ : Value, e = .returned (.tuple #[.agg #[v0_], .bool r2]) ∧ Kd.S (Kd.slice 72 k72) 108 w' w.heap.size (fun k_ => (P2_ k_ ∨ w.heap.size ≤ k_)) v0_ r1 ∧ Below w.heap.size w w' := by
 have hu28 := Try.underlying28
 have HR0_0 := am hr0_0
 have HC0_0 := am hc0_0
 clear hr0_0 hc0_0
 have HO2 := am (show Kd.V k72 72 w w.heap.size (fun k_ => (P2_ k_ ∨ w.heap.size ≤ k_)) (.slice A2 l2.length c2) l2 from Kd.V_mono hs2 (fun k_ hk => .inl hk))
 have HB := am (Below.refl w.heap.size w)
 have H : ((impl_isFunction.f l0_0 a1).bind fun t455 => (if t455 = true then (impl_guarded.j0 k a1 l2 ((l0_0.length : Int) == 6) l0_0) else (impl_guarded.j0 k a1 l2 true l0_0))) = some (r1, r2) := h
 clear h
 have HC4 := am H
 clear H
 go_enter Try.func103, Try.ntmps103
 go_upto_region 1 with (first | ((with_reducible refine gate_dst (N := 3) rfl ?_); (try (refine gate_guard (by rfl) ?_; dsimp only)); refine box_event ?hg (N := 3) ?hd (cs := #[.slice A0_0 l0_0.length c0_0]) (t := 28) ?hr ?_; (case hd => rfl); (case hg => rfl); (case hr => first | (go_simp; done) | (go_simp; rfl)); intro gb453 hg w5 hbox hb; have n0_ := am (Kd.V_below (Kd.V_elderB zq95 gb453 (Nat.le_of_eq hg.symm)) hb); have n1_ := am (below_step zq0 hb); have n2_ := am (hbox); have n3_ := am ((zq12 : w.heap.size ≤ gb453)); have n4_ := am ((zq12 : w.heap.size ≤ gb453)); clear HO2; clear HB; have HO2 := n0_; have HB := n1_; have BK453 := n2_; have GW453 := n3_; have GE453 := n4_; clear n0_ n1_ n2_ n3_ n4_; clear hb hbox hg) | ((with_reducible refine gate_dst (N := 6) rfl ?_); (try (refine gate_guard (by rfl) ?_; dsimp only)); refine box_event ?hg (N := 6) ?hd (cs := #[.slice none 0 0]) (t := 28) ?hr ?_; (case hd => rfl); (case hg => rfl); (case hr => first | (go_simp; done) | (go_simp; rfl)); intro gb454 hg w6 hbox hb; have n0_ := am (Kd.V_below (Kd.V_elderB zq95 gb454 (Nat.le_of_eq hg.symm)) hb); have n1_ := am (blk_below (g := gb453) (o := .cells #[.slice A0_0 l0_0.length c0_0] 28 (0, 0)) zq88 hb); have n2_ := am (below_step zq93 hb); have n3_ := am (hbox); have n4_ := am ((by rw [hg]; exact (below_size zq93) : w.heap.size ≤ gb454)); have n5_ := am ((by rw [hg]; exact (below_size zq93) : w.heap.size ≤ gb454)); have n6_ := am ((zq130 : gb453 ≠ gb454)); have n7_ := am ((zq131 : gb454 ≠ gb453)); clear HO2; clear BK453; clear HB; have HO2 := n0_; have BK453 := n1_; have HB := n2_; have BK454 := n3_; have GW454 := n4_; have GE454 := n5_; have NB453_454 := n6_; have NB454_453 := n7_; clear n0_ n1_ n2_ n3_ n4_ n5_ n6_ n7_; clear hb hbox hg))
 (try simp only [Act.put, List.setIfInBounds_toArray, List.set_cons_zero, List.set_cons_succ])
 go_cut [18] (fun v18 wc => ∃ (kq : Nat) (x18_3 : Bool), v18 = .bool x18_3 ∧ Aside0 (impl_guarded.j0 kq a1 l2 x18_3 l0_0 = some (r1, r2)) ∧ Aside0 (kq ≤ k) ∧ Aside0 (Kd.V k72 72 wc w.heap.size (fun k_ => (P2_ k_ ∨ w.heap.size ≤ k_) ∧ k_ ≠ gb453 ∧ k_ ≠ gb454) (.slice A2 l2.length c2) l2) ∧ Aside0 (wc.heap[gb453]? = some (.cells #[(.slice A0_0 l0_0.length c0_0)] 28 (0, 0))) ∧ Aside0 (wc.heap[gb454]? = some (.cells #[(.slice none 0 0)] 28 (0, 0))) ∧ Aside0 (Below w.heap.size w wc))
 case first =>
  have H := HC4.out
  clear HC4
  replace H := bem H
  obtain ⟨t455, A70, H⟩ := H
  replace H : (if t455 = true then (impl_guarded.j0 k a1 l2 ((l0_0.length : Int) == 6) l0_0) else (impl_guarded.j0 k a1 l2 true l0_0)) = some (r1, r2) := H
  have A7 := am A70
  clear A70
  by_cases c8 : t455 = true
  ·subst c8
   have H1 : (impl_guarded.j0 k a1 l2 ((l0_0.length : Int) == 6) l0_0) = some (r1, r2) := by rw [if_pos rfl] at H; exact H
   clear H
   have H := H1
   clear H1
   have H' := am H
   clear H
   have hnb9 := NB453_454.out
   have hnc9 := NB454_453.out
   have hcz10_0 : w6.cell? ⟨gb453, 0, none⟩ = some (.slice A0_0 l0_0.length c0_0) := (blk_cell BK453.out 0).trans rfl
   have hfz10_0 := blk_frozen BK453.out 0
   go_wp2_with (first | ((with_reducible refine gate_callee (f := 96) rfl ?_); refine goesL_ (some 11) rfl rfl Try.func96 zq17 rfl #[.agg #[.slice A0_0 l0_0.length c0_0], .int .i64 a1] rfl zq1 ?_; (with_reducible refine (impl_isFunction.calls _ _ l0_0 a1 true _ ?side1 ?side2 A7.out).mono ?_); (case side1 => repeat (first | exact (Kd.C_below HR0_0.out HB.out) | (with_reducible refine Kd.C_alloc ?_ _) | (with_reducible refine Kd.C_drewN ?_ _) | (with_reducible refine Kd.C_drew ?_))); (case side2 => exact HC0_0.out); rintro e w11 ⟨rfl, hb⟩; refine ⟨_, rfl, ?_⟩; have n0_ := am (Kd.V_below zq95 hb); have n1_ := am (blk_below (g := gb453) (o := .cells #[.slice A0_0 l0_0.length c0_0] 28 (0, 0)) zq88 hb); have n2_ := am (blk_below (g := gb454) (o := .cells #[.slice none 0 0] 28 (0, 0)) zq89 hb); have n3_ := am (below_step zq86 hb); clear HO2; clear BK453; clear BK454; clear HB; have HO2 := n0_; have BK453 := n1_; have BK454 := n2_; have HB := n3_; clear n0_ n1_ n2_ n3_; (try clear hb); (try clear hb2); (try clear hk); (try clear hi); have hcz12_0 : w11.cell? ⟨gb453, 0, none⟩ = some (.slice A0_0 l0_0.length c0_0) := (blk_cell BK453.out 0).trans rfl; have hfz12_0 := blk_frozen BK453.out 0))
   go_meet
   case rel => exact ⟨_, (((l0_0.length : Int) == 6)), zq3, H', ⟨zq106⟩, ⟨zq111⟩, ⟨zq88⟩, ⟨zq89⟩, ⟨zq86⟩⟩
  ·replace c8 := Bool.eq_false_iff.mpr c8
   subst c8
   have H1 : (impl_guarded.j0 k a1 l2 true l0_0) = some (r1, r2) := by rw [if_neg (show ¬ (false = true) by decide)] at H; exact H
   clear H
   have H := H1
   clear H1
   have H' := am H
   clear H
   have hnb13 := NB453_454.out
   have hnc13 := NB454_453.out
   have hcz14_0 : w6.cell? ⟨gb453, 0, none⟩ = some (.slice A0_0 l0_0.length c0_0) := (blk_cell BK453.out 0).trans rfl
   have hfz14_0 := blk_frozen BK453.out 0
   go_wp2_with (first | ((with_reducible refine gate_callee (f := 96) rfl ?_); refine goesL_ (some 11) rfl rfl Try.func96 zq17 rfl #[.agg #[.slice A0_0 l0_0.length c0_0], .int .i64 a1] rfl zq1 ?_; (with_reducible refine (impl_isFunction.calls _ _ l0_0 a1 false _ ?side1 ?side2 A7.out).mono ?_); (case side1 => repeat (first | exact (Kd.C_below HR0_0.out HB.out) | (with_reducible refine Kd.C_alloc ?_ _) | (with_reducible refine Kd.C_drewN ?_ _) | (with_reducible refine Kd.C_drew ?_))); (case side2 => exact HC0_0.out); rintro e w15 ⟨rfl, hb⟩; refine ⟨_, rfl, ?_⟩; have n0_ := am (Kd.V_below zq95 hb); have n1_ := am (blk_below (g := gb453) (o := .cells #[.slice A0_0 l0_0.length c0_0] 28 (0, 0)) zq88 hb); have n2_ := am (blk_below (g := gb454) (o := .cells #[.slice none 0 0] 28 (0, 0)) zq89 hb); have n3_ := am (below_step zq86 hb); clear HO2; clear BK453; clear BK454; clear HB; have HO2 := n0_; have BK453 := n1_; have BK454 := n2_; have HB := n3_; clear n0_ n1_ n2_ n3_; (try clear hb); (try clear hb2); (try clear hk); (try clear hi)))
   go_meet
   case rel => exact ⟨_, (true), zq3, H', ⟨zq106⟩, ⟨zq111⟩, ⟨zq88⟩, ⟨zq89⟩, ⟨zq86⟩⟩
 case rest =>
  clear HC4
  try clear c1
  try clear c2
  try clear p2
  try clear c8
  try clear c9
  try clear c10
  try clear c13
  try clear hcz10_0
  try clear hcz12_0
  try clear hcz14_0
  try clear hfz10_0
  try clear hfz12_0
  try clear hfz14_0
  obtain ⟨kq, x18_3, rfl, HA, HJ3, HO_2, BK453, BK454, HB⟩ := hcut
  cases kq with
  | zero => exact absurd HA.out (by simp [impl_guarded.j0])
  | succ kj3 =>
   have H := HA.out
   clear HA
   simp only [impl_guarded.j0] at H
   by_cases c16 : x18_3 = true
   ·subst c16
    have H1 : (some (([] : List (List (S72))), false)) = some (r1, r2) := by rw [if_pos rfl] at H; exact H
    clear H
    have H := H1
    clear H1
    simp only [Option.some.injEq, Prod.mk.injEq] at H
    obtain ⟨rfl, rfl⟩ := H
    have hnb17 := NB454_453.out
    have hnc17 := NB453_454.out
    have hcz18_0 : wc.cell? ⟨gb454, 0, none⟩ = some (.slice none 0 0) := (blk_cell BK454.out 0).trans rfl
    have hfz18_0 := blk_frozen BK454.out 0
    go_wp2
    refine bodyPost_ret (results_ct rfl _ _ gb454 28 #[.slice none 0 0] (0, 0) _ rfl zq97 Try.underlying28 rfl zq17) rfl ?_
    exact ⟨_, zq8, by first | exact Kd.S_nil _ _ _ _ _ | exact Kd.S_nil _ _ _ _ _ | exact Kd.V_nil _ _ _ _ _ | exact Kd.Q_nil _ _ _ _ _ | exact Kd.R_nil _ _ _ _ _, zq86⟩
   ·replace c16 := Bool.eq_false_iff.mpr c16
    subst c16
    have H1 : ((impl_Program_copied.f kj3 l0_0).bind fun t456 => (if t456.length < 5864062014805 then ((impl_WithDefer.f (t456 ++ [l2]) a1 (l0_0.length : Int) 0).bind fun bt463 => (some (bt463.1, bt463.2))) else (none))) = some (r1, r2) := by rw [if_neg (show ¬ (false = true) by decide)] at H; exact H
    clear H
    have H := H1
    clear H1
    replace H := bem H
    obtain ⟨t456, A190, H⟩ := H
    replace H : (if t456.length < 5864062014805 then ((impl_WithDefer.f (t456 ++ [l2]) a1 (l0_0.length : Int) 0).bind fun bt463 => (some (bt463.1, bt463.2))) else (none)) = some (r1, r2) := H
    have A19 := am A190
    clear A190
    by_cases c20 : t456.length < 5864062014805
    ·rw [if_pos c20] at H
     have LMc20 := am c20
     clear c20
     obtain ⟨y460, hy460⟩ : ∃ y_ : List (List (S72)), y_ = (t456 ++ [l2]) := ⟨_, rfl⟩
     replace H : ((impl_WithDefer.f y460 a1 (l0_0.length : Int) 0).bind fun bt463 => (some (bt463.1, bt463.2))) = some (r1, r2) := by first | (rw [hy460]; with_reducible exact H) | (have H2_ := (Option.bind_some _ _).symm.trans H; rw [hy460]; with_reducible exact H2_) | (have H2_ := (Option.bind_some _ _).symm.trans H; with_reducible exact H2_) | with_reducible exact H | (rw [hy460]; exact H) | exact H
     have Ny460 := am hy460
     clear hy460
     replace H := bem H
     obtain ⟨⟨t463, t466⟩, A210, H⟩ := H
     replace H : (some (t463, t466)) = some (r1, r2) := H
     have A21 := am A210
     clear A210
     simp only [Option.some.injEq, Prod.mk.injEq] at H
     obtain ⟨rfl, rfl⟩ := H
     have hnb22 := NB453_454.out
     have hnc22 := NB454_453.out
     have hcz23_0 : wc.cell? ⟨gb453, 0, none⟩ = some (.slice A0_0 l0_0.length c0_0) := (blk_cell BK453.out 0).trans rfl
     have hfz23_0 := blk_frozen BK453.out 0
     go_wp2_with (first | ((with_reducible refine gate_callee (f := 99) rfl ?_); refine goesL_ (some 21) rfl rfl Try.func99 zq17 rfl #[.agg #[.slice A0_0 l0_0.length c0_0]] rfl zq1 ?_; (with_reducible refine (impl_Program_copied.calls kj3 _ _ l0_0 t456 _ ?side1 ?side2 A19.out).mono ?_); (case side1 => repeat (first | exact (Kd.C_below HR0_0.out HB.out) | (with_reducible refine Kd.C_alloc ?_ _) | (with_reducible refine Kd.C_drewN ?_ _) | (with_reducible refine Kd.C_drew ?_))); (case side2 => exact HC0_0.out); rintro e w24 ⟨v457, rfl, ho0, hb⟩; refine ⟨_, rfl, ?_⟩; have n0_ := am (Kd.V_elder' zq135 (Kd.S_base ho0) hb); have n1_ := am (Kd.N_lower (Kd.N_mono (ok' := fun k_ => (P2_ k_ ∨ w.heap.size ≤ k_) ∧ k_ ≠ gb453 ∧ k_ ≠ gb454) (Kd.S_N (Kd.S_bound ho0)) (fun k_ hk_ => ⟨(.inr (Nat.le_trans (below_size zq86) hk_.2.1)), (Kd.freshB (g := gb453) (o := .cells #[.slice A0_0 l0_0.length c0_0] 28 (0, 0)) zq88 k_ hk_.2.1), (Kd.freshB (g := gb454) (o := .cells #[.slice none 0 0] 28 (0, 0)) zq89 k_ hk_.2.1)⟩)) (below_size zq86)); have n2_ := am (blk_below (g := gb453) (o := .cells #[.slice A0_0 l0_0.length c0_0] 28 (0, 0)) zq88 hb); have n3_ := am (blk_below (g := gb454) (o := .cells #[.slice none 0 0] 28 (0, 0)) zq89 hb); have n4_ := am (below_step zq86 hb); clear HO_2; clear BK453; clear BK454; clear HB; have HO_2 := n0_; have HO458 := n1_; have BK453 := n2_; have BK454 := n3_; have HB := n4_; clear n0_ n1_ n2_ n3_ n4_; (try clear hb); (try clear hb2); (try clear hk); (try clear hi); (try clear ho0)) | ((with_reducible refine gate_dst (N := 8) rfl ?_); (try (refine gate_guard (by rfl) ?_; dsimp only)); refine box_event ?hg (N := 8) ?hd (cs := #[.slice none 0 0]) (t := 28) ?hr ?_; (case hd => rfl); (case hg => rfl); (case hr => first | (go_simp; done) | (go_simp; rfl)); intro gb459 hg w25 hbox hb; have n0_ := am (Kd.V_below (Kd.V_elderB zq135 gb459 (Nat.le_of_eq hg.symm)) hb); have n1_ := am (Kd.N_below (Kd.N_elderB zq133 gb459 (Nat.le_of_eq hg.symm)) hb); have n2_ := am (blk_below (g := gb453) (o := .cells #[.slice A0_0 l0_0.length c0_0] 28 (0, 0)) zq88 hb); have n3_ := am (blk_below (g := gb454) (o := .cells #[.slice none 0 0] 28 (0, 0)) zq89 hb); have n4_ := am (below_step zq86 hb); have n5_ := am (hbox); have n6_ := am ((by rw [hg]; exact (below_size zq86) : w.heap.size ≤ gb459)); have n7_ := am ((by rw [hg]; exact (below_size zq86) : w.heap.size ≤ gb459)); have n8_ := am ((zq130 : gb453 ≠ gb459)); have n9_ := am ((zq131 : gb459 ≠ gb453)); have n10_ := am ((by rw [hg]; exact Nat.ne_of_lt (blk_lt (g := gb454) (o := .cells #[.slice none 0 0] 28 (0, 0)) zq89) : gb454 ≠ gb459)); have n11_ := am ((by rw [hg]; exact Nat.ne_of_gt (blk_lt (g := gb454) (o := .cells #[.slice none 0 0] 28 (0, 0)) zq89) : gb459 ≠ gb454)); clear HO_2; clear HO458; clear BK453; clear BK454; clear HB; have HO_2 := n0_; have HO458 := n1_; have BK453 := n2_; have BK454 := n3_; have HB := n4_; have BK459 := n5_; have GW459 := n6_; have GE459 := n7_; have NB453_459 := n8_; have NB459_453 := n9_; have NB454_459 := n10_; have NB459_454 := n11_; clear n0_ n1_ n2_ n3_ n4_ n5_ n6_ n7_ n8_ n9_ n10_ n11_; clear hb hbox hg; obtain ⟨Ao26, co26, eo26⟩ := Kd.N_slice HO458.out; subst eo26; have hnb27 := NB459_453.out; have hnc27 := NB453_459.out; have hnb28 := NB459_454.out; have hnc28 := NB454_459.out; have hcz29_0 : w25.cell? ⟨gb459, 0, none⟩ = some (.slice none 0 0) := (blk_cell BK459.out 0).trans rfl; have hfz29_0 := blk_frozen BK459.out 0) | ((with_reducible refine gate_store (t := 28) (p := 8) rfl ?_); refine store_event (t := 28) (p := 8) (v := ?vo_w30) (w1 := (w25.setCell ⟨gb459, 0, none⟩ (.slice Ao26 t456.length co26))) ?hg ?ho ?hn ?hr ?_; (case ho => rfl); (case hg => rfl); (case hn => rfl); (case hr => first | (go_simp; done) | (go_simp; rfl)); intro w30 hw; have n0_ : Aside0 (Kd.V k72 72 w30 w.heap.size (fun k_ => (P2_ k_ ∨ w.heap.size ≤ k_) ∧ some k_ ≠ (.slice Ao26 t456.length co26 : Value).ownBlock ∧ k_ ≠ gb453 ∧ k_ ≠ gb454 ∧ k_ ≠ gb459) (.slice A2 l2.length c2) l2) := ⟨(by rw [hw]; exact (by (with_reducible repeat (first | apply Kd.V_alloc | apply Kd.V_drewN | apply Kd.V_drew)); exact Kd.V_mono (Kd.V_far (p := ⟨gb459, 0, none⟩) (Kd.V_mono HO_2.out (fun k_ hk => (⟨hk, hk.2⟩ : _ ∧ k_ ≠ gb459))) (fun _ hk => hk.2) (.slice Ao26 t456.length co26)) (fun _ hk => ⟨hk.1.1.1.1, ⟨hk.1.1.2, ⟨hk.1.1.1.2.1, ⟨hk.1.1.1.2.2, hk.1.2⟩⟩⟩⟩)))⟩; have n1_ : Aside0 (Kd.N (Kd.slice 72 k72) 108 w30 w.heap.size (fun k_ => (P2_ k_ ∨ w.heap.size ≤ k_) ∧ k_ ≠ gb453 ∧ k_ ≠ gb454 ∧ k_ ≠ gb459) (.slice Ao26 t456.length co26) t456) := ⟨(by rw [hw]; exact (by (with_reducible repeat (first | apply Kd.N_alloc | apply Kd.N_drewN | apply Kd.N_drew)); exact Kd.N_mono (Kd.N_far (p := ⟨gb459, 0, none⟩) (Kd.N_mono HO458.out (fun k_ hk => (⟨hk, hk.2⟩ : _ ∧ k_ ≠ gb459))) (fun _ hk => hk.2) (.slice Ao26 t456.length co26)) (fun _ hk => ⟨hk.1.1.1, ⟨hk.1.1.2.1, ⟨hk.1.1.2.2, hk.1.2⟩⟩⟩)))⟩; have n2_ : Aside0 (w30.heap[gb453]? = some (.cells #[.slice A0_0 l0_0.length c0_0] 28 (0, 0))) := ⟨(by rw [hw]; exact zq91)⟩; have n3_ : Aside0 (w30.heap[gb454]? = some (.cells #[.slice none 0 0] 28 (0, 0))) := ⟨(by rw [hw]; exact zq92)⟩; have n4_ : Aside0 (w30.heap[gb459]? = some (.cells #[.slice Ao26 t456.length co26] 28 (0, 0))) := ⟨(by rw [hw]; exact (by (with_reducible repeat (first | refine blk_drewN ?_ _ | refine blk_drew ?_ | refine blk_alloc ?_ _)); refine blk_put (cs := #[.slice none 0 0]) ?_ 0 _ rfl; (with_reducible repeat (first | refine blk_drewN ?_ _ | refine blk_drew ?_ | refine blk_alloc ?_ _)); exact BK459.out))⟩; have n5_ : Aside0 (Below w.heap.size w w30) := ⟨(by rw [hw]; exact zq87)⟩; clear hw; clear HO_2; clear HO458; clear BK453; clear BK454; clear BK459; clear HB; have HO_2 := n0_; have HO458 := n1_; have BK453 := n2_; have BK454 := n3_; have BK459 := n4_; have HB := n5_; clear n0_ n1_ n2_ n3_ n4_ n5_; have hcz31_0 : w30.cell? ⟨gb459, 0, none⟩ = some (.slice Ao26 t456.length co26) := (blk_cell BK459.out 0).trans rfl; have hfz31_0 := blk_frozen BK459.out 0) | ((with_reducible refine gate_builtin (b := .append) (xs := #[.tmp 23, .tmp 25]) rfl ?_); (try (refine gate_guard (by rfl) ?_; dsimp only)); at_builtin; refine Kd.N_append (Kd.slice 72 k72) (w0 := w) w.heap.size rfl (.tmp 23) (.tmp 25) 26 108 (.slice none 0 0) 24 rfl Try.underlying26 info108 rfl zq107 (by omega) (.slice Ao26 t456.length co26) t456 l2 [.slice A2 l2.length c2] (fun k_ => (P2_ k_ ∨ w.heap.size ≤ k_) ∧ k_ ≠ gb453 ∧ k_ ≠ gb454 ∧ k_ ≠ gb459) (fun k_ => ((fun k_ => (P2_ k_ ∨ w.heap.size ≤ k_) ∧ k_ ≠ gb453 ∧ k_ ≠ gb454 ∧ k_ ≠ gb459)) k_ ∧ some k_ ≠ (.slice Ao26 t456.length co26 : Value).ownBlock) rfl rfl ?aP (fun _ hk => hk) ?aF ?aO ?aB ?aS ?aL ?_; (case aP => exact (Kd.FK_slice_mk (Kd.V_reads' (Kd.V_mono (ok' := (fun k_ => ((fun k_ => (P2_ k_ ∨ w.heap.size ≤ k_) ∧ k_ ≠ gb453 ∧ k_ ≠ gb454 ∧ k_ ≠ gb459)) k_ ∧ some k_ ≠ (.slice Ao26 t456.length co26 : Value).ownBlock)) (HO_2.out) (fun k_ hk => ⟨⟨hk.1, ⟨hk.2.2.1, ⟨hk.2.2.2.1, hk.2.2.2.2⟩⟩⟩, hk.2.1⟩))).2.1 (Kd.V_F (Kd.V_mono (ok' := (fun k_ => ((fun k_ => (P2_ k_ ∨ w.heap.size ≤ k_) ∧ k_ ≠ gb453 ∧ k_ ≠ gb454 ∧ k_ ≠ gb459)) k_ ∧ some k_ ≠ (.slice Ao26 t456.length co26 : Value).ownBlock)) (HO_2.out) (fun k_ hk => ⟨⟨hk.1, ⟨hk.2.2.1, ⟨hk.2.2.2.1, hk.2.2.2.2⟩⟩⟩, hk.2.1⟩))))); (case aB => exact zq87); (case aF => exact (fun k_ hk => ⟨(.inr (Nat.le_trans (below_size zq87) hk)), Kd.freshB (g := gb453) (o := .cells #[.slice A0_0 l0_0.length c0_0] 28 (0, 0)) zq88 k_ hk, Kd.freshB (g := gb454) (o := .cells #[.slice none 0 0] 28 (0, 0)) zq89 k_ hk, Kd.freshB (g := gb459) (o := .cells #[.slice Ao26 t456.length co26] 28 (0, 0)) zq117 k_ hk⟩)); (case aO => exact zq133); (case aS => exact (below_size zq87)); (case aL => have := LMc20.out; omega); intro v461 w32 ho hb hg hat; rw [← Ny460.out] at ho; have n0_ := am (Kd.V_afterv (ok := (fun k_ => (P2_ k_ ∨ w.heap.size ≤ k_) ∧ k_ ≠ gb453 ∧ k_ ≠ gb454 ∧ k_ ≠ gb459)) (by (with_reducible repeat (first | apply Kd.V_alloc | apply Kd.V_drewN | apply Kd.V_drew)); exact Kd.V_mono HO_2.out (fun _ hk => ⟨⟨hk.1, ⟨hk.2.2.1, ⟨hk.2.2.2.1, hk.2.2.2.2⟩⟩⟩, hk.2.1⟩)) hg hat); have n1_ := am (blk_grown (g := gb453) (o := .cells #[.slice A0_0 l0_0.length c0_0] 28 (0, 0)) zq88 hg (Kd.N_ne HO458.out BK453.out zq107)); have n2_ := am (blk_grown (g := gb454) (o := .cells #[.slice none 0 0] 28 (0, 0)) zq89 hg (Kd.N_ne HO458.out BK454.out zq107)); have n3_ := am (blk_grown (g := gb459) (o := .cells #[.slice Ao26 t456.length co26] 28 (0, 0)) zq117 hg (Kd.N_ne HO458.out BK459.out zq107)); have n4_ := am (hb); have n5_ := am (ho); clear HO_2; clear BK453; clear BK454; clear BK459; clear HB; clear HO458; have HO_2 := n0_; have BK453 := n1_; have BK454 := n2_; have BK459 := n3_; have HB := n4_; have HO462 := n5_; clear n0_ n1_ n2_ n3_ n4_ n5_; clear ho hb hg hat; obtain ⟨Ao33, co33, eo33⟩ := Kd.N_slice HO462.out; subst eo33; have hcz34_0 : w32.cell? ⟨gb459, 0, none⟩ = some (.slice Ao26 t456.length co26) := (blk_cell BK459.out 0).trans rfl; have hfz34_0 := blk_frozen BK459.out 0; have hcz35_0 : w32.cell? ⟨gb453, 0, none⟩ = some (.slice A0_0 l0_0.length c0_0) := (blk_cell BK453.out 0).trans rfl; have hfz35_0 := blk_frozen BK453.out 0) | ((with_reducible refine gate_callee (f := 52) rfl ?_); refine goesL_ (some 33) rfl rfl Try.func52 zq17 rfl #[.agg #[.slice Ao33 y460.length co33], .int .i64 a1, .int .i64 (l0_0.length : Int), .int .i64 0] rfl zq1 ?_; (with_reducible refine (impl_WithDefer.calls _ _ y460 a1 (l0_0.length : Int) 0 t463 t466 _ ?side1 ?side2 A21.out).mono ?_); (case side1 => refine (Kd.N_reads' (e := 108) (base := w.heap.size) (ok := fun k_ => (P2_ k_ ∨ w.heap.size ≤ k_) ∧ k_ ≠ gb453 ∧ k_ ≠ gb454 ∧ k_ ≠ gb459) (n := y460.length) (c := co33) ?_).2.2; exact zq90); (case side2 => exact (Kd.N_reads' HO462.out).2.1); rintro e w36 ⟨v464, rfl, ho0, hb⟩; refine ⟨_, rfl, ?_⟩; have n0_ := am (Kd.V_elder' (by (with_reducible repeat (first | apply Kd.V_alloc | apply Kd.V_drewN | apply Kd.V_drew)); exact (Kd.V_mono (Kd.V_far (p := ⟨gb459, 0, none⟩) (Kd.V_mono HO_2.out (fun k_ hk => (⟨hk, hk.1.2.2.2⟩ : _ ∧ k_ ≠ gb459))) (fun _ hk => hk.2) (.slice Ao33 y460.length co33)) (fun _ h_ => h_.1))) (Kd.S_base ho0) hb); have n1_ := am (Kd.N_elder' zq90 (Kd.S_base ho0) hb); have n2_ := am (Kd.S_lower (Kd.S_mono (ok' := fun k_ => (P2_ k_ ∨ w.heap.size ≤ k_) ∧ some k_ ≠ (.slice Ao33 y460.length co33 : Value).ownBlock ∧ k_ ≠ gb453 ∧ k_ ≠ gb454 ∧ k_ ≠ gb459) (Kd.S_bound ho0) (fun k_ hk_ => ⟨(.inr (Nat.le_trans (below_size zq87) hk_.2.1)), (Kd.fresh' (Kd.N_lt zq90) k_ hk_.2.1), (Kd.freshB (g := gb453) (o := .cells #[.slice A0_0 l0_0.length c0_0] 28 (0, 0)) zq91 k_ hk_.2.1), (Kd.freshB (g := gb454) (o := .cells #[.slice none 0 0] 28 (0, 0)) zq92 k_ hk_.2.1), (Kd.freshB (g := gb459) (o := .cells #[.slice Ao33 y460.length co33] 28 (0, 0)) zq96 k_ hk_.2.1)⟩)) (below_size zq87)); have n3_ := am (blk_below (g := gb453) (o := .cells #[.slice A0_0 l0_0.length c0_0] 28 (0, 0)) zq91 hb); have n4_ := am (blk_below (g := gb454) (o := .cells #[.slice none 0 0] 28 (0, 0)) zq92 hb); have n5_ := am (blk_below (g := gb459) (o := .cells #[.slice Ao33 y460.length co33] 28 (0, 0)) zq96 hb); have n6_ := am (below_step zq87 hb); clear HO_2; clear HO462; clear BK453; clear BK454; clear BK459; clear HB; have HO_2 := n0_; have HO462 := n1_; have HO465 := n2_; have BK453 := n3_; have BK454 := n4_; have BK459 := n5_; have HB := n6_; clear n0_ n1_ n2_ n3_ n4_ n5_ n6_; (try clear hb); (try clear hb2); (try clear hk); (try clear hi); (try clear ho0); obtain ⟨Ao37, co37, eo37⟩ := Kd.S_slice HO465.out; subst eo37; have hcz38_0 : w36.cell? ⟨gb454, 0, none⟩ = some (.slice none 0 0) := (blk_cell BK454.out 0).trans rfl; have hfz38_0 := blk_frozen BK454.out 0))
     refine bodyPost_ret (results_ct rfl _ _ gb454 28 #[.slice Ao37 t463.length co37] (0, 0) _ rfl zq97 Try.underlying28 rfl zq17) rfl ?_
     exact ⟨_, zq8, by (with_reducible repeat (first | apply Kd.S_alloc | apply Kd.S_drewN | apply Kd.S_drew)); exact Kd.S_mono (Kd.S_far (p := ⟨gb454, 0, none⟩) (Kd.S_mono HO465.out (fun k_ hk => (⟨hk, hk.2.2.2.1⟩ : _ ∧ k_ ≠ gb454))) (fun _ hk => hk.2) (.slice Ao37 t463.length co37)) (fun _ hk => hk.1.1), zq87⟩
    ·rw [if_neg c20] at H
     exact absurd H (by simp)
def spec_l5Branch.f (a0_0 : Int) (a0_1 : Int) (a0_2 : Int) : Option ((List (S72))) := some (([(⟨11, 3, 3⟩ : S72), (⟨8, 0, 0⟩ : S72), (⟨a0_0, a0_1, a0_2⟩ : S72)] : List (S72)))
set_option maxHeartbeats 8000000 in
set_option maxRecDepth 100000 in
theorem spec_l5Branch.calls (a0_0 : Int) (a0_1 : Int) (a0_2 : Int) (r : List (S72)) (w : World) (h : spec_l5Branch.f a0_0 a0_1 a0_2 = some r) :
  Calls Try.prog 104 #[.agg #[.int .i64 a0_0, .int .i64 a0_1, .int .i64 a0_2]] w fun e w' => ∃ v0_ : Value, e = .returned (v0_) ∧ Kd.R k72 72 w' w.heap.size (fun _ => True) v0_ r ∧ Below w.heap.size w w' := by
 have hu72 := Try.underlying72
 have HB := am (Below.refl w.heap.size w)
 have H : (some (([(⟨11, 3, 3⟩ : S72), (⟨8, 0, 0⟩ : S72), (⟨a0_0, a0_1, a0_2⟩ : S72)] : List (S72)))) = some r := h
 clear h
 obtain ⟨y501, hy501⟩ : ∃ y_ : List (S72), y_ = (([(⟨11, 3, 3⟩ : S72), (⟨8, 0, 0⟩ : S72), (⟨a0_0, a0_1, a0_2⟩ : S72)] : List (S72))) := ⟨_, rfl⟩
 replace H : (some y501) = some r := by first | (rw [hy501]; with_reducible exact H) | (have H2_ := (Option.bind_some _ _).symm.trans H; rw [hy501]; with_reducible exact H2_) | (have H2_ := (Option.bind_some _ _).symm.trans H; with_reducible exact H2_) | with_reducible exact H | (rw [hy501]; exact H) | exact H
 have Ny501 := am hy501
 clear hy501
 obtain rfl := Option.some.inj H
 go_enter Try.func104, Try.ntmps104
 go_wp2_with (first | ((with_reducible refine gate_dst (N := 1) rfl ?_); refine box_event ?hg (N := 1) ?hd (cs := #[.int .i64 a0_0, .int .i64 a0_1, .int .i64 a0_2]) (t := 72) ?hr ?_; (case hd => rfl); (case hg => rfl); (case hr => first | (go_simp; done) | (go_simp; rfl)); intro gb500 hg w2 hbox hb; have n0_ := am (below_step zq0 hb); have n1_ := am (hbox); have n2_ := am ((zq12 : w.heap.size ≤ gb500)); have n3_ := am ((zq12 : w.heap.size ≤ gb500)); clear HB; have HB := n0_; have BK500 := n1_; have GW500 := n2_; have GE500 := n3_; clear n0_ n1_ n2_ n3_; clear hb hbox hg; have hcz3_0 : w2.cell? ⟨gb500, 0, none⟩ = some (.int .i64 a0_0) := (blk_cell BK500.out 0).trans rfl; have hcz3_1 : w2.cell? ⟨gb500, 1, none⟩ = some (.int .i64 a0_1) := (blk_cell BK500.out 1).trans rfl; have hcz3_2 : w2.cell? ⟨gb500, 2, none⟩ = some (.int .i64 a0_2) := (blk_cell BK500.out 2).trans rfl; have hfz3_0 := blk_frozen BK500.out 0; have hfz3_1 := blk_frozen BK500.out 1; have hfz3_2 := blk_frozen BK500.out 2) | ((with_reducible refine gate_dst (N := 6) rfl ?_); refine Kd.R_lit k72 _ 72 ?hg (N := 6) ?hd (xs := ([(⟨11, 3, 3⟩ : S72), (⟨8, 0, 0⟩ : S72), (⟨a0_0, a0_1, a0_2⟩ : S72)] : List (S72))) (inner := [.int .i64 11, .int .i64 3, .int .i64 3, .int .i64 8, .int .i64 0, .int .i64 0, .int .i64 a0_0, .int .i64 a0_1, .int .i64 a0_2]) (ok := fun _ => True) (okp := fun _ => True) ?hr ?hp (fun _ hk => hk) trivial (Below.refl _ _) (Nat.le_refl _) (by simp) ?_; (case hd => rfl); (case hg => rfl); (case hr => first | (go_simp; done) | (go_simp; rfl)); (case hp => exact (Reps.c3 (show Kd.M k72 _ _ _ (⟨11, 3, 3⟩ : S72) [.int .i64 11, .int .i64 3, .int .i64 3] from (k72_mkM _ _ _ (⟨11, 3, 3⟩ : S72) )) (Reps.c3 (show Kd.M k72 _ _ _ (⟨8, 0, 0⟩ : S72) [.int .i64 8, .int .i64 0, .int .i64 0] from (k72_mkM _ _ _ (⟨8, 0, 0⟩ : S72) )) (Reps.c3 (show Kd.M k72 _ _ _ (⟨a0_0, a0_1, a0_2⟩ : S72) [.int .i64 a0_0, .int .i64 a0_1, .int .i64 a0_2] from (k72_mkM _ _ _ (⟨a0_0, a0_1, a0_2⟩ : S72) )) (Reps.none _ _))))); intro v502 w4 ho5 hb hg_ hnew_; clear hg_ hnew_; (first | rw [← Ny501.out] at ho5 | (simp only [Int.reduceToNat] at ho5; rw [← Ny501.out] at ho5)); have n0_ := am (Kd.R_lower (Kd.R_newB ho5 (g := gb500) (o := .cells #[.int .i64 a0_0, .int .i64 a0_1, .int .i64 a0_2] 72 (0, 0)) zq118) (below_size zq94)); have n1_ := am (blk_below (g := gb500) (o := .cells #[.int .i64 a0_0, .int .i64 a0_1, .int .i64 a0_2] 72 (0, 0)) zq118 hb); have n2_ := am (below_step zq94 hb); clear BK500; clear HB; have HO503 := n0_; have BK500 := n1_; have HB := n2_; clear n0_ n1_ n2_; clear hb ho5))
 go_ret
 exact ⟨_, zq8, by (with_reducible repeat (first | apply Kd.R_alloc | apply Kd.R_drewN | apply Kd.R_drew)); exact Kd.R_mono HO503.out (fun _ hk => trivial), zq94⟩
end Go.Proofs.Ythdhhpcbagpmgaa.Pr
end

section

end

section
namespace Go.Proofs.Ythdhhpcbagpmgaa.Pr
open Go.RowKit Go.Proofs.YthdhhpcbagpmgaaW.PrintWords Go.Proofs.YthdhhpcbagpmgaaW.PrintLast Go.Proofs.YthdhhpcbagpmgaaW.PrintMore
attribute [local go_sem] max2_int min2_int max_two min_two max_three min_three max_four min_four
set_option linter.unusedVariables false
set_option linter.unusedSimpArgs false

end Go.Proofs.Ythdhhpcbagpmgaa.Pr
end

section

end

section
namespace Go.Proofs.Ythdhhpcbagpmgaa.Pr
open Go.RowKit Go.Proofs.YthdhhpcbagpmgaaW.PrintWords Go.Proofs.YthdhhpcbagpmgaaW.PrintLast Go.Proofs.YthdhhpcbagpmgaaW.PrintMore
attribute [local go_sem] max2_int min2_int max_two min_two max_three min_three max_four min_four
set_option linter.unusedVariables false
set_option linter.unusedSimpArgs false
def spec_ThrowingGuard.f (k : Nat) (l0_0 : List (List (S72))) (a1 : Int) : Option ((List (List (S72))) × Bool) := (spec_l5Branch.f 6 0 0).bind fun t548 => ((spec_l5Guard.f k l0_0 a1 t548).bind fun bt551 => (some (bt551.1, bt551.2)))
def spec_ThrowingGuard.T1 : Bool × List (List Nat × List Nat) := (true, [([], []), ([], []), ([], []), ([2], [2]), ([0, 1, 3, 3], [0, 1, 3]), ([4], [4]), ([4], [4]), ([5, 4, 0, 1, 2, 3, 4, 5, 6], [5]), ([6, 7, 0, 1, 2, 3, 4, 5, 6, 7], [6])])
def spec_ThrowingGuard.B1 : List Nat := [0, 0, 0, 4, 15, 31, 31, 127, 255]
theorem spec_ThrowingGuard.tab1 : rtab .any (opsOf Try.f57 1) = spec_ThrowingGuard.T1 := by kernel_rfl
theorem spec_ThrowingGuard.bits1 : waitsOk spec_ThrowingGuard.T1.2 spec_ThrowingGuard.B1 = true := by kernel_rfl
set_option maxHeartbeats 8000000 in
set_option maxRecDepth 100000 in
theorem spec_ThrowingGuard.calls (k : Nat) (A0_0 : Option Addr) (c0_0 : Nat) (l0_0 : List (List (S72))) (a1 : Int) (r1 : List (List (S72))) (r2 : Bool) (w : World) (hr0_0 : Kd.C (Kd.slice 72 k72) w A0_0 l0_0.length l0_0) (hc0_0 : l0_0.length ≤ c0_0) (h : spec_ThrowingGuard.f k l0_0 a1 = some (r1, r2)) :
  Calls Try.prog 57 #[.agg #[.slice A0_0 l0_0.length c0_0], .int .i64 a1] w fun e w' => ∃ v0_ : Value, e = .returned (.tuple #[.agg #[v0_], .bool r2]) ∧ Kd.S (Kd.slice 72 k72) 108 w' w.heap.size (fun _ => True) v0_ r1 ∧ Below w.heap.size w w' := by
 have hu28 := Try.underlying28
 have hu72 := Try.underlying72
 have HR0_0 := am hr0_0
 have HC0_0 := am hc0_0
 clear hr0_0 hc0_0
 have HB := am (Below.refl w.heap.size w)
 have H : ((spec_l5Branch.f 6 0 0).bind fun t548 => ((spec_l5Guard.f k l0_0 a1 t548).bind fun bt551 => (some (bt551.1, bt551.2)))) = some (r1, r2) := h
 clear h
 replace H := bem H
 obtain ⟨t548, A30, H⟩ := H
 replace H : ((spec_l5Guard.f k l0_0 a1 t548).bind fun bt551 => (some (bt551.1, bt551.2))) = some (r1, r2) := H
 have A3 := am A30
 clear A30
 replace H := bem H
 obtain ⟨⟨t551, t554⟩, A40, H⟩ := H
 replace H : (some (t551, t554)) = some (r1, r2) := H
 have A4 := am A40
 clear A40
 simp only [Option.some.injEq, Prod.mk.injEq] at H
 obtain ⟨rfl, rfl⟩ := H
 go_enter Try.func57, Try.ntmps57
 try go_wp2_with (first | ((with_reducible refine gate_dst (N := 2) rfl ?_); refine box_event ?hg (N := 2) ?hd (cs := #[.slice A0_0 l0_0.length c0_0]) (t := 28) ?hr ?_; (case hd => rfl); (case hg => rfl); (case hr => first | (go_simp; done) | (go_simp; rfl)); intro gb546 hg w5 hbox hb; have n0_ := am (below_step zq0 hb); have n1_ := am (hbox); have n2_ := am ((zq12 : w.heap.size ≤ gb546)); have n3_ := am ((zq12 : w.heap.size ≤ gb546)); clear HB; have HB := n0_; have BK546 := n1_; have GW546 := n2_; have GE546 := n3_; clear n0_ n1_ n2_ n3_; clear hb hbox hg) | ((with_reducible refine gate_dst (N := 4) rfl ?_); refine box_event ?hg (N := 4) ?hd (cs := #[.slice none 0 0]) (t := 28) ?hr ?_; (case hd => rfl); (case hg => rfl); (case hr => first | (go_simp; done) | (go_simp; rfl)); intro gb547 hg w6 hbox hb; have n0_ := am (blk_below (g := gb546) (o := .cells #[.slice A0_0 l0_0.length c0_0] 28 (0, 0)) zq101 hb); have n1_ := am (below_step zq102 hb); have n2_ := am (hbox); have n3_ := am ((by rw [hg]; exact (below_size zq102) : w.heap.size ≤ gb547)); have n4_ := am ((by rw [hg]; exact (below_size zq102) : w.heap.size ≤ gb547)); have n5_ := am ((by rw [hg]; exact Nat.ne_of_lt (blk_lt (g := gb546) (o := .cells #[.slice A0_0 l0_0.length c0_0] 28 (0, 0)) zq101) : gb546 ≠ gb547)); have n6_ := am ((by rw [hg]; exact Nat.ne_of_gt (blk_lt (g := gb546) (o := .cells #[.slice A0_0 l0_0.length c0_0] 28 (0, 0)) zq101) : gb547 ≠ gb546)); clear BK546; clear HB; have BK546 := n0_; have HB := n1_; have BK547 := n2_; have GW547 := n3_; have GE547 := n4_; have NB546_547 := n5_; have NB547_546 := n6_; clear n0_ n1_ n2_ n3_ n4_ n5_ n6_; clear hb hbox hg))
 have n0_ := am (blk_drew BK546.out)
 have n1_ := am (blk_drew BK547.out)
 have n2_ := am (below_drew1 HB.out)
 clear BK546
 clear BK547
 clear HB
 have BK546 := n0_
 have BK547 := n1_
 have HB := n2_
 clear n0_ n1_ n2_
 refine start_ (n := 9) (S := fun w' => w'.cell? ⟨gb546, 0, none⟩ = some (.slice A0_0 l0_0.length c0_0)) (ds := []) #[false, false, false, false, false, false, false, false, false] zq17 rfl rfl ((blk_cell BK546.out 0).trans rfl) (fun hHeld => ?_); refine with_tabW spec_ThrowingGuard.tab1 spec_ThrowingGuard.bits1 (fun HT_ HW_ => ?_)
 generalize w6.drew = w7 at BK546 BK547 HB hHeld ⊢
 refine pure_ (i := 1) (N := some 7) (v := ?_) (a' := ?_) #[false, true, false, false, false, false, false, false, false] rfl rfl (any_of HT_.out zq17) (fun _ _ _ h => h) (Or.inl ⟨by rfl, ?_⟩) ?_ ?_
 rotate_left
 ·intro w'
  go_simp
  with_reducible rfl
 rotate_left
 ·simp only [Act.put, List.setIfInBounds_toArray, List.set_cons_zero, List.set_cons_succ, i64_w, i32_w]
  rfl
 refine pure_ (i := 2) (N := some 8) (v := ?_) (a' := ?_) #[false, true, true, false, false, false, false, false, false] rfl rfl (any_of HT_.out zq17) (fun _ _ _ h => h) (Or.inl ⟨by rfl, ?_⟩) ?_ ?_
 rotate_left
 ·intro w'
  go_simp
  with_reducible rfl
 rotate_left
 ·simp only [Act.put, List.setIfInBounds_toArray, List.set_cons_zero, List.set_cons_succ, i64_w, i32_w]
  rfl
 refine take_ (i := 0) (N := some 6) (v := ?_) (a' := ?_) #[true, true, true, false, false, false, false, false, false] rfl rfl (take_ofW HT_.out HW_.out zq17) (fun _ _ _ h => h) (Or.inl ⟨by rfl, ?_⟩) hHeld ?_ ?_
 rotate_left
 ·intro w' s0
  go_simp
  with_reducible rfl
 rotate_left
 ·simp only [Act.put, List.setIfInBounds_toArray, List.set_cons_zero, List.set_cons_succ, i64_w, i32_w]
  rfl
 refine one_ (i := 3) (N := some 9) #[true, true, true, true, false, false, false, false, false] rfl rfl (one_of HT_.out zq17) zq107 (fun K hK => ?_)
 refine goes_ Try.func104 zq17 rfl #[.agg #[.int .i64 6, .int .i64 0, .int .i64 0]] (by rfl) rfl rfl zq1 ?_
 with_reducible refine (spec_l5Branch.calls 6 0 0 t548 _ A3.out).mono ?_
 rintro e w8 ⟨v549, rfl, ho0, hb⟩
 refine ⟨_, rfl, ?_⟩
 have n0_ := am (Kd.R_lower ho0 (below_size zq99))
 have n1_ := am (blk_below (g := gb546) (o := .cells #[.slice A0_0 l0_0.length c0_0] 28 (0, 0)) zq101 hb)
 have n2_ := am (blk_below (g := gb547) (o := .cells #[.slice none 0 0] 28 (0, 0)) zq119 hb)
 have n3_ := am (below_step zq99 hb)
 clear BK546
 clear BK547
 clear HB
 have HO550 := n0_
 have BK546 := n1_
 have BK547 := n2_
 have HB := n3_
 clear n0_ n1_ n2_ n3_
 (try clear hb)
 (try clear hb2)
 (try clear hk)
 (try clear hi)
 (try clear ho0)
 obtain ⟨Ao9, co9, eo9⟩ := Kd.R_slice HO550.out
 (first | subst eo9 | (injection eo9 with f1_ f2_ f3_; have f4_ := f1_.symm; have f5_ := f3_.symm; clear f1_ f2_ f3_; subst f4_; subst f5_))
 refine hK.out _ _ ((blk_cell BK546.out 0).trans rfl) (fun hHeld => ?_)
 clear hK K
 refine norm_ (a' := ?_) ?_ ?_
 rotate_left
 ·show Act.put _ (some 9) _ = _
  simp only [Act.put, List.setIfInBounds_toArray, List.set_cons_zero, List.set_cons_succ, i64_w, i32_w]
  rfl
 refine one_ (i := 4) (N := some 10) #[true, true, true, true, true, false, false, false, false] rfl rfl (one_of HT_.out zq17) zq107 (fun K hK => ?_)
 refine goes_ Try.func102 zq17 rfl #[.agg #[.slice A0_0 l0_0.length c0_0], .int .i64 a1, .slice Ao9 t548.length co9] (by rfl) rfl rfl zq1 ?_
 with_reducible refine (spec_l5Guard.calls k _ _ l0_0 a1 _ _ t548 t551 t554 _ ?side1 ?side2 ?side3 ?side4 A4.out).mono ?_
 (case side1 => repeat (first | exact (Kd.C_below HR0_0.out HB.out) | (with_reducible refine Kd.C_alloc ?_ _) | (with_reducible refine Kd.C_drewN ?_ _) | (with_reducible refine Kd.C_drew ?_)))
 (case side2 => exact HC0_0.out)
 (case side3 => repeat (first | exact (Kd.R_reads' HO550.out).2.2 | (with_reducible refine Kd.C_alloc ?_ _) | (with_reducible refine Kd.C_drewN ?_ _) | (with_reducible refine Kd.C_drew ?_)))
 (case side4 => exact (Kd.R_reads' HO550.out).2.1)
 rintro e w10 ⟨v552, rfl, ho0, hb⟩
 refine ⟨_, rfl, ?_⟩
 have n0_ := am (Kd.R_below zq134 hb)
 have n1_ := am (Kd.S_lower (Kd.S_new' ho0 (Kd.R_lt zq134)) (below_size zq99))
 have n2_ := am (blk_below (g := gb546) (o := .cells #[.slice A0_0 l0_0.length c0_0] 28 (0, 0)) zq101 hb)
 have n3_ := am (blk_below (g := gb547) (o := .cells #[.slice none 0 0] 28 (0, 0)) zq119 hb)
 have n4_ := am (below_step zq99 hb)
 clear HO550
 clear BK546
 clear BK547
 clear HB
 have HO550 := n0_
 have HO553 := n1_
 have BK546 := n2_
 have BK547 := n3_
 have HB := n4_
 clear n0_ n1_ n2_ n3_ n4_
 (try clear hb)
 (try clear hb2)
 (try clear hk)
 (try clear hi)
 (try clear ho0)
 obtain ⟨Ao11, co11, eo11⟩ := Kd.S_slice HO553.out
 (first | subst eo11 | (injection eo11 with f1_ f2_ f3_; have f4_ := f1_.symm; have f5_ := f3_.symm; clear f1_ f2_ f3_; subst f4_; subst f5_))
 refine hK.out _ _ ((blk_cell BK546.out 0).trans rfl) (fun hHeld => ?_)
 clear hK K
 refine norm_ (a' := ?_) ?_ ?_
 rotate_left
 ·show Act.put _ (some 10) _ = _
  simp only [Act.put, List.setIfInBounds_toArray, List.set_cons_zero, List.set_cons_succ, i64_w, i32_w]
  rfl
 refine pure_ (i := 5) (N := some 11) (v := ?_) (a' := ?_) #[true, true, true, true, true, true, false, false, false] rfl rfl (any_of HT_.out zq17) (fun _ _ _ h => h) (Or.inl ⟨by rfl, ?_⟩) ?_ ?_
 rotate_left
 ·intro w'
  go_simp
  with_reducible rfl
 rotate_left
 ·simp only [Act.put, List.setIfInBounds_toArray, List.set_cons_zero, List.set_cons_succ, i64_w, i32_w]
  rfl
 refine pure_ (i := 6) (N := some 12) (v := ?_) (a' := ?_) #[true, true, true, true, true, true, true, false, false] rfl rfl (any_of HT_.out zq17) (fun _ _ _ h => h) (Or.inl ⟨by rfl, ?_⟩) ?_ ?_
 rotate_left
 ·intro w'
  go_simp
  with_reducible rfl
 rotate_left
 ·simp only [Act.put, List.setIfInBounds_toArray, List.set_cons_zero, List.set_cons_succ, i64_w, i32_w]
  rfl
 refine one_ (i := 7) (N := none) #[true, true, true, true, true, true, true, true, false] rfl rfl (one_of HT_.out zq17) zq107 (fun K hK => ?_)
 have hs12 : w10.cell? ⟨gb547, 0, none⟩ = some (.slice none 0 0) := (blk_cell BK547.out 0).trans rfl
 have hfs12 := blk_frozen BK547.out 0
 have hns12_0 := NB546_547.out
 have hms12_0 := NB547_546.out
 refine skip_ (w1 := ?_) (by rfl) rfl ?_ ?_
 rotate_left
 ·go_simp
  rfl
 refine hK.out _ _ (((cell_far (p := ⟨gb547, _, none⟩) NB546_547.out _).trans (hHeld))) (fun hHeld => ?_)
 clear hK K
 refine pure_ (i := 8) (N := some 5) (v := ?_) (a' := ?_) #[true, true, true, true, true, true, true, true, true] rfl rfl (any_of HT_.out zq17) (fun _ _ _ h => h) (Or.inl ⟨by rfl, ?_⟩) ?_ ?_
 rotate_left
 ·intro w'
  go_simp
  with_reducible rfl
 rotate_left
 ·simp only [Act.put, List.setIfInBounds_toArray, List.set_cons_zero, List.set_cons_succ, i64_w, i32_w]
  rfl
 refine done_ (done_of HT_.out zq17) ?_
 try go_wp2
 refine bodyPost_ret (results_ct rfl _ _ gb547 28 #[.slice Ao11 t551.length co11] (0, 0) _ rfl (by (with_reducible repeat (first | refine blk_drewN ?_ _ | refine blk_drew ?_ | refine blk_alloc ?_ _)); refine blk_put (cs := #[.slice none 0 0]) ?_ 0 _ rfl; (with_reducible repeat (first | refine blk_drewN ?_ _ | refine blk_drew ?_ | refine blk_alloc ?_ _)); exact BK547.out) Try.underlying28 rfl zq17) rfl ?_
 exact ⟨_, zq8, by (with_reducible repeat (first | apply Kd.S_alloc | apply Kd.S_drewN | apply Kd.S_drew)); exact Kd.S_mono (Kd.S_far (p := ⟨gb547, 0, none⟩) (Kd.S_types HO553.out BK547.out zq107) (fun _ hk => hk.2) (.slice Ao11 t551.length co11)) (fun _ hk => trivial), zq99⟩
def impl_ThrowingGuard.f (k : Nat) (l0_0 : List (List (S72))) (a1 : Int) : Option ((List (List (S72))) × Bool) := (impl_guarded.f k l0_0 a1 (([(⟨7, 0, 0⟩ : S72), (⟨11, 3, 3⟩ : S72), (⟨8, 0, 0⟩ : S72), (⟨6, 0, 0⟩ : S72)] : List (S72)))).bind fun bt560 => (some (bt560.1, bt560.2))
set_option maxHeartbeats 8000000 in
set_option maxRecDepth 100000 in
theorem impl_ThrowingGuard.calls (k : Nat) (A0_0 : Option Addr) (c0_0 : Nat) (l0_0 : List (List (S72))) (a1 : Int) (r1 : List (List (S72))) (r2 : Bool) (w : World) (hr0_0 : Kd.C (Kd.slice 72 k72) w A0_0 l0_0.length l0_0) (hc0_0 : l0_0.length ≤ c0_0) (h : impl_ThrowingGuard.f k l0_0 a1 = some (r1, r2)) :
  Calls Try.prog 58 #[.agg #[.slice A0_0 l0_0.length c0_0], .int .i64 a1] w fun e w' => ∃ v0_ : Value, e = .returned (.tuple #[.agg #[v0_], .bool r2]) ∧ Kd.S (Kd.slice 72 k72) 108 w' w.heap.size (fun k_ => (w.heap.size ≤ k_)) v0_ r1 ∧ Below w.heap.size w w' := by
 have hu28 := Try.underlying28
 have hu72 := Try.underlying72
 have HR0_0 := am hr0_0
 have HC0_0 := am hc0_0
 clear hr0_0 hc0_0
 have HB := am (Below.refl w.heap.size w)
 have H : ((impl_guarded.f k l0_0 a1 (([(⟨7, 0, 0⟩ : S72), (⟨11, 3, 3⟩ : S72), (⟨8, 0, 0⟩ : S72), (⟨6, 0, 0⟩ : S72)] : List (S72)))).bind fun bt560 => (some (bt560.1, bt560.2))) = some (r1, r2) := h
 clear h
 obtain ⟨y557, hy557⟩ : ∃ y_ : List (S72), y_ = (([(⟨7, 0, 0⟩ : S72), (⟨11, 3, 3⟩ : S72), (⟨8, 0, 0⟩ : S72), (⟨6, 0, 0⟩ : S72)] : List (S72))) := ⟨_, rfl⟩
 replace H : ((impl_guarded.f k l0_0 a1 y557).bind fun bt560 => (some (bt560.1, bt560.2))) = some (r1, r2) := by first | (rw [hy557]; with_reducible exact H) | (have H2_ := (Option.bind_some _ _).symm.trans H; rw [hy557]; with_reducible exact H2_) | (have H2_ := (Option.bind_some _ _).symm.trans H; with_reducible exact H2_) | with_reducible exact H | (rw [hy557]; exact H) | exact H
 have Ny557 := am hy557
 clear hy557
 replace H := bem H
 obtain ⟨⟨t560, t563⟩, A30, H⟩ := H
 replace H : (some (t560, t563)) = some (r1, r2) := H
 have A3 := am A30
 clear A30
 simp only [Option.some.injEq, Prod.mk.injEq] at H
 obtain ⟨rfl, rfl⟩ := H
 go_enter Try.func58, Try.ntmps58
 go_wp2_with (first | ((with_reducible refine gate_dst (N := 2) rfl ?_); refine box_event ?hg (N := 2) ?hd (cs := #[.slice A0_0 l0_0.length c0_0]) (t := 28) ?hr ?_; (case hd => rfl); (case hg => rfl); (case hr => first | (go_simp; done) | (go_simp; rfl)); intro gb555 hg w4 hbox hb; have n0_ := am (below_step zq0 hb); have n1_ := am (hbox); have n2_ := am ((zq12 : w.heap.size ≤ gb555)); have n3_ := am ((zq12 : w.heap.size ≤ gb555)); clear HB; have HB := n0_; have BK555 := n1_; have GW555 := n2_; have GE555 := n3_; clear n0_ n1_ n2_ n3_; clear hb hbox hg) | ((with_reducible refine gate_dst (N := 4) rfl ?_); refine box_event ?hg (N := 4) ?hd (cs := #[.slice none 0 0]) (t := 28) ?hr ?_; (case hd => rfl); (case hg => rfl); (case hr => first | (go_simp; done) | (go_simp; rfl)); intro gb556 hg w5 hbox hb; have n0_ := am (blk_below (g := gb555) (o := .cells #[.slice A0_0 l0_0.length c0_0] 28 (0, 0)) zq100 hb); have n1_ := am (below_step zq103 hb); have n2_ := am (hbox); have n3_ := am ((by rw [hg]; exact (below_size zq103) : w.heap.size ≤ gb556)); have n4_ := am ((by rw [hg]; exact (below_size zq103) : w.heap.size ≤ gb556)); have n5_ := am ((by rw [hg]; exact Nat.ne_of_lt (blk_lt (g := gb555) (o := .cells #[.slice A0_0 l0_0.length c0_0] 28 (0, 0)) zq100) : gb555 ≠ gb556)); have n6_ := am ((by rw [hg]; exact Nat.ne_of_gt (blk_lt (g := gb555) (o := .cells #[.slice A0_0 l0_0.length c0_0] 28 (0, 0)) zq100) : gb556 ≠ gb555)); clear BK555; clear HB; have BK555 := n0_; have HB := n1_; have BK556 := n2_; have GW556 := n3_; have GE556 := n4_; have NB555_556 := n5_; have NB556_555 := n6_; clear n0_ n1_ n2_ n3_ n4_ n5_ n6_; clear hb hbox hg; have hnb6 := NB555_556.out; have hnc6 := NB556_555.out; have hcz7_0 : w5.cell? ⟨gb555, 0, none⟩ = some (.slice A0_0 l0_0.length c0_0) := (blk_cell BK555.out 0).trans rfl; have hfz7_0 := blk_frozen BK555.out 0) | ((with_reducible refine gate_dst (N := 12) rfl ?_); refine Kd.R_lit k72 _ 72 ?hg (N := 12) ?hd (xs := ([(⟨7, 0, 0⟩ : S72), (⟨11, 3, 3⟩ : S72), (⟨8, 0, 0⟩ : S72), (⟨6, 0, 0⟩ : S72)] : List (S72))) (inner := [.int .i64 7, .int .i64 0, .int .i64 0, .int .i64 11, .int .i64 3, .int .i64 3, .int .i64 8, .int .i64 0, .int .i64 0, .int .i64 6, .int .i64 0, .int .i64 0]) (ok := fun _ => True) (okp := fun _ => True) ?hr ?hp (fun _ hk => hk) trivial (Below.refl _ _) (Nat.le_refl _) (by simp) ?_; (case hd => rfl); (case hg => rfl); (case hr => first | (go_simp; done) | (go_simp; rfl)); (case hp => exact (Reps.c3 (show Kd.M k72 _ _ _ (⟨7, 0, 0⟩ : S72) [.int .i64 7, .int .i64 0, .int .i64 0] from (k72_mkM _ _ _ (⟨7, 0, 0⟩ : S72) )) (Reps.c3 (show Kd.M k72 _ _ _ (⟨11, 3, 3⟩ : S72) [.int .i64 11, .int .i64 3, .int .i64 3] from (k72_mkM _ _ _ (⟨11, 3, 3⟩ : S72) )) (Reps.c3 (show Kd.M k72 _ _ _ (⟨8, 0, 0⟩ : S72) [.int .i64 8, .int .i64 0, .int .i64 0] from (k72_mkM _ _ _ (⟨8, 0, 0⟩ : S72) )) (Reps.c3 (show Kd.M k72 _ _ _ (⟨6, 0, 0⟩ : S72) [.int .i64 6, .int .i64 0, .int .i64 0] from (k72_mkM _ _ _ (⟨6, 0, 0⟩ : S72) )) (Reps.none _ _)))))); intro v558 w8 ho9 hb hg_ hnew_; clear hg_ hnew_; (first | rw [← Ny557.out] at ho9 | (simp only [Int.reduceToNat] at ho9; rw [← Ny557.out] at ho9)); have n0_ := am (Kd.R_lower (Kd.R_newM (M := fun k_ => (w.heap.size ≤ k_)) ho9 (below_size zq98) (fun k_ h_ => h_)) (below_size zq98)); have n1_ := am (blk_below (g := gb555) (o := .cells #[.slice A0_0 l0_0.length c0_0] 28 (0, 0)) zq100 hb); have n2_ := am (blk_below (g := gb556) (o := .cells #[.slice none 0 0] 28 (0, 0)) zq104 hb); have n3_ := am (below_step zq98 hb); clear BK555; clear BK556; clear HB; have HO559 := n0_; have BK555 := n1_; have BK556 := n2_; have HB := n3_; clear n0_ n1_ n2_ n3_; clear hb ho9; obtain ⟨Ao10, co10, eo10⟩ := Kd.R_slice HO559.out; subst eo10) | ((with_reducible refine gate_callee (f := 103) rfl ?_); refine goesL_ (some 13) rfl rfl Try.func103 zq17 rfl #[.agg #[.slice A0_0 l0_0.length c0_0], .int .i64 a1, .slice Ao10 y557.length co10] rfl zq1 ?_; (with_reducible refine (impl_guarded.calls k _ _ l0_0 a1 (fun k_ => some k_ = (.slice Ao10 y557.length co10 : Value).ownBlock) _ _ y557 t560 t563 _ ?side1 ?side2 ?side3 A3.out).mono ?_); (case side1 => repeat (first | exact (Kd.C_below HR0_0.out HB.out) | (with_reducible refine Kd.C_alloc ?_ _) | (with_reducible refine Kd.C_drewN ?_ _) | (with_reducible refine Kd.C_drew ?_))); (case side2 => exact HC0_0.out); (case side3 => exact Kd.R_V (Kd.R_tight rfl (Kd.R_types (Kd.R_types (HO559.out) BK555.out zq107) BK556.out zq107))); rintro e w11 ⟨v561, rfl, ho0, hb⟩; refine ⟨_, rfl, ?_⟩; have n0_ := am (Kd.R_below (by (with_reducible repeat (first | apply Kd.R_alloc | apply Kd.R_drewN | apply Kd.R_drew)); exact HO559.out) hb); have n1_ := am (Kd.S_lower (Kd.S_mono (ok' := fun k_ => (w.heap.size ≤ k_) ∧ k_ ≠ gb555 ∧ k_ ≠ gb556) ho0 (fun k_ hk_ => ⟨Or.elim hk_ (fun hs_ => ((Kd.R_types (Kd.R_types (HO559.out) BK555.out zq107) BK556.out zq107).1 k_ hs_.symm).1.1.1) (fun hn_ => (Nat.le_trans (below_size zq98) hn_)), Or.elim hk_ (fun hs_ => ((Kd.R_types (Kd.R_types (HO559.out) BK555.out zq107) BK556.out zq107).1 k_ hs_.symm).1.2) (fun hn_ => (Kd.freshB (g := gb555) (o := .cells #[.slice A0_0 l0_0.length c0_0] 28 (0, 0)) zq100 k_ hn_)), Or.elim hk_ (fun hs_ => ((Kd.R_types (Kd.R_types (HO559.out) BK555.out zq107) BK556.out zq107).1 k_ hs_.symm).2) (fun hn_ => (Kd.freshB (g := gb556) (o := .cells #[.slice none 0 0] 28 (0, 0)) zq104 k_ hn_))⟩)) (below_size zq98)); have n2_ := am (blk_below (g := gb555) (o := .cells #[.slice A0_0 l0_0.length c0_0] 28 (0, 0)) zq100 hb); have n3_ := am (blk_below (g := gb556) (o := .cells #[.slice none 0 0] 28 (0, 0)) zq104 hb); have n4_ := am (below_step zq98 hb); clear HO559; clear BK555; clear BK556; clear HB; have HO559 := n0_; have HO562 := n1_; have BK555 := n2_; have BK556 := n3_; have HB := n4_; clear n0_ n1_ n2_ n3_ n4_; (try clear hb); (try clear hb2); (try clear hk); (try clear hi); (try clear ho0); obtain ⟨Ao12, co12, eo12⟩ := Kd.S_slice HO562.out; subst eo12; have hcz13_0 : w11.cell? ⟨gb556, 0, none⟩ = some (.slice none 0 0) := (blk_cell BK556.out 0).trans rfl; have hfz13_0 := blk_frozen BK556.out 0))
 refine bodyPost_ret (results_ct rfl _ _ gb556 28 #[.slice Ao12 t560.length co12] (0, 0) _ rfl (by (with_reducible repeat (first | refine blk_drewN ?_ _ | refine blk_drew ?_ | refine blk_alloc ?_ _)); refine blk_put (cs := #[.slice none 0 0]) ?_ 0 _ rfl; (with_reducible repeat (first | refine blk_drewN ?_ _ | refine blk_drew ?_ | refine blk_alloc ?_ _)); exact BK556.out) Try.underlying28 rfl zq17) rfl ?_
 exact ⟨_, zq8, by (with_reducible repeat (first | apply Kd.S_alloc | apply Kd.S_drewN | apply Kd.S_drew)); exact Kd.S_mono (Kd.S_far (p := ⟨gb556, 0, none⟩) (Kd.S_mono HO562.out (fun k_ hk => (⟨hk, hk.2.2⟩ : _ ∧ k_ ≠ gb556))) (fun _ hk => hk.2) (.slice Ao12 t560.length co12)) (fun _ hk => hk.1.1), zq98⟩
end Go.Proofs.Ythdhhpcbagpmgaa.Pr
end

section
namespace Go.Proofs.Ythdhhpcbagpmgaa.Pr
open Go.RowKit Go.Proofs.YthdhhpcbagpmgaaW.PrintWords Go.Proofs.YthdhhpcbagpmgaaW.PrintLast Go.Proofs.YthdhhpcbagpmgaaW.PrintMore
set_option linter.unusedVariables false
set_option linter.unusedSimpArgs false
set_option maxHeartbeats 8000000 in
set_option maxRecDepth 100000 in
theorem throwingGuard_big (k : Nat) (A0 : Option Addr) (c0 : Nat) (l0 : List (List S69)) (x1 : Int) (w : World) (hr0 : Kd.C (Kd.slice 69 k69) w A0 l0.length l0) (hc0 : l0.length ≤ c0) (sz : Int) (hsz : laws_szProgram.f k l0 1048576 = some sz) (hsz0 : sz < 0) :
  Calls Try.prog 10 #[.agg #[.slice A0 l0.length c0], .int .i64 x1] w fun e w' => e = .returned (.bool true) ∧ Below w.heap.size w w' := by
 have hu24 := Try.underlying24
 have hu28 := Try.underlying28
 have e13 : ∀ args w, (callFunc 13 args).run Try.prog w = .ok (.enter 13 args) w := enters_of Try.func13 (by kernel_rfl) rfl
 have e15 : ∀ args w, (callFunc 15 args).run Try.prog w = .ok (.enter 15 args) w := enters_of Try.func15 (by kernel_rfl) rfl
 have e18 : ∀ args w, (callFunc 18 args).run Try.prog w = .ok (.enter 18 args) w := enters_of Try.func18 (by kernel_rfl) rfl
 have e19 : ∀ args w, (callFunc 19 args).run Try.prog w = .ok (.enter 19 args) w := enters_of Try.func19 (by kernel_rfl) rfl
 have e50 : ∀ args w, (callFunc 50 args).run Try.prog w = .ok (.enter 50 args) w := enters_of Try.func50 (by kernel_rfl) rfl
 have e57 : ∀ args w, (callFunc 57 args).run Try.prog w = .ok (.enter 57 args) w := enters_of Try.func57 (by kernel_rfl) rfl
 have e58 : ∀ args w, (callFunc 58 args).run Try.prog w = .ok (.enter 58 args) w := enters_of Try.func58 (by kernel_rfl) rfl
 have hszd : decide (sz < 0) = true := decide_eq_true hsz0
 clear hsz0
 have HR := Aside0.mk hr0
 clear hr0
 go_enter Try.func10, Try.ntmps10
 go_upto_region 2 with (first | ((with_reducible refine gate_dst (N := 2) rfl ?_); refine box_event ?hg (N := 2) ?hd (cs := #[.slice A0 l0.length c0]) (t := 24) ?hr ?_; (case hd => rfl); (case hg => rfl); (case hr => first | (go_simp; done) | (go_simp; rfl)); intro g2 hg2 w1 hbox hb; have B := Aside0.mk hb; have C2 := Aside0.mk hbox; clear hb hbox hg2))
 have hc2_0 : w1.cell? ⟨g2, 0, none⟩ = some (.slice A0 l0.length c0) := (blk_cell C2.out 0).trans rfl
 go_wp2_with (first | (go_at_fn 13; refine (laws_szProgram.calls k A0 c0 l0 1048576 sz _ (Kd.C_below HR.out B.out) hc0 hsz).mono ?_; rintro e w2 ⟨rfl, hb⟩; have n0_ := Aside0.mk (below_step B.out hb); clear B; have B := n0_; clear n0_; have n0_ := Aside0.mk (blk_below C2.out hb); clear C2; have C2 := n0_; clear n0_; clear hb))
 go_ret
 exact ⟨rfl, B.out⟩
set_option maxHeartbeats 8000000 in
set_option maxRecDepth 100000 in
theorem throwingGuard_walk (k : Nat) (A0 : Option Addr) (c0 : Nat) (l0 : List (List S69)) (x1 : Int) (w : World) (hr0 : Kd.C (Kd.slice 69 k69) w A0 l0.length l0) (hc0 : l0.length ≤ c0)
  (sz : Int) (p b : List (List S72))  (o : Bool) (m1 m2 : Int) (p' b' : List (List S72))
  (hsz : laws_szProgram.f k l0 1048576 = some sz) (hsz0 : 0 ≤ sz) (hT : laws_toProgram.f k l0 = some p) (hS : spec_ThrowingGuard.f k p x1 = some (b, o)) (hI : impl_ThrowingGuard.f k p x1 = some (b, o)) (hE : laws_eqProgram.f k b b = some true) (hEp : laws_eqProgram.f k p p = some true) (hM1 : laws_markStepSS.f k p 1 = some (m1, p')) (h1 : 0 ≤ m1) (hM2 : laws_markStepSS.f k b 1 = some (m2, b')) (hH : laws_heldProgram.f k b' 1 = some m2) (h2 : 0 ≤ m2) :
  Calls Try.prog 10 #[.agg #[.slice A0 l0.length c0], .int .i64 x1] w fun e w' => e = .returned (.bool true) ∧ Below w.heap.size w w' := by
 have hu24 := Try.underlying24
 have hu28 := Try.underlying28
 have e13 : ∀ args w, (callFunc 13 args).run Try.prog w = .ok (.enter 13 args) w := enters_of Try.func13 (by kernel_rfl) rfl
 have e15 : ∀ args w, (callFunc 15 args).run Try.prog w = .ok (.enter 15 args) w := enters_of Try.func15 (by kernel_rfl) rfl
 have e18 : ∀ args w, (callFunc 18 args).run Try.prog w = .ok (.enter 18 args) w := enters_of Try.func18 (by kernel_rfl) rfl
 have e19 : ∀ args w, (callFunc 19 args).run Try.prog w = .ok (.enter 19 args) w := enters_of Try.func19 (by kernel_rfl) rfl
 have e50 : ∀ args w, (callFunc 50 args).run Try.prog w = .ok (.enter 50 args) w := enters_of Try.func50 (by kernel_rfl) rfl
 have e57 : ∀ args w, (callFunc 57 args).run Try.prog w = .ok (.enter 57 args) w := enters_of Try.func57 (by kernel_rfl) rfl
 have e58 : ∀ args w, (callFunc 58 args).run Try.prog w = .ok (.enter 58 args) w := enters_of Try.func58 (by kernel_rfl) rfl
 have hszd : decide (sz < 0) = false := decide_eq_false (by omega)
 have ho : (o != o) = false := by simp
 have hd1 : decide (m1 < 0) = false := decide_eq_false (by omega)
 have hd2 : decide (m2 < 0) = false := decide_eq_false (by omega)
 have hn2 : (m2 != m2) = false := by simp
 have HR := Aside0.mk hr0
 clear hr0
 go_enter Try.func10, Try.ntmps10
 go_upto_region 2 with (first | ((with_reducible refine gate_dst (N := 2) rfl ?_); refine box_event ?hg (N := 2) ?hd (cs := #[.slice A0 l0.length c0]) (t := 24) ?hr ?_; (case hd => rfl); (case hg => rfl); (case hr => first | (go_simp; done) | (go_simp; rfl)); intro g2 hg2 w1 hbox hb; have B := Aside0.mk hb; have C2 := Aside0.mk hbox; clear hb hbox hg2))
 have hc2_0 : w1.cell? ⟨g2, 0, none⟩ = some (.slice A0 l0.length c0) := (blk_cell C2.out 0).trans rfl
 go_upto_region 5 with (first | (go_at_fn 13; refine (laws_szProgram.calls k A0 c0 l0 1048576 sz _ (Kd.C_below HR.out B.out) hc0 hsz).mono ?_; rintro e w2 ⟨rfl, hb⟩; have n0_ := Aside0.mk (below_step B.out hb); clear B; have B := n0_; clear n0_; have n0_ := Aside0.mk (blk_below C2.out hb); clear C2; have C2 := n0_; clear n0_; clear hb))
 clear hc2_0
 have hc2_0 : w2.cell? ⟨g2, 0, none⟩ = some (.slice A0 l0.length c0) := (blk_cell C2.out 0).trans rfl
 go_upto_region 6 with (first | (go_at_fn 15; refine (laws_toProgram.calls k A0 c0 l0 p _ (Kd.C_below HR.out B.out) hc0 hT).mono ?_; rintro e w3 ⟨v1, rfl, hs, hb⟩; have S1 := Aside0.mk (Made.new (Kd.S_mono hs (fun _ _ => trivial)) B.out.size); have Z1 := Aside0.mk hb.size; have n0_ := Aside0.mk (below_step B.out hb); clear B; have B := n0_; clear n0_; have n0_ := Aside0.mk (blk_below C2.out hb); clear C2; have C2 := n0_; clear n0_; clear hb hs; obtain ⟨Av1, cv1, ev1⟩ := Kd.S_slice S1.out; subst ev1) | (go_at_fn 57; refine (spec_ThrowingGuard.calls k Av1 cv1 p x1 b  o _ (Kd.S_reads' S1.out).2.2 (Kd.S_reads' S1.out).2.1 hS).mono ?_; rintro e w4 ⟨v2, rfl, hs, hb⟩; have S2 := Aside0.mk (Made.new (Kd.S_mono hs (fun _ _ => trivial)) B.out.size); have Z2 := Aside0.mk hb.size; have n0_ := Aside0.mk (below_step B.out hb); clear B; have B := n0_; clear n0_; have n0_ := Aside0.mk (blk_below C2.out hb); clear C2; have C2 := n0_; clear n0_; have n0_ := Aside0.mk (Kd.S_below S1.out hb); clear S1; have S1 := n0_; clear n0_; clear hb hs; obtain ⟨Av2, cv2, ev2⟩ := Kd.S_slice S2.out; subst ev2) | ((with_reducible refine gate_dst (N := 6) rfl ?_); refine box_event ?hg (N := 6) ?hd (cs := #[.slice none 0 0]) (t := 28) ?hr ?_; (case hd => rfl); (case hg => rfl); (case hr => first | (go_simp; done) | (go_simp; rfl)); intro g6 hg6 w5 hbox hb; have LT := Aside0.mk (show g2 < g6 ∧ w4.heap.size = g6 ∧ w.heap.size ≤ g6 from ⟨by rw [hg6]; exact blk_lt C2.out, hg6.symm, by rw [hg6]; exact B.out.size⟩); have n0_ := Aside0.mk (below_step B.out hb); clear B; have B := n0_; clear n0_; have n0_ := Aside0.mk (blk_below C2.out hb); clear C2; have C2 := n0_; clear n0_; have n0_ := Aside0.mk (Kd.S_below S2.out hb); clear S2; have S2 := n0_; clear n0_; have C6 := Aside0.mk hbox; have G6 := Aside0.mk hg6; clear hb hbox hg6; have hc6_0 : w5.cell? ⟨g6, 0, none⟩ = some (.slice none 0 0) := (blk_cell C6.out 0).trans rfl; have hf6_0 := blk_frozen C6.out 0))
 clear S1 Z1 Z2 G6 hc2_0
 obtain ⟨w6, hw6⟩ : ∃ w6, w6 = (w5.setCell ⟨g6, 0, none⟩ (.slice Av2 b.length cv2)) := ⟨_, rfl⟩
 rw [← hw6]
 have K6 : Kept w5 w6 (fun q => q = g6) := by
  rw [hw6]
  exact Kept.setCell (S := fun q => q = g6) (p := ⟨g6, 0, none⟩) (Kept.refl w5 (fun q => q = g6)) (.inl rfl) (.slice Av2 b.length cv2)
 have Bn := Aside0.mk (show Below w.heap.size w w6 from by rw [hw6]; exact below_set B.out (LT.out.2.2))
 have Cn := Aside0.mk (show w6.heap[g6]? = some (.cells #[.slice Av2 b.length cv2] 28 (0, 0)) from by
  rw [hw6]
  have p0 : (w5.setCell ⟨g6, 0, none⟩ (.slice Av2 b.length cv2)).heap[g6]? = some (.cells #[.slice Av2 b.length cv2] 28 (0, 0)) := blk_put C6.out 0 (.slice Av2 b.length cv2) rfl
  exact p0)
 clear B C6
 have B := Bn
 have C6 := Cn
 clear Bn Cn
 have n0_ := Aside0.mk (blk_kept C2.out K6 (by have := LT.out; omega)); clear C2; have C2 := n0_; clear n0_; have n0_ := Aside0.mk (Kd.S_kept S2.out K6 (fun q hq e_ => by have := LT.out; omega)); clear S2; have S2 := n0_; clear n0_
 clear hw6 K6 hc6_0 hf6_0
 have hc2_0 : w6.cell? ⟨g2, 0, none⟩ = some (.slice A0 l0.length c0) := (blk_cell C2.out 0).trans rfl
 go_upto_region 7 with (first | (go_at_fn 15; refine (laws_toProgram.calls k A0 c0 l0 p _ (Kd.C_below HR.out B.out) hc0 hT).mono ?_; rintro e w7 ⟨v3, rfl, hs, hb⟩; have L6 := Aside0.mk (blk_lt C6.out); have S3 := Aside0.mk (Made.new (Kd.S_mono hs (fun _ _ => trivial)) B.out.size); have Z3 := Aside0.mk hb.size; have n0_ := Aside0.mk (below_step B.out hb); clear B; have B := n0_; clear n0_; have n0_ := Aside0.mk (blk_below C2.out hb); clear C2; have C2 := n0_; clear n0_; have n0_ := Aside0.mk (blk_below C6.out hb); clear C6; have C6 := n0_; clear n0_; have n0_ := Aside0.mk (Kd.S_below S2.out hb); clear S2; have S2 := n0_; clear n0_; clear hb hs; obtain ⟨Av3, cv3, ev3⟩ := Kd.S_slice S3.out; subst ev3) | ((with_reducible refine gate_dst (N := 8) rfl ?_); refine box_event ?hg (N := 8) ?hd (cs := #[.slice none 0 0]) (t := 28) ?hr ?_; (case hd => rfl); (case hg => rfl); (case hr => first | (go_simp; done) | (go_simp; rfl)); intro g8 hg8 w8 hbox hb; have LB := Aside0.mk (show w.heap.size ≤ w7.heap.size from B.out.size); have n0_ := Aside0.mk (below_step B.out hb); clear B; have B := n0_; clear n0_; have n0_ := Aside0.mk (blk_below C2.out hb); clear C2; have C2 := n0_; clear n0_; have n0_ := Aside0.mk (blk_below C6.out hb); clear C6; have C6 := n0_; clear n0_; have n0_ := Aside0.mk (Kd.S_below S2.out hb); clear S2; have S2 := n0_; clear n0_; have n0_ := Aside0.mk (Kd.S_below S3.out hb); clear S3; have S3 := n0_; clear n0_; have C8 := Aside0.mk hbox; have G8 := Aside0.mk hg8; clear hb hbox hg8; have hc8_0 : w8.cell? ⟨g8, 0, none⟩ = some (.slice none 0 0) := (blk_cell C8.out 0).trans rfl; have hf8_0 := blk_frozen C8.out 0))
 have LTn := Aside0.mk (show g2 < g6 ∧ w4.heap.size = g6 ∧ g6 < w6.heap.size ∧ w6.heap.size ≤ w7.heap.size ∧ g8 = w7.heap.size ∧ w.heap.size ≤ g8 from ⟨LT.out.1, LT.out.2.1, L6.out, Z3.out, G8.out, by have := LB.out; have := G8.out; omega⟩)
 clear LT L6 Z3 G8 LB hc2_0
 have LT := LTn
 clear LTn
 obtain ⟨w9, hw9⟩ : ∃ w9, w9 = (w8.setCell ⟨g8, 0, none⟩ (.slice Av3 p.length cv3)) := ⟨_, rfl⟩
 rw [← hw9]
 have K8 : Kept w8 w9 (fun q => q = g8) := by
  rw [hw9]
  exact Kept.setCell (S := fun q => q = g8) (p := ⟨g8, 0, none⟩) (Kept.refl w8 (fun q => q = g8)) (.inl rfl) (.slice Av3 p.length cv3)
 have Bn := Aside0.mk (show Below w.heap.size w w9 from by rw [hw9]; exact below_set B.out (LT.out.2.2.2.2.2))
 have Cn := Aside0.mk (show w9.heap[g8]? = some (.cells #[.slice Av3 p.length cv3] 28 (0, 0)) from by
  rw [hw9]
  have p0 : (w8.setCell ⟨g8, 0, none⟩ (.slice Av3 p.length cv3)).heap[g8]? = some (.cells #[.slice Av3 p.length cv3] 28 (0, 0)) := blk_put C8.out 0 (.slice Av3 p.length cv3) rfl
  exact p0)
 clear B C8
 have B := Bn
 have C8 := Cn
 clear Bn Cn
 have n0_ := Aside0.mk (blk_kept C2.out K8 (by have := LT.out; omega)); clear C2; have C2 := n0_; clear n0_; have n0_ := Aside0.mk (blk_kept C6.out K8 (by have := LT.out; omega)); clear C6; have C6 := n0_; clear n0_; have n0_ := Aside0.mk (Kd.S_kept S2.out K8 (fun q hq e_ => by have := LT.out; omega)); clear S2; have S2 := n0_; clear n0_; have n0_ := Aside0.mk (Kd.S_kept S3.out K8 (fun q hq e_ => by have := LT.out; omega)); clear S3; have S3 := n0_; clear n0_
 clear hw9 K8 hc8_0 hf8_0
 have hc8_0 : w9.cell? ⟨g8, 0, none⟩ = some (.slice Av3 p.length cv3) := (blk_cell C8.out 0).trans rfl
 go_upto_region 8 with (first | (go_at_fn 58; refine (impl_ThrowingGuard.calls k Av3 cv3 p x1 b  o _ (Kd.S_reads' S3.out).2.2 (Kd.S_reads' S3.out).2.1 hI).mono ?_; rintro e w10 ⟨v4, rfl, hs, hb⟩; have L8 := Aside0.mk (blk_lt C8.out); have S4 := Aside0.mk (Made.new (Kd.S_mono hs (fun _ _ => trivial)) B.out.size); have Z4 := Aside0.mk hb.size; have n0_ := Aside0.mk (below_step B.out hb); clear B; have B := n0_; clear n0_; have n0_ := Aside0.mk (blk_below C2.out hb); clear C2; have C2 := n0_; clear n0_; have n0_ := Aside0.mk (blk_below C6.out hb); clear C6; have C6 := n0_; clear n0_; have n0_ := Aside0.mk (blk_below C8.out hb); clear C8; have C8 := n0_; clear n0_; have n0_ := Aside0.mk (Kd.S_below S2.out hb); clear S2; have S2 := n0_; clear n0_; have n0_ := Aside0.mk (Kd.S_below S3.out hb); clear S3; have S3 := n0_; clear n0_; clear hb hs; obtain ⟨Av4, cv4, ev4⟩ := Kd.S_slice S4.out; subst ev4) | ((with_reducible refine gate_dst (N := 9) rfl ?_); refine box_event ?hg (N := 9) ?hd (cs := #[.slice none 0 0]) (t := 28) ?hr ?_; (case hd => rfl); (case hg => rfl); (case hr => first | (go_simp; done) | (go_simp; rfl)); intro g9 hg9 w11 hbox hb; have n0_ := Aside0.mk (below_step B.out hb); clear B; have B := n0_; clear n0_; have n0_ := Aside0.mk (blk_below C2.out hb); clear C2; have C2 := n0_; clear n0_; have n0_ := Aside0.mk (blk_below C6.out hb); clear C6; have C6 := n0_; clear n0_; have n0_ := Aside0.mk (blk_below C8.out hb); clear C8; have C8 := n0_; clear n0_; have n0_ := Aside0.mk (Kd.S_below S2.out hb); clear S2; have S2 := n0_; clear n0_; have n0_ := Aside0.mk (Kd.S_below S3.out hb); clear S3; have S3 := n0_; clear n0_; have n0_ := Aside0.mk (Kd.S_below S4.out hb); clear S4; have S4 := n0_; clear n0_; have C9 := Aside0.mk hbox; have G9 := Aside0.mk hg9; clear hb hbox hg9; have hc9_0 : w11.cell? ⟨g9, 0, none⟩ = some (.slice none 0 0) := (blk_cell C9.out 0).trans rfl; have hf9_0 := blk_frozen C9.out 0))
 have LTn := Aside0.mk (show g2 < g6 ∧ w4.heap.size = g6 ∧ g6 < w6.heap.size ∧ w6.heap.size ≤ w7.heap.size ∧ g8 = w7.heap.size ∧ w.heap.size ≤ g8 ∧ g8 < w9.heap.size ∧ w9.heap.size ≤ w10.heap.size ∧ g9 = w10.heap.size from ⟨LT.out.1, LT.out.2.1, LT.out.2.2.1, LT.out.2.2.2.1, LT.out.2.2.2.2.1, LT.out.2.2.2.2.2, L8.out, Z4.out, G9.out⟩)
 clear LT L8 Z4 G9 hc8_0
 have LT := LTn
 clear LTn
 obtain ⟨w12, hw12⟩ : ∃ w12, w12 = (w11.setCell ⟨g9, 0, none⟩ (.slice Av4 b.length cv4)) := ⟨_, rfl⟩
 rw [← hw12]
 have K9 : Kept w11 w12 (fun q => q = g9) := by
  rw [hw12]
  exact Kept.setCell (S := fun q => q = g9) (p := ⟨g9, 0, none⟩) (Kept.refl w11 (fun q => q = g9)) (.inl rfl) (.slice Av4 b.length cv4)
 have Bn := Aside0.mk (show Below w.heap.size w w12 from by rw [hw12]; exact below_set B.out (by have := LT.out; omega))
 have Cn := Aside0.mk (show w12.heap[g9]? = some (.cells #[.slice Av4 b.length cv4] 28 (0, 0)) from by
  rw [hw12]
  have p0 : (w11.setCell ⟨g9, 0, none⟩ (.slice Av4 b.length cv4)).heap[g9]? = some (.cells #[.slice Av4 b.length cv4] 28 (0, 0)) := blk_put C9.out 0 (.slice Av4 b.length cv4) rfl
  exact p0)
 clear B C9
 have B := Bn
 have C9 := Cn
 clear Bn Cn
 have n0_ := Aside0.mk (blk_kept C2.out K9 (by have := LT.out; omega)); clear C2; have C2 := n0_; clear n0_; have n0_ := Aside0.mk (blk_kept C6.out K9 (by have := LT.out; omega)); clear C6; have C6 := n0_; clear n0_; have n0_ := Aside0.mk (blk_kept C8.out K9 (by have := LT.out; omega)); clear C8; have C8 := n0_; clear n0_; have n0_ := Aside0.mk (Kd.S_kept S2.out K9 (fun q hq e_ => by have := LT.out; omega)); clear S2; have S2 := n0_; clear n0_; have n0_ := Aside0.mk (Kd.S_kept S3.out K9 (fun q hq e_ => by have := LT.out; omega)); clear S3; have S3 := n0_; clear n0_; have n0_ := Aside0.mk (Kd.S_kept S4.out K9 (fun q hq e_ => by have := LT.out; omega)); clear S4; have S4 := n0_; clear n0_
 clear hw12 K9 hc9_0 hf9_0
 have hc9_0 : w12.cell? ⟨g9, 0, none⟩ = some (.slice Av4 b.length cv4) := (blk_cell C9.out 0).trans rfl
 have hc6_0 : w12.cell? ⟨g6, 0, none⟩ = some (.slice Av2 b.length cv2) := (blk_cell C6.out 0).trans rfl
 go_upto_region 10 with (first | (go_at_fn 18; refine (laws_eqProgram.calls k Av4 cv4 b  Av2 cv2 b  true _ (Kd.S_reads' S4.out).2.2 (Kd.S_reads' S4.out).2.1 (Kd.S_reads' S2.out).2.2 (Kd.S_reads' S2.out).2.1 hE).mono ?_; rintro e w13 ⟨rfl, hb⟩; have n0_ := Aside0.mk (below_step B.out hb); clear B; have B := n0_; clear n0_; have n0_ := Aside0.mk (blk_below C2.out hb); clear C2; have C2 := n0_; clear n0_; have n0_ := Aside0.mk (blk_below C6.out hb); clear C6; have C6 := n0_; clear n0_; have n0_ := Aside0.mk (blk_below C8.out hb); clear C8; have C8 := n0_; clear n0_; have n0_ := Aside0.mk (blk_below C9.out hb); clear C9; have C9 := n0_; clear n0_; have n0_ := Aside0.mk (Kd.S_below S2.out hb); clear S2; have S2 := n0_; clear n0_; have n0_ := Aside0.mk (Kd.S_below S3.out hb); clear S3; have S3 := n0_; clear n0_; have n0_ := Aside0.mk (Kd.S_below S4.out hb); clear S4; have S4 := n0_; clear n0_; clear hb))
 clear hc9_0 hc6_0
 try go_wp2
 have hdr : Below w13.heap.size w13 w13.drew := below_drew1 (Below.refl _ _)
 have n0_ := Aside0.mk (below_step B.out hdr)
 clear B
 have B := n0_
 clear n0_
 have n0_ := Aside0.mk (blk_below C2.out hdr)
 clear C2
 have C2 := n0_
 clear n0_
 have n0_ := Aside0.mk (blk_below C6.out hdr)
 clear C6
 have C6 := n0_
 clear n0_
 have n0_ := Aside0.mk (blk_below C8.out hdr)
 clear C8
 have C8 := n0_
 clear n0_
 have n0_ := Aside0.mk (blk_below C9.out hdr)
 clear C9
 have C9 := n0_
 clear n0_
 have n0_ := Aside0.mk (Kd.S_below S2.out hdr)
 clear S2
 have S2 := n0_
 clear n0_
 have n0_ := Aside0.mk (Kd.S_below S3.out hdr)
 clear S3
 have S3 := n0_
 clear n0_
 have n0_ := Aside0.mk (Kd.S_below S4.out hdr)
 clear S4
 have S4 := n0_
 clear n0_
 clear hdr
 refine start_ (n := 5) (S := fun w' => w'.cell? ⟨g8, 0, none⟩ = some (.slice Av3 p.length cv3) ∧ w'.cell? ⟨g2, 0, none⟩ = some (.slice A0 l0.length c0)) (ds := []) #[false, false, false, false, false] (by kernel_rfl) rfl rfl ⟨(blk_cell C8.out 0).trans rfl, (blk_cell C2.out 0).trans rfl⟩ (fun hHeld => ?_)
 generalize w13.drew = wd at B C2 C6 C8 C9 S2 S3 S4 hHeld ⊢
 refine take_ (i := 0) (N := some 45) (v := ?_) (a' := ?_) #[true, false, false, false, false] rfl rfl (by kernel_rfl) (fun _ _ _ h => h) (Or.inl ⟨by rfl, ?_⟩) hHeld ?_ ?_
 rotate_left
 ·rintro w' ⟨s0, s1⟩
  go_simp
  with_reducible rfl
 rotate_left
 ·simp only [Act.put, List.setIfInBounds_toArray, List.set_cons_zero, List.set_cons_succ, i64_w, i32_w]
  rfl
 refine take_ (i := 1) (N := some 46) (v := ?_) (a' := ?_) #[true, true, false, false, false] rfl rfl (by kernel_rfl) (fun _ _ _ h => h) (Or.inl ⟨by rfl, ?_⟩) hHeld ?_ ?_
 rotate_left
 ·rintro w' ⟨s0, s1⟩
  go_simp
  with_reducible rfl
 rotate_left
 ·simp only [Act.put, List.setIfInBounds_toArray, List.set_cons_zero, List.set_cons_succ, i64_w, i32_w]
  rfl
 refine one_ (i := 2) (N := some 47) #[true, true, true, false, false] rfl rfl (by kernel_rfl) (by decide) (fun K hK => ?_)
 refine goes_ Try.func15 (by kernel_rfl) rfl #[.agg #[.slice A0 l0.length c0]] (by rfl) rfl rfl (by (try simp only [List.map_toArray, List.map_cons, List.map_nil]); first | done | rfl) ?_
 refine (laws_toProgram.calls k A0 c0 l0 p _ (Kd.C_below HR.out B.out) hc0 hT).mono ?_
 rintro e w14 ⟨v5, rfl, hs, hb⟩
 refine ⟨_, rfl, ?_⟩
 have S5 := Aside0.mk hs
 have n0_ := Aside0.mk (below_step B.out hb)
 clear B
 have B := n0_
 clear n0_
 have n0_ := Aside0.mk (blk_below C2.out hb)
 clear C2
 have C2 := n0_
 clear n0_
 have n0_ := Aside0.mk (blk_below C6.out hb)
 clear C6
 have C6 := n0_
 clear n0_
 have n0_ := Aside0.mk (blk_below C8.out hb)
 clear C8
 have C8 := n0_
 clear n0_
 have n0_ := Aside0.mk (blk_below C9.out hb)
 clear C9
 have C9 := n0_
 clear n0_
 have n0_ := Aside0.mk (Kd.S_below S2.out hb)
 clear S2
 have S2 := n0_
 clear n0_
 have n0_ := Aside0.mk (Kd.S_below S3.out hb)
 clear S3
 have S3 := n0_
 clear n0_
 have n0_ := Aside0.mk (Kd.S_below S4.out hb)
 clear S4
 have S4 := n0_
 clear n0_
 clear hb hs
 obtain ⟨Av5, cv5, ev5⟩ := Kd.S_slice S5.out
 subst ev5
 refine hK.out _ _ ⟨(blk_cell C8.out 0).trans rfl, (blk_cell C2.out 0).trans rfl⟩ (fun hHeld => ?_)
 clear hK K
 refine norm_ (a' := ?_) ?_ ?_
 rotate_left
 ·show Act.put _ (some 47) _ = _
  simp only [Act.put, List.setIfInBounds_toArray, List.set_cons_zero, List.set_cons_succ, i64_w, i32_w]
  rfl
 refine one_ (i := 3) (N := some 48) #[true, true, true, true, false] rfl rfl (by kernel_rfl) (by decide) (fun K hK => ?_)
 refine goes_ Try.func18 (by kernel_rfl) rfl #[.agg #[.slice Av3 p.length cv3], .agg #[.slice Av5 p.length cv5]] (by rfl) rfl rfl (by (try simp only [List.map_toArray, List.map_cons, List.map_nil]); first | done | rfl) ?_
 refine (laws_eqProgram.calls k Av3 cv3 p  Av5 cv5 p  true _ (Kd.S_reads' S3.out).2.2 (Kd.S_reads' S3.out).2.1 (Kd.S_reads' S5.out).2.2 (Kd.S_reads' S5.out).2.1 hEp).mono ?_
 rintro e w15 ⟨rfl, hb⟩
 refine ⟨_, rfl, ?_⟩
 have n0_ := Aside0.mk (below_step B.out hb)
 clear B
 have B := n0_
 clear n0_
 have n0_ := Aside0.mk (blk_below C2.out hb)
 clear C2
 have C2 := n0_
 clear n0_
 have n0_ := Aside0.mk (blk_below C6.out hb)
 clear C6
 have C6 := n0_
 clear n0_
 have n0_ := Aside0.mk (blk_below C8.out hb)
 clear C8
 have C8 := n0_
 clear n0_
 have n0_ := Aside0.mk (blk_below C9.out hb)
 clear C9
 have C9 := n0_
 clear n0_
 have n0_ := Aside0.mk (Kd.S_below S2.out hb)
 clear S2
 have S2 := n0_
 clear n0_
 have n0_ := Aside0.mk (Kd.S_below S3.out hb)
 clear S3
 have S3 := n0_
 clear n0_
 have n0_ := Aside0.mk (Kd.S_below S4.out hb)
 clear S4
 have S4 := n0_
 clear n0_
 clear hb S5
 refine hK.out _ _ ⟨(blk_cell C8.out 0).trans rfl, (blk_cell C2.out 0).trans rfl⟩ (fun hHeld => ?_)
 clear hK K
 refine norm_ (a' := ?_) ?_ ?_
 rotate_left
 ·show Act.put _ (some 48) _ = _
  simp only [Act.put, List.setIfInBounds_toArray, List.set_cons_zero, List.set_cons_succ, i64_w, i32_w]
  rfl
 refine pure_ (i := 4) (N := some 49) (v := ?_) (a' := ?_) #[true, true, true, true, true] rfl rfl (by kernel_rfl) (fun _ _ _ h => h) (Or.inl ⟨by rfl, ?_⟩) ?_ ?_
 rotate_left
 ·intro w'
  go_simp
  with_reducible rfl
 rotate_left
 ·simp only [Act.put, List.setIfInBounds_toArray, List.set_cons_zero, List.set_cons_succ, i64_w, i32_w]
  rfl
 refine done_ (by kernel_rfl) ?_
 have hc8_0 : w15.cell? ⟨g8, 0, none⟩ = some (.slice Av3 p.length cv3) := (blk_cell C8.out 0).trans rfl
 go_upto_region 14 with (first | (go_at_fn 19; refine (laws_markProgram.calls k (fun q => w6.heap.size ≤ q ∧ q < w7.heap.size) (.slice Av3 p.length cv3) p  1 m1 p' w _ B.out S3.out hM1).mono ?_; rintro e w16 ⟨rfl, hs, hb, hk⟩; clear B S3; have B := Aside0.mk hb; have n0_ := Aside0.mk (blk_kept C2.out hk (by have := LT.out; omega)); clear C2; have C2 := n0_; clear n0_; have n0_ := Aside0.mk (blk_kept C6.out hk (by have := LT.out; omega)); clear C6; have C6 := n0_; clear n0_; have n0_ := Aside0.mk (blk_kept C9.out hk (by have := LT.out; omega)); clear C9; have C9 := n0_; clear n0_; have n0_ := Aside0.mk (Kd.S_kept S2.out hk (fun q hq e_ => by have := LT.out; omega)); clear S2; have S2 := n0_; clear n0_; have n0_ := Aside0.mk (Kd.S_kept S4.out hk (fun q hq e_ => by have := LT.out; omega)); clear S4; have S4 := n0_; clear n0_; clear hs hb hk C8))
 clear hc8_0
 have hc9_0 : w16.cell? ⟨g9, 0, none⟩ = some (.slice Av4 b.length cv4) := (blk_cell C9.out 0).trans rfl
 have hc6_0 : w16.cell? ⟨g6, 0, none⟩ = some (.slice Av2 b.length cv2) := (blk_cell C6.out 0).trans rfl
 go_upto_region 16 with (first | (go_at_fn 18; refine (laws_eqProgram.calls k Av4 cv4 b  Av2 cv2 b  true _ (Kd.S_reads' S4.out).2.2 (Kd.S_reads' S4.out).2.1 (Kd.S_reads' S2.out).2.2 (Kd.S_reads' S2.out).2.1 hE).mono ?_; rintro e w17 ⟨rfl, hb⟩; have n0_ := Aside0.mk (below_step B.out hb); clear B; have B := n0_; clear n0_; have n0_ := Aside0.mk (blk_below C2.out hb); clear C2; have C2 := n0_; clear n0_; have n0_ := Aside0.mk (blk_below C6.out hb); clear C6; have C6 := n0_; clear n0_; have n0_ := Aside0.mk (blk_below C9.out hb); clear C9; have C9 := n0_; clear n0_; have n0_ := Aside0.mk (Kd.S_below S2.out hb); clear S2; have S2 := n0_; clear n0_; have n0_ := Aside0.mk (Kd.S_below S4.out hb); clear S4; have S4 := n0_; clear n0_; clear hb))
 clear hc9_0 hc6_0
 have hc9_0 : w17.cell? ⟨g9, 0, none⟩ = some (.slice Av4 b.length cv4) := (blk_cell C9.out 0).trans rfl
 go_upto_region 18 with (first | (go_at_fn 19; refine (laws_markProgram.calls k (fun q => w9.heap.size ≤ q ∧ q < w10.heap.size) (.slice Av4 b.length cv4) b  1 m2 b' w _ B.out S4.out hM2).mono ?_; rintro e w18 ⟨rfl, hs, hb, hk⟩; clear B S4; have B := Aside0.mk hb; have S4 := Aside0.mk hs; have n0_ := Aside0.mk (blk_kept C2.out hk (by have := LT.out; omega)); clear C2; have C2 := n0_; clear n0_; have n0_ := Aside0.mk (blk_kept C6.out hk (by have := LT.out; omega)); clear C6; have C6 := n0_; clear n0_; have n0_ := Aside0.mk (blk_kept C9.out hk (by have := LT.out; omega)); clear C9; have C9 := n0_; clear n0_; have n0_ := Aside0.mk (Kd.S_kept S2.out hk (fun q hq e_ => by have := LT.out; omega)); clear S2; have S2 := n0_; clear n0_; clear hs hb hk))
 clear hc9_0
 have hl := (Kd.S_reads' S4.out).1
 have hc9_0 : w18.cell? ⟨g9, 0, none⟩ = some (.slice Av4 b.length cv4) := (blk_cell C9.out 0).trans rfl
 have hheld := fun (W : World) (h : Kd.C (Kd.slice 72 k72) W Av4 b'.length b') (hc : b'.length ≤ cv4) => laws_heldProgram.calls k Av4 cv4 b'  1 m2 W h hc hH
 rw [← hl] at hheld
 have HL := Aside0.mk hl
 clear hl
 go_upto_region 24 with (first | (go_at_fn 50; refine (hheld _ (by rw [HL.out]; exact (Kd.S_reads' S4.out).2.2) (Kd.S_reads' S4.out).2.1).mono ?_; rintro e w19 ⟨rfl, hb⟩; have n0_ := Aside0.mk (below_step B.out hb); clear B; have B := n0_; clear n0_; have n0_ := Aside0.mk (blk_below C2.out hb); clear C2; have C2 := n0_; clear n0_; have n0_ := Aside0.mk (blk_below C6.out hb); clear C6; have C6 := n0_; clear n0_; have n0_ := Aside0.mk (blk_below C9.out hb); clear C9; have C9 := n0_; clear n0_; have n0_ := Aside0.mk (Kd.S_below S2.out hb); clear S2; have S2 := n0_; clear n0_; have n0_ := Aside0.mk (Kd.S_below S4.out hb); clear S4; have S4 := n0_; clear n0_; clear hb))
 clear hc9_0
 have hc2_0 : w19.cell? ⟨g2, 0, none⟩ = some (.slice A0 l0.length c0) := (blk_cell C2.out 0).trans rfl
 go_upto_region 25 with (first | (go_at_fn 15; refine (laws_toProgram.calls k A0 c0 l0 p _ (Kd.C_below HR.out B.out) hc0 hT).mono ?_; rintro e w20 ⟨v6, rfl, hs, hb⟩; have S6 := Aside0.mk (Made.new (Kd.S_mono hs (fun _ _ => trivial)) B.out.size); have Z6 := Aside0.mk hb.size; have n0_ := Aside0.mk (below_step B.out hb); clear B; have B := n0_; clear n0_; have n0_ := Aside0.mk (blk_below C2.out hb); clear C2; have C2 := n0_; clear n0_; have n0_ := Aside0.mk (blk_below C6.out hb); clear C6; have C6 := n0_; clear n0_; have n0_ := Aside0.mk (blk_below C9.out hb); clear C9; have C9 := n0_; clear n0_; have n0_ := Aside0.mk (Kd.S_below S2.out hb); clear S2; have S2 := n0_; clear n0_; have n0_ := Aside0.mk (Kd.S_below S4.out hb); clear S4; have S4 := n0_; clear n0_; clear hb hs; obtain ⟨Av6, cv6, ev6⟩ := Kd.S_slice S6.out; subst ev6) | (go_at_fn 58; refine (impl_ThrowingGuard.calls k Av6 cv6 p x1 b  o _ (Kd.S_reads' S6.out).2.2 (Kd.S_reads' S6.out).2.1 hI).mono ?_; rintro e w21 ⟨v7, rfl, hs, hb⟩; have S7 := Aside0.mk (Made.new (Kd.S_mono hs (fun _ _ => trivial)) B.out.size); have Z7 := Aside0.mk hb.size; have n0_ := Aside0.mk (below_step B.out hb); clear B; have B := n0_; clear n0_; have n0_ := Aside0.mk (blk_below C2.out hb); clear C2; have C2 := n0_; clear n0_; have n0_ := Aside0.mk (blk_below C6.out hb); clear C6; have C6 := n0_; clear n0_; have n0_ := Aside0.mk (blk_below C9.out hb); clear C9; have C9 := n0_; clear n0_; have n0_ := Aside0.mk (Kd.S_below S2.out hb); clear S2; have S2 := n0_; clear n0_; have n0_ := Aside0.mk (Kd.S_below S4.out hb); clear S4; have S4 := n0_; clear n0_; have n0_ := Aside0.mk (Kd.S_below S6.out hb); clear S6; have S6 := n0_; clear n0_; clear hb hs; obtain ⟨Av7, cv7, ev7⟩ := Kd.S_slice S7.out; subst ev7) | ((with_reducible refine gate_dst (N := 14) rfl ?_); refine box_event ?hg (N := 14) ?hd (cs := #[.slice none 0 0]) (t := 28) ?hr ?_; (case hd => rfl); (case hg => rfl); (case hr => first | (go_simp; done) | (go_simp; rfl)); intro g14 hg14 w22 hbox hb; have P6 := Aside0.mk (show g6 < g14 from by rw [hg14]; exact blk_lt C6.out); have P9 := Aside0.mk (show g9 < g14 from by rw [hg14]; exact blk_lt C9.out); have PB := Aside0.mk (show w.heap.size ≤ g14 from by rw [hg14]; exact B.out.size); have n0_ := Aside0.mk (below_step B.out hb); clear B; have B := n0_; clear n0_; have n0_ := Aside0.mk (blk_below C2.out hb); clear C2; have C2 := n0_; clear n0_; have n0_ := Aside0.mk (blk_below C6.out hb); clear C6; have C6 := n0_; clear n0_; have n0_ := Aside0.mk (blk_below C9.out hb); clear C9; have C9 := n0_; clear n0_; have n0_ := Aside0.mk (Kd.S_below S2.out hb); clear S2; have S2 := n0_; clear n0_; have n0_ := Aside0.mk (Kd.S_below S4.out hb); clear S4; have S4 := n0_; clear n0_; have n0_ := Aside0.mk (Kd.S_below S7.out hb); clear S7; have S7 := n0_; clear n0_; have C14 := Aside0.mk hbox; have G14 := Aside0.mk hg14; clear hb hbox hg14; have hc14_0 : w22.cell? ⟨g14, 0, none⟩ = some (.slice none 0 0) := (blk_cell C14.out 0).trans rfl; have hf14_0 := blk_frozen C14.out 0))
 clear C2 S6 Z6 hc2_0
 obtain ⟨w23, hw23⟩ : ∃ w23, w23 = (w22.setCell ⟨g14, 0, none⟩ (.slice Av7 b.length cv7)) := ⟨_, rfl⟩
 rw [← hw23]
 have K14 : Kept w22 w23 (fun q => q = g14) := by
  rw [hw23]
  exact Kept.setCell (S := fun q => q = g14) (p := ⟨g14, 0, none⟩) (Kept.refl w22 (fun q => q = g14)) (.inl rfl) (.slice Av7 b.length cv7)
 have Bn := Aside0.mk (show Below w.heap.size w w23 from by rw [hw23]; exact below_set B.out (PB.out))
 have Cn := Aside0.mk (show w23.heap[g14]? = some (.cells #[.slice Av7 b.length cv7] 28 (0, 0)) from by
  rw [hw23]
  have p0 : (w22.setCell ⟨g14, 0, none⟩ (.slice Av7 b.length cv7)).heap[g14]? = some (.cells #[.slice Av7 b.length cv7] 28 (0, 0)) := blk_put C14.out 0 (.slice Av7 b.length cv7) rfl
  exact p0)
 clear B C14
 have B := Bn
 have C14 := Cn
 clear Bn Cn
 have n0_ := Aside0.mk (blk_kept C6.out K14 (by have := LT.out; have := P6.out; have := P9.out; have := G14.out; omega)); clear C6; have C6 := n0_; clear n0_; have n0_ := Aside0.mk (blk_kept C9.out K14 (by have := LT.out; have := P6.out; have := P9.out; have := G14.out; omega)); clear C9; have C9 := n0_; clear n0_; have n0_ := Aside0.mk (Kd.S_kept S2.out K14 (fun q hq e_ => by have := LT.out; have := P6.out; have := P9.out; have := G14.out; omega)); clear S2; have S2 := n0_; clear n0_; have n0_ := Aside0.mk (Kd.S_kept S4.out K14 (fun q hq e_ => by have := LT.out; have := P6.out; have := P9.out; have := G14.out; omega)); clear S4; have S4 := n0_; clear n0_; have n0_ := Aside0.mk (Kd.S_kept S7.out K14 (fun q hq e_ => by have := LT.out; have := P6.out; have := P9.out; have := G14.out; omega)); clear S7; have S7 := n0_; clear n0_
 clear hw23 K14 hc14_0 hf14_0
 have hc14_0 : w23.cell? ⟨g14, 0, none⟩ = some (.slice Av7 b.length cv7) := (blk_cell C14.out 0).trans rfl
 have hc6_0 : w23.cell? ⟨g6, 0, none⟩ = some (.slice Av2 b.length cv2) := (blk_cell C6.out 0).trans rfl
 go_upto_region 27 with (first | (go_at_fn 18; refine (laws_eqProgram.calls k Av7 cv7 b  Av2 cv2 b  true _ (Kd.S_reads' S7.out).2.2 (Kd.S_reads' S7.out).2.1 (Kd.S_reads' S2.out).2.2 (Kd.S_reads' S2.out).2.1 hE).mono ?_; rintro e w24 ⟨rfl, hb⟩; have n0_ := Aside0.mk (below_step B.out hb); clear B; have B := n0_; clear n0_; have n0_ := Aside0.mk (blk_below C9.out hb); clear C9; have C9 := n0_; clear n0_; have n0_ := Aside0.mk (Kd.S_below S4.out hb); clear S4; have S4 := n0_; clear n0_; clear hb))
 clear hc14_0 hc6_0
 have hc9_0 : w24.cell? ⟨g9, 0, none⟩ = some (.slice Av4 b.length cv4) := (blk_cell C9.out 0).trans rfl
 go_wp2_with (first | (go_at_fn 50; refine (hheld _ (by rw [HL.out]; exact (Kd.S_reads' S4.out).2.2) (Kd.S_reads' S4.out).2.1).mono ?_; rintro e w25 ⟨rfl, hb⟩; have n0_ := Aside0.mk (below_step B.out hb); clear B; have B := n0_; clear n0_; clear hb))
 go_ret
 exact ⟨rfl, B.out⟩
end Go.Proofs.Ythdhhpcbagpmgaa.Pr
end

section
set_option linter.unusedVariables false
set_option linter.unusedSimpArgs false
namespace Go.Proofs.Ythdhhpcbagpmgaa.PureL
open Go.RowKit Go.Proofs.Ythdhhpcbagpmgaa.Pr Go.Proofs.YthdhhpcbagpmgaaW.PrintWords Go.Proofs.YthdhhpcbagpmgaaW.PrintLast
def guardOf (p : List (List S72)) (f : Int) (body : List S72) : Option (List (List S72) × Bool) :=
 if progOk p = true ∧ (0 ≤ f ∧ f ≤ (p.length : Int) - 1) ∧ p.length ≠ 6 then impl_PutStep.f (p ++ [body]) f 0 5 p.length 0 else some ([], false)
theorem iguard_eq (p : List (List S72)) (f : Int) (body : List S72) (k : Nat) (hk : 1048577 < k) : impl_guarded.f (k + 1) p f body = guardOf p f body := by
 unfold impl_guarded.f guardOf
 rw [isFunction_eq, Option.bind_some]
 cases hP : progOk p with
 | false => simp [impl_guarded.j0]
 | true =>
  obtain ⟨hl1, hl6, hbs⟩ := progOk_len hP
  by_cases hf : 0 ≤ f ∧ f ≤ (p.length : Int) - 1
  ·rw [decide_eq_true hf, Bool.and_self, if_pos rfl, impl_guarded.j0]
   by_cases h6 : p.length = 6
   ·rw [if_pos (by rw [h6]; rfl), if_neg (fun h => h.2.2 h6)]
   ·have : ¬ (((p.length : Int) == 6) = true) := by rw [beq_iff_eq]; omega
    rw [if_neg this, copied_ok p (by omega) (fun b hb => by have := (hbs b hb).1; omega) k hk, Option.bind_some, if_pos (by omega), if_pos ⟨rfl, hf, h6⟩, impl_WithDefer.f]
    cases impl_PutStep.f (p ++ [body]) f 0 5 p.length 0 <;> rfl
  ·rw [decide_eq_false hf, Bool.and_false, if_neg (by decide), impl_guarded.j0, if_pos rfl, if_neg (fun h => hf h.2.1)]
theorem sguard_eq (p : List (List S72)) (f : Int) (tail : List S72) (ht : tail.length ≤ 10) (k : Nat) (hk : 1048577 < k) : spec_l5Guard.f (k + 1) p f tail = guardOf p f (⟨7, 0, 0⟩ :: tail) := by
 unfold spec_l5Guard.f guardOf
 rw [program_ok p (k + 1) (by omega), Option.bind_some]
 cases hP : progOk p with
 | false => simp [spec_l5Guard.j0]
 | true =>
  obtain ⟨hl1, hl6, hbs⟩ := progOk_len hP
  rw [if_pos rfl]
  unfold spec_l2Function.f
  rw [wrap_in (by omega) (by omega), sin_eq, Option.bind_some, Option.bind_some]
  by_cases hf : 0 ≤ f ∧ f ≤ (p.length : Int) - 1
  ·rw [decide_eq_true hf, if_pos rfl, spec_l5Guard.j0]
   by_cases h6 : p.length = 6
   ·rw [if_pos (by rw [h6]; rfl), if_neg (fun h => h.2.2 h6)]
   ·have : ¬ (((p.length : Int) == 6) = true) := by rw [beq_iff_eq]; omega
    rw [if_neg this, own_ok p (by omega) (fun b hb => by have := (hbs b hb).1; omega) k hk, Option.bind_some, Option.bind_some, if_pos (by simp; omega), if_pos (by omega), if_pos ⟨rfl, hf, h6⟩]
    have hw := (withDefer_eq (p ++ [⟨7, 0, 0⟩ :: tail]) f p.length 0 k hk (by rw [List.length_append]; simp; omega)).1
    show ((spec_WithDefer.f k (p ++ [⟨7, 0, 0⟩ :: tail]) f (p.length : Int) 0).bind fun bt => some (bt.1, bt.2)) = _
    rw [hw]
    cases impl_PutStep.f (p ++ [⟨7, 0, 0⟩ :: tail]) f 0 5 p.length 0 <;> rfl
  ·rw [decide_eq_false hf, if_neg (by decide), spec_l5Guard.j0, if_pos rfl, if_neg (fun h => hf h.2.1)]
theorem guardOf_small (p : List (List S72)) (f : Int) (body : List S72) (r : List (List S72)) (o : Bool) (h : guardOf p f body = some (r, o)) : r.length ≤ 6 ∧ ∀ b ∈ r, b.length ≤ 9 := by
 unfold guardOf at h
 split at h
 ·exact putStep_small _ _ _ _ _ _ r o h
 ·obtain ⟨rfl, rfl⟩ := Prod.mk.inj (Option.some.inj h)
  exact ⟨by decide, fun c hc => by cases hc⟩
theorem guardOf_some (p : List (List S72)) (f : Int) (body : List S72) : ∃ R, guardOf p f body = some R := by
 unfold guardOf
 split
 ·exact ⟨_, rfl⟩
 ·exact ⟨_, rfl⟩
theorem bind_pair {x : Option (List (List S72) × Bool)} {R : List (List S72) × Bool} (h : x = some R) : (x.bind fun b => some (b.1, b.2)) = some R := by rw [h]; rfl
theorem FnExactThrowingGuard (A0 : Option Addr) (c0 : Nat) (l0 : List (List S69)) (x1 : Int) (w : World) (hr0 : Kd.C (Kd.slice 69 k69) w A0 l0.length l0) (hc0 : l0.length ≤ c0) (hb : ∀ b ∈ l0, b.length ≤ 9223372036854775807) (hl : l0.length ≤ 9223372036854775807) :
  Calls Try.prog 10 #[.agg #[.slice A0 l0.length c0], .int .i64 x1] w fun e w' => e = .returned (.bool true) ∧ Below w.heap.size w w' := by
 obtain ⟨sz, k, hk, h1, h2⟩ := prog_facts l0 hb hl
 by_cases h0 : sz < 0
 ·exact throwingGuard_big k A0 c0 l0 x1 w hr0 hc0 sz h1 h0
 ·obtain ⟨hT, hEp, hM, hpl, hpb⟩ := h2 (by omega)
  obtain ⟨k, rfl⟩ : ∃ z, k = z + 1 := ⟨k - 1, by omega⟩
  obtain ⟨⟨b, o⟩, hR⟩ := guardOf_some (toP l0) x1 [⟨7, 0, 0⟩, ⟨11, 3, 3⟩, ⟨8, 0, 0⟩, ⟨6, 0, 0⟩]
  have hsm := guardOf_small _ _ _ b o hR
  have n1 : spec_ThrowingGuard.f (k + 1) (toP l0) x1 = some (b, o) := bind_pair ((sguard_eq (toP l0) x1 [⟨11, 3, 3⟩, ⟨8, 0, 0⟩, ⟨6, 0, 0⟩] (by decide) k (by omega)).trans hR)
  have n2 : impl_ThrowingGuard.f (k + 1) (toP l0) x1 = some (b, o) := bind_pair ((iguard_eq (toP l0) x1 [⟨7, 0, 0⟩, ⟨11, 3, 3⟩, ⟨8, 0, 0⟩, ⟨6, 0, 0⟩] k (by omega)).trans hR)
  obtain ⟨hE, hM2, hH⟩ := small_facts b (by omega) (fun x hx => by have := hsm.2 x hx; omega) (k + 1) hk
  exact throwingGuard_walk (k + 1) A0 c0 l0 x1 w hr0 hc0 sz (toP l0) b o _ _ _ _ h1 (by omega) hT n1 n2 hE hEp hM (by omega) hM2 hH (by omega)
end Go.Proofs.Ythdhhpcbagpmgaa.PureL
end

section
namespace Go.Proofs.Ythdhhpcbagpmgaa.PureL
open Go.RowKit Go.Proofs.Ythdhhpcbagpmgaa.Pr Go.Proofs.YthdhhpcbagpmgaaW.PrintWords Go.Proofs.YthdhhpcbagpmgaaW.PrintLast Go.ChangeShapes Go.WideShapes
set_option linter.unusedVariables false
set_option linter.unusedSimpArgs false
section
variable {H : Type} {enc : TypeId × Value → H} {w : World} {base : Nat} {spare : Nat → Bool} {held : Bool}
def Opens {α : Type} (enc : TypeId × Value → H) (w : World) (base : Nat) (spare : Nat → Bool) (held : Bool) (d : Kd α) (t : TypeId) (good : α → Prop) : Prop :=
 ∀ (fuel : Nat) (cs : List Value) (x : DataW H × List MemPlace), DataW.trod enc Try.prog w base spare held fuel t cs = some x → ∃ y, d.K w y cs ∧ good y
theorem opens_slice {α : Type} {d : Kd α} {t e : TypeId} {good : α → Prop} (ht : Try.prog.underlying t = some (.slice e)) (hc : Try.prog.cellsOf e = d.sz) (h : Opens enc w base spare held d e good) :
  Opens enc w base spare held (Kd.slice e d) t (fun l => l.length ≤ maxLen ∧ ∀ y ∈ l, good y) := by
 intro fuel cs x hx
 rcases DataW.trod_slice ht hx with ⟨rfl, _⟩ | ⟨a, len, cap, elems, rest, n, _, rfl, _, hb, hl, hm, hlen, hel, _, _⟩
 ·exact ⟨[], ⟨none, 0, rfl, Nat.le_refl _, rfl, by simp, fun h => absurd h (by simp)⟩, by simp, by simp⟩
 ·have each : ∀ i, i < len → ∃ y, (∃ c, c.length = d.sz ∧ d.K w y c ∧ ∀ q u, c[q]? = some u → w.cell? (a.add (i * d.sz + q)) = some u) ∧ good y := by
   intro i hi
   have he := hel i hi
   rw [List.getElem?_eq_getElem (by omega), Option.bind_eq_some_iff] at he
   obtain ⟨c, hcs, hy⟩ := he
   obtain ⟨y, hK, hg⟩ := h n c _ hy
   obtain ⟨_, hcl, hcell⟩ := World.cells?_some hcs
   rw [hc] at hcl hcell
   refine ⟨y, ⟨c, hcl, hK, fun q u hq => ?_⟩, hg⟩
   have hq' : q < c.length := (List.getElem?_eq_some_iff.1 hq).1
   have := hcell q (by omega)
   rw [hq, Addr.add_add] at this
   exact this
  have build : ∀ m, m ≤ len → ∃ l : List α, l.length = m ∧ (∀ j p, l[j]? = some p → ∃ c, c.length = d.sz ∧ d.K w p c ∧ ∀ q u, c[q]? = some u → w.cell? (a.add (j * d.sz + q)) = some u) ∧ ∀ y ∈ l, good y := by
   intro m
   induction m with
   | zero => intro _; exact ⟨[], rfl, fun j p h => by simp at h, by simp⟩
   | succ m ih =>
    intro hm
    obtain ⟨l, h1, h2, h3⟩ := ih (by omega)
    obtain ⟨y, hy, hg⟩ := each m (by omega)
    refine ⟨l ++ [y], by simp [h1], fun j p hp => ?_, fun z hz => ?_⟩
    ·by_cases hj : j < l.length
     ·rw [List.getElem?_append_left hj] at hp; exact h2 j p hp
     ·have hj2 : j < (l ++ [y]).length := (List.getElem?_eq_some_iff.1 hp).1
      have hjm : j = m := by simp only [List.length_append, List.length_singleton] at hj2; omega
      subst hjm
      rw [List.getElem?_append_right (by omega), h1, Nat.sub_self] at hp
      simp only [List.getElem?_cons_zero, Option.some.injEq] at hp
      subst hp
      exact hy
    ·rcases List.mem_append.1 hz with hz | hz
     ·exact h3 z hz
     ·rw [List.mem_singleton] at hz; subst hz; exact hg
  obtain ⟨l, h1, h2, h3⟩ := build len (Nat.le_refl _)
  have hmx : maxLen ≤ 9223372036854775807 := by simp only [maxLen]; decide
  refine ⟨l, ⟨some a, cap, by rw [h1], by omega, h1 ▸ rfl, by omega, fun _ => ⟨a, rfl, h2⟩⟩, by omega, h3⟩
set_option maxRecDepth 100000 in
theorem opens_step : Opens enc w base spare held k69 69 (fun s => (Lit.int .i64 s.f0).wf = true ∧ (Lit.int .i64 s.f1).wf = true ∧ (Lit.int .i64 s.f2).wf = true) := by
 intro fuel cs x hx
 obtain ⟨xs, n, _, _, hl, hlen, hf⟩ := DataW.trod_struct Try.underlying69 hx
 have hcl : cs.length = 3 := hl.trans (by kernel_rfl)
 have h3 : Try.prog.cellsOf 3 = 1 := by kernel_rfl
 have h0 := hf 0 { name := "Kind", type := 3, offset := 0, embedded := false, tag := "", pkgPath := "", byteOffset := 0 } rfl
 have h1 := hf 1 { name := "A", type := 3, offset := 1, embedded := false, tag := "", pkgPath := "", byteOffset := 8 } rfl
 have h2 := hf 2 { name := "B", type := 3, offset := 2, embedded := false, tag := "", pkgPath := "", byteOffset := 16 } rfl
 have hx3 : xs.length = 3 := hlen
 match cs, hcl with
 | [c0, c1, c2], _ =>
  dsimp only at h0 h1 h2
  rw [h3] at h0 h1 h2
  rw [List.getElem?_eq_getElem (by omega)] at h0 h1 h2
  obtain ⟨n0, e0, _, w0⟩ := DataW.trod_int Try.underlying3 h0
  obtain ⟨n1, e1, _, w1⟩ := DataW.trod_int Try.underlying3 h1
  obtain ⟨n2, e2, _, w2⟩ := DataW.trod_int Try.underlying3 h2
  simp at e0 e1 e2
  subst e0 e1 e2
  exact ⟨⟨n0, n1, n2⟩, k69_mk w ⟨n0, n1, n2⟩, w0, w1, w2⟩
theorem opens_body : Opens enc w base spare held (Kd.slice 69 k69) 138 (fun l => l.length ≤ maxLen ∧ ∀ s ∈ l, (Lit.int .i64 s.f0).wf = true ∧ (Lit.int .i64 s.f1).wf = true ∧ (Lit.int .i64 s.f2).wf = true) :=
 opens_slice Try.underlying138 (by kernel_rfl) opens_step
theorem opens_bodies : Opens enc w base spare held (Kd.slice 138 (Kd.slice 69 k69)) 22 (fun l => l.length ≤ maxLen ∧ ∀ b ∈ l, b.length ≤ maxLen ∧ ∀ s ∈ b, (Lit.int .i64 s.f0).wf = true ∧ (Lit.int .i64 s.f1).wf = true ∧ (Lit.int .i64 s.f2).wf = true) :=
 opens_slice Try.underlying22 (by kernel_rfl) opens_body
set_option maxRecDepth 100000 in
theorem open_program {fuel : Nat} {cs : List Value} {x : DataW H × List MemPlace} (h : DataW.trod enc Try.prog w base spare held fuel 24 cs = some x) :
  ∃ (l : List (List S69)) (A : Option Addr) (c : Nat), cs = [.slice A l.length c] ∧ l.length ≤ c ∧ Kd.C (Kd.slice 69 k69) w A l.length l ∧ l.length ≤ maxLen ∧ ∀ b ∈ l, b.length ≤ maxLen ∧ ∀ s ∈ b, (Lit.int .i64 s.f0).wf = true ∧ (Lit.int .i64 s.f1).wf = true ∧ (Lit.int .i64 s.f2).wf = true := by
 obtain ⟨y0, n, _, hl, hy⟩ := trod_struct1 Try.underlying24 h
 have hcl : cs.length = 1 := hl.trans (by kernel_rfl)
 have h22 : Try.prog.cellsOf 22 = 1 := by kernel_rfl
 match cs, hcl with
 | [v], _ =>
  rw [h22] at hy
  obtain ⟨l, ⟨A, c, e, hc, hC⟩, hg⟩ := opens_bodies n _ _ hy
  simp at e
  subst e
  exact ⟨l, A, c, rfl, hc, hC, hg⟩
end
end Go.Proofs.Ythdhhpcbagpmgaa.PureL
end
