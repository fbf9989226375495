-- texts of this session, and of the kit's print, cut to what the claim leans on
import Derived.Test.YtgclcjohnnpejaaDoorProg
import Derived.Below
import Derived.Deep.Draws
import Derived.Deep.AppendLies
import Derived.Maps.AppendAt
import Derived.OwnWalk
import Derived.Laws.BytesArg
import Derived.Laws.MakeOwn
import Derived.Laws.OwnMore
import Derived.Deep.OwnRows
import Derived.Tactics
import Derived.Lib.ConvBytes
import Derived.Laws.Slices
import Derived.WalkKit
import Derived.KernelRfl
import Derived.RowKit3
import Derived.Deep.LoopGhost
import Derived.Deep.QuietTactic
import Derived.BigQuiet
import Derived.WideLaws
import Derived.Deep.DeepCutAuto
import Derived.Deep.CutBlock
import Derived.Deep.RegionHeld3
import Derived.Laws.Rows
import Derived.Lib.AppendStr
import Derived.ArgAppend
import Derived.Laws.IdiomCopy
import Derived.OrdersHeld
import Derived.Laws.BitsLemmas
import Derived.RowKit
import Derived.Test.YtgclcjohnnpejaaDoorMj1
import Derived.Test.YtgclcjohnnpejaaDoorMj3
import Derived.Test.YtgclcjohnnpejaaDoorMj2
import Derived.Lib.Zigzag
import Derived.Lib.VarintBits
section
namespace Go.Proofs.YtgclcjohnnpejaaDoor.Pt
open Go.RowKit Go.Proofs.YtgclcjohnnpejaaDoorW.PrintWords Go.Proofs.YtgclcjohnnpejaaDoorW.PrintLast Go.Proofs.YtgclcjohnnpejaaDoorW.PrintMore
attribute [local go_sem] max2_int min2_int max_two min_two max_three min_three max_four min_four
set_option linter.unusedVariables false
set_option linter.unusedSimpArgs false
def errW : Option Int → Value
  | none => .nilIface
  | some c => .iface 0 (.int .i64 c)
theorem errW_none : errW none = .nilIface := rfl
theorem errW_some (c : Int) : errW (some c) = .iface 0 (.int .i64 c) := rfl
theorem info5 : (Tryd.prog.info? 5).map (fun i => (i.zero, i.size, i.bytes)) = some (some (.int .u8 0), 1, 1) := by kernel_rfl
theorem info9 : (Tryd.prog.info? 9).map (fun i => (i.zero, i.size, i.bytes)) = some (some (.string ⟨#[]⟩), 1, 16) := by kernel_rfl
end Go.Proofs.YtgclcjohnnpejaaDoor.Pt
end

section
namespace Go.Proofs.YtgclcjohnnpejaaDoor.Pt
open Go.RowKit Go.Proofs.YtgclcjohnnpejaaDoorW.PrintWords Go.Proofs.YtgclcjohnnpejaaDoorW.PrintLast Go.Proofs.YtgclcjohnnpejaaDoorW.PrintMore
attribute [local go_sem] max2_int min2_int max_two min_two max_three min_three max_four min_four
set_option linter.unusedVariables false
set_option linter.unusedSimpArgs false
theorem z1_0 {P : Prop} (h : P := by repeat (first | (with_reducible first | exact HK.out | apply KeepBut.set_ | apply keep_drewN | apply keep_drew | apply keep_alloc) | exact HK.out)) : P := h
theorem z1_1 {P : Prop} (h : P := by repeat (first | (with_reducible first | exact HI0.out | apply IsS83.alloc | apply IsS83.drewN | apply IsS83.drew | apply IsS83.set_1 | apply IsS83.set_2) | exact HI0.out)) : P := h
theorem z1_2 {P : Prop} (h : P := by repeat (first | (with_reducible first | exact HB.out | apply below_alloc | apply pw_below_drewN | apply below_drew1 | refine below_set ?_ (IsS83.ge HI0.out)) | exact HB.out)) : P := h
theorem z1_3 {P : Prop} (h : P := by first | rfl | (simp [errW_none, errW_some] <;> rfl) | (simp [*, errW_none, errW_some] <;> rfl)) : P := h
theorem z1_4 {P : Prop} (h : P := by (try simp only [List.map_toArray, List.map_cons, List.map_nil]); first | done | rfl | (simp only [List.length_drop, List.length_take]; rfl)) : P := h
theorem z1_5 {P : Prop} (h : P := by first | (with_reducible assumption) | assumption) : P := h
def laws_vBig.f (l0 : List Int) : Option (Bool) := some (decide ((l0.length : Int) > 65536))
set_option maxHeartbeats 8000000 in
set_option maxRecDepth 100000 in
theorem laws_vBig.calls (A0 : Option Addr) (c0 : Nat) (l0 : List Int) (r : Bool) (w : World) (hr0 : Kd.C (Kd.int .u8) w A0 l0.length l0) (hc0 : l0.length ≤ c0) (h : laws_vBig.f l0 = some r) :
    Calls Tryd.prog 14 #[.slice A0 l0.length c0] w fun e w' => e = .returned (.bool r) ∧ Drawn0 w w' := by
  have HR0 := Aside0.mk hr0
  have HC0 := Aside0.mk hc0
  clear hr0 hc0
  have H : (some (decide ((l0.length : Int) > 65536))) = some r := h
  clear h
  obtain rfl := Option.some.inj H
  go_enter Tryd.func14, Tryd.ntmps14
  go_wp2
  go_ret
  exact ⟨by first | rfl | (simp; done) | (simp [*]; done), by repeat (first | exact Drawn0.refl _ | apply Drawn0.step)⟩
def IsS83 (w0 W : World) (g : Nat) (f0 : List Int) (f1 : Int) (f2 : Int) : Prop := ∃ A0 c0, W.heap[g]? = some (.cells #[.slice A0 f0.length c0, .int .i64 f1, .int .u64 f2] 83 (0, 0)) ∧ w0.heap.size ≤ g ∧ Kd.C (Kd.int .u8) w0 A0 f0.length f0
theorem IsS83.grown {w0 W : World} {g : Nat} {f0 : List Int} {f1 : Int} {f2 : Int} {W1 : World} {row : Option Nat} (h : IsS83 w0 W g f0 f1 f2) (hw : W.grownBy W1 row) (hne : some g ≠ row) : IsS83 w0 W1 g f0 f1 f2 := by
  obtain ⟨A0, c0, hb, hg, hr0⟩ := h
  exact ⟨A0, c0, blk_grown hb hw hne, hg, hr0⟩
theorem IsS83.fresh {w0 W : World} {g : Nat} {f0 : List Int} {f1 : Int} {f2 : Int} (h : IsS83 w0 W g f0 f1 f2) : ∀ k, W.heap.size ≤ k → k ≠ g := by
  obtain ⟨A0, c0, hb, hg, hr0⟩ := h
  exact Kd.freshB hb
theorem IsS83.kept {w0 W : World} {g : Nat} {f0 : List Int} {f1 : Int} {f2 : Int} {W1 : World} {S : Nat → Prop} (h : IsS83 w0 W g f0 f1 f2) (hk : Kept W W1 S) (hne : ¬ S g) : IsS83 w0 W1 g f0 f1 f2 := by
  obtain ⟨A0, c0, hb, hg, hr0⟩ := h
  exact ⟨A0, c0, blk_kept hb hk hne, hg, hr0⟩
theorem IsS83.below {w0 W : World} {g : Nat} {f0 : List Int} {f1 : Int} {f2 : Int} {W1 : World} (h : IsS83 w0 W g f0 f1 f2) (hw : Below W.heap.size W W1) : IsS83 w0 W1 g f0 f1 f2 := h.grown (grown_of_below hw none) (by simp)
theorem IsS83.alloc {w0 W : World} {g : Nat} {f0 : List Int} {f1 : Int} {f2 : Int} (h : IsS83 w0 W g f0 f1 f2) (o : Obj) : IsS83 w0 (W.alloc o) g f0 f1 f2 := h.below (below_alloc (Below.refl _ _) o)
theorem IsS83.drewN {w0 W : World} {g : Nat} {f0 : List Int} {f1 : Int} {f2 : Int} (h : IsS83 w0 W g f0 f1 f2) (m : Nat) : IsS83 w0 (W.drewN m) g f0 f1 f2 := h
theorem IsS83.drew {w0 W : World} {g : Nat} {f0 : List Int} {f1 : Int} {f2 : Int} (h : IsS83 w0 W g f0 f1 f2) : IsS83 w0 W.drew g f0 f1 f2 := h
theorem IsS83.apart {w0 W : World} {g : Nat} {f0 : List Int} {f1 : Int} {f2 : Int} {α : Type} {d : Kd α} {e : Nat} {base : Nat} {ok : Nat → Prop} {v : Value} {xs : List α} (h : IsS83 w0 W g f0 f1 f2) (ho : d.R e W base ok v xs) (ht : ∀ q, q ∈ e :: d.E → q ≠ 83) : d.R e W base (fun k => ok k ∧ k ≠ g) v xs := by
  obtain ⟨A0, c0, hb, hg, hr0⟩ := h
  exact Kd.R_types ho hb ht
theorem IsS83.own_ne {w0 W : World} {g : Nat} {f0 : List Int} {f1 : Int} {f2 : Int} {α : Type} {d : Kd α} {e : Nat} {base : Nat} {ok : Nat → Prop} {v : Value} {xs : List α} (h : IsS83 w0 W g f0 f1 f2) (ho : d.R e W base ok v xs) (ht : e ≠ 83) : some g ≠ v.ownBlock := by
  obtain ⟨A0, c0, hb, hg, hr0⟩ := h
  exact Kd.R_ne ho hb ht
theorem IsS83.ge {w0 W : World} {g : Nat} {f0 : List Int} {f1 : Int} {f2 : Int} (h : IsS83 w0 W g f0 f1 f2) : w0.heap.size ≤ g := by
  obtain ⟨A0, c0, hb, hg, hr0⟩ := h
  exact hg
theorem cellS83_0 {W : World} {g : Nat} {A0 : Option Addr} {c0 : Nat} {f0 : List Int} {f1 : Int} {f2 : Int} (h : W.heap[g]? = some (.cells #[.slice A0 f0.length c0, .int .i64 f1, .int .u64 f2] 83 (0, 0))) : W.cell? ⟨g, 0, none⟩ = some (.slice A0 f0.length c0) := (blk_cell h 0).trans rfl
theorem cellS83_1 {W : World} {g : Nat} {A0 : Option Addr} {c0 : Nat} {f0 : List Int} {f1 : Int} {f2 : Int} (h : W.heap[g]? = some (.cells #[.slice A0 f0.length c0, .int .i64 f1, .int .u64 f2] 83 (0, 0))) : W.cell? ⟨g, 1, none⟩ = some (.int .i64 f1) := (blk_cell h 1).trans rfl
theorem IsS83.set_1 {w0 W : World} {g : Nat} {f0 : List Int} {f1 : Int} {f2 : Int} (h : IsS83 w0 W g f0 f1 f2) (x : Int) : IsS83 w0 (W.setCell ⟨g, 1, none⟩ (.int .i64 x)) g f0 x f2 := by
  obtain ⟨A0, c0, hb, hg, hr0⟩ := h
  exact ⟨A0, c0, by simpa using blk_set hb 1 (.int .i64 x), hg, hr0⟩
theorem cellS83_2 {W : World} {g : Nat} {A0 : Option Addr} {c0 : Nat} {f0 : List Int} {f1 : Int} {f2 : Int} (h : W.heap[g]? = some (.cells #[.slice A0 f0.length c0, .int .i64 f1, .int .u64 f2] 83 (0, 0))) : W.cell? ⟨g, 2, none⟩ = some (.int .u64 f2) := (blk_cell h 2).trans rfl
theorem IsS83.set_2 {w0 W : World} {g : Nat} {f0 : List Int} {f1 : Int} {f2 : Int} (h : IsS83 w0 W g f0 f1 f2) (x : Int) : IsS83 w0 (W.setCell ⟨g, 2, none⟩ (.int .u64 x)) g f0 f1 x := by
  obtain ⟨A0, c0, hb, hg, hr0⟩ := h
  exact ⟨A0, c0, by simpa using blk_set hb 2 (.int .u64 x), hg, hr0⟩
def spec_l1Cur_next.f (s0_0 : List Int) (s0_1 : Int) (s0_2 : Int) : Option (Int × Int × Int) := if s0_1 < (s0_0.length : Int) then (if 0 ≤ s0_1 then (if (wrap64 (s0_1 + 1)) ≤ (s0_0.length : Int) then (some (wrap64 (rd s0_0 s0_1), wrap64 (s0_1 + 1), IntKind.u64.wrap ((IntKind.u64.wrap ((IntKind.u64.wrap (s0_2 * 6364136223846793005)) + (IntKind.u64.wrap (wrap64 (rd s0_0 s0_1))))) + 462197))) else (some (wrap64 (Go.bits .and .u64 ((IntKind.u64.wrap ((IntKind.u64.wrap ((IntKind.u64.wrap (s0_2 * 6364136223846793005)) + (IntKind.u64.wrap (wrap64 (rd s0_0 s0_1))))) + 462197)) / 1099511627776) 255), wrap64 (s0_1 + 1), IntKind.u64.wrap ((IntKind.u64.wrap ((IntKind.u64.wrap (s0_2 * 6364136223846793005)) + (IntKind.u64.wrap (wrap64 (rd s0_0 s0_1))))) + 462197)))) else (none)) else (if (wrap64 (s0_1 + 1)) ≤ (s0_0.length : Int) then (some (0, wrap64 (s0_1 + 1), IntKind.u64.wrap ((IntKind.u64.wrap ((IntKind.u64.wrap (s0_2 * 6364136223846793005)))) + 462197))) else (some (wrap64 (Go.bits .and .u64 ((IntKind.u64.wrap ((IntKind.u64.wrap ((IntKind.u64.wrap (s0_2 * 6364136223846793005)))) + 462197)) / 1099511627776) 255), wrap64 (s0_1 + 1), IntKind.u64.wrap ((IntKind.u64.wrap ((IntKind.u64.wrap (s0_2 * 6364136223846793005)))) + 462197))))
set_option maxHeartbeats 8000000 in
set_option maxRecDepth 100000 in
theorem spec_l1Cur_next.calls (g : Nat) (s0_0 : List Int) (s0_1 : Int) (s0_2 : Int) (r1 : Int) (r2 : Int) (r3 : Int) (w0 w : World) (hI : IsS83 w0 w g s0_0 s0_1 s0_2) (hB : Below w0.heap.size w0 w) (h : spec_l1Cur_next.f s0_0 s0_1 s0_2 = some (r1, r2, r3)) :
    Calls Tryd.prog 99 #[.pointer (some ⟨g, 0, none⟩)] w fun e w' => e = .returned (.int .i64 r1) ∧ IsS83 w0 w' g s0_0 r2 r3 ∧ Below w0.heap.size w0 w' ∧ KeepBut w w' g none := by
  have HI0 := Aside0.mk hI
  have HK := Aside0.mk (KeepBut.refl w g none)
  have HL := Aside0.mk hB.size
  clear hI
  have HW0 := Aside0.mk hB.size
  have HB := Aside0.mk hB
  clear hB
  have H : (if s0_1 < (s0_0.length : Int) then (if 0 ≤ s0_1 then (if (wrap64 (s0_1 + 1)) ≤ (s0_0.length : Int) then (some (wrap64 (rd s0_0 s0_1), wrap64 (s0_1 + 1), IntKind.u64.wrap ((IntKind.u64.wrap ((IntKind.u64.wrap (s0_2 * 6364136223846793005)) + (IntKind.u64.wrap (wrap64 (rd s0_0 s0_1))))) + 462197))) else (some (wrap64 (Go.bits .and .u64 ((IntKind.u64.wrap ((IntKind.u64.wrap ((IntKind.u64.wrap (s0_2 * 6364136223846793005)) + (IntKind.u64.wrap (wrap64 (rd s0_0 s0_1))))) + 462197)) / 1099511627776) 255), wrap64 (s0_1 + 1), IntKind.u64.wrap ((IntKind.u64.wrap ((IntKind.u64.wrap (s0_2 * 6364136223846793005)) + (IntKind.u64.wrap (wrap64 (rd s0_0 s0_1))))) + 462197)))) else (none)) else (if (wrap64 (s0_1 + 1)) ≤ (s0_0.length : Int) then (some (0, wrap64 (s0_1 + 1), IntKind.u64.wrap ((IntKind.u64.wrap ((IntKind.u64.wrap (s0_2 * 6364136223846793005)))) + 462197))) else (some (wrap64 (Go.bits .and .u64 ((IntKind.u64.wrap ((IntKind.u64.wrap ((IntKind.u64.wrap (s0_2 * 6364136223846793005)))) + 462197)) / 1099511627776) 255), wrap64 (s0_1 + 1), IntKind.u64.wrap ((IntKind.u64.wrap ((IntKind.u64.wrap (s0_2 * 6364136223846793005)))) + 462197))))) = some (r1, r2, r3) := h
  clear h
  by_cases c2 : s0_1 < (s0_0.length : Int)
  · rw [if_pos c2] at H
    have c2b0 : decide (s0_1 < (s0_0.length : Int)) = true := decide_eq_true c2
    clear c2
    by_cases c3 : 0 ≤ s0_1
    · rw [if_pos c3] at H
      have c3b0 : decide (0 ≤ s0_1) = true := decide_eq_true c3
      clear c3
      by_cases c4 : (wrap64 (s0_1 + 1)) ≤ (s0_0.length : Int)
      · rw [if_pos c4] at H
        have c4b0 : decide ((wrap64 (s0_1 + 1)) ≤ (s0_0.length : Int)) = true := decide_eq_true c4
        clear c4
        simp only [Option.some.injEq, Prod.mk.injEq] at H
        obtain ⟨rfl, rfl, rfl⟩ := H
        obtain ⟨ASz5_0, cSz5_0, HGz5, hgz5, HSz5_0⟩ := HI0.out
        have hcz5_0 := cellS83_0 HGz5
        have hcz5_1 := cellS83_1 HGz5
        have hcz5_2 := cellS83_2 HGz5
        have hfz5_1 := blk_frozen HGz5 1
        have hfz5_2 := blk_frozen HGz5 2
        clear HGz5 hgz5
        have p101 : 0 ≤ (s0_1 : Int) := of_decide_eq_true z1_5
        have q101 : s0_1 < (s0_0.length : Int) := of_decide_eq_true z1_5
        obtain ⟨ad101, e101, hx101_0⟩ := Kd.at_int HSz5_0 s0_1 p101 q101
        cases e101
        replace hx101_0 := pw_cell_below HB.out hx101_0
        replace p101 := eq_true p101
        replace q101 := eq_true q101
        go_enter Tryd.func99, Tryd.ntmps99
        go_wp2
        repeat (go_quiet (fail); try go_wp2)
        go_ret
        exact ⟨z1_3, z1_1, z1_2, z1_0⟩
      · rw [if_neg c4] at H
        have c4b0 : decide ((wrap64 (s0_1 + 1)) ≤ (s0_0.length : Int)) = false := decide_eq_false c4
        clear c4
        simp only [Option.some.injEq, Prod.mk.injEq] at H
        obtain ⟨rfl, rfl, rfl⟩ := H
        obtain ⟨ASz6_0, cSz6_0, HGz6, hgz6, HSz6_0⟩ := HI0.out
        have hcz6_0 := cellS83_0 HGz6
        have hcz6_1 := cellS83_1 HGz6
        have hcz6_2 := cellS83_2 HGz6
        have hfz6_1 := blk_frozen HGz6 1
        have hfz6_2 := blk_frozen HGz6 2
        clear HGz6 hgz6
        have p101 : 0 ≤ (s0_1 : Int) := of_decide_eq_true z1_5
        have q101 : s0_1 < (s0_0.length : Int) := of_decide_eq_true z1_5
        obtain ⟨ad101, e101, hx101_0⟩ := Kd.at_int HSz6_0 s0_1 p101 q101
        cases e101
        replace hx101_0 := pw_cell_below HB.out hx101_0
        replace p101 := eq_true p101
        replace q101 := eq_true q101
        go_enter Tryd.func99, Tryd.ntmps99
        go_wp2
        repeat (go_quiet (fail); try go_wp2)
        go_ret
        exact ⟨z1_3, z1_1, z1_2, z1_0⟩
    · rw [if_neg c3] at H
      exact absurd H (by simp)
  · rw [if_neg c2] at H
    have c2b0 : decide (s0_1 < (s0_0.length : Int)) = false := decide_eq_false c2
    clear c2
    by_cases c7 : (wrap64 (s0_1 + 1)) ≤ (s0_0.length : Int)
    · rw [if_pos c7] at H
      have c7b0 : decide ((wrap64 (s0_1 + 1)) ≤ (s0_0.length : Int)) = true := decide_eq_true c7
      clear c7
      simp only [Option.some.injEq, Prod.mk.injEq] at H
      obtain ⟨rfl, rfl, rfl⟩ := H
      obtain ⟨ASz8_0, cSz8_0, HGz8, hgz8, HSz8_0⟩ := HI0.out
      have hcz8_0 := cellS83_0 HGz8
      have hcz8_1 := cellS83_1 HGz8
      have hcz8_2 := cellS83_2 HGz8
      have hfz8_1 := blk_frozen HGz8 1
      have hfz8_2 := blk_frozen HGz8 2
      clear HGz8 hgz8
      go_enter Tryd.func99, Tryd.ntmps99
      go_wp2
      repeat (go_quiet (fail); try go_wp2)
      go_ret
      exact ⟨z1_3, z1_1, z1_2, z1_0⟩
    · rw [if_neg c7] at H
      have c7b0 : decide ((wrap64 (s0_1 + 1)) ≤ (s0_0.length : Int)) = false := decide_eq_false c7
      clear c7
      simp only [Option.some.injEq, Prod.mk.injEq] at H
      obtain ⟨rfl, rfl, rfl⟩ := H
      obtain ⟨ASz9_0, cSz9_0, HGz9, hgz9, HSz9_0⟩ := HI0.out
      have hcz9_0 := cellS83_0 HGz9
      have hcz9_1 := cellS83_1 HGz9
      have hcz9_2 := cellS83_2 HGz9
      have hfz9_1 := blk_frozen HGz9 1
      have hfz9_2 := blk_frozen HGz9 2
      clear HGz9 hgz9
      go_enter Tryd.func99, Tryd.ntmps99
      go_wp2
      repeat (go_quiet (fail); try go_wp2)
      go_ret
      exact ⟨z1_3, z1_1, z1_2, z1_0⟩
def spec_l1Cur_pick.f (s0_0 : List Int) (s0_1 : Int) (s0_2 : Int) (a1 : Int) : Option (Int × Int × Int) := if a1 ≤ 1 then (some (0, s0_1, s0_2)) else ((spec_l1Cur_next.f s0_0 s0_1 s0_2).bind fun bt102 => (if a1 > 200 then ((spec_l1Cur_next.f s0_0 bt102.2.1 bt102.2.2).bind fun bt105 => (if a1 = 0 then (none) else (some (Int.tmod (wrap64 ((wrap64 (bt102.1 * 256)) + bt105.1)) a1, bt105.2.1, bt105.2.2)))) else (if a1 = 0 then (none) else (some (Int.tmod bt102.1 a1, bt102.2.1, bt102.2.2)))))
set_option maxHeartbeats 8000000 in
set_option maxRecDepth 100000 in
theorem spec_l1Cur_pick.calls (g : Nat) (s0_0 : List Int) (s0_1 : Int) (s0_2 : Int) (a1 : Int) (r1 : Int) (r2 : Int) (r3 : Int) (w0 w : World) (hI : IsS83 w0 w g s0_0 s0_1 s0_2) (hB : Below w0.heap.size w0 w) (h : spec_l1Cur_pick.f s0_0 s0_1 s0_2 a1 = some (r1, r2, r3)) :
    Calls Tryd.prog 69 #[.pointer (some ⟨g, 0, none⟩), .int .i64 a1] w fun e w' => e = .returned (.int .i64 r1) ∧ IsS83 w0 w' g s0_0 r2 r3 ∧ Below w0.heap.size w0 w' ∧ KeepBut w w' g none := by
  have HI0 := Aside0.mk hI
  have HK := Aside0.mk (KeepBut.refl w g none)
  have HL := Aside0.mk hB.size
  clear hI
  have HW0 := Aside0.mk hB.size
  have HB := Aside0.mk hB
  clear hB
  have H : (if a1 ≤ 1 then (some (0, s0_1, s0_2)) else ((spec_l1Cur_next.f s0_0 s0_1 s0_2).bind fun bt102 => (if a1 > 200 then ((spec_l1Cur_next.f s0_0 bt102.2.1 bt102.2.2).bind fun bt105 => (if a1 = 0 then (none) else (some (Int.tmod (wrap64 ((wrap64 (bt102.1 * 256)) + bt105.1)) a1, bt105.2.1, bt105.2.2)))) else (if a1 = 0 then (none) else (some (Int.tmod bt102.1 a1, bt102.2.1, bt102.2.2)))))) = some (r1, r2, r3) := h
  clear h
  by_cases c3 : a1 ≤ 1
  · rw [if_pos c3] at H
    have c3b0 : decide (a1 ≤ 1) = true := decide_eq_true c3
    clear c3
    simp only [Option.some.injEq, Prod.mk.injEq] at H
    obtain ⟨rfl, rfl, rfl⟩ := H
    go_enter Tryd.func69, Tryd.ntmps69
    go_wp2
    go_ret
    exact ⟨z1_3, z1_1, z1_2, z1_0⟩
  · rw [if_neg c3] at H
    have c3b0 : decide (a1 ≤ 1) = false := decide_eq_false c3
    clear c3
    replace H := Option.bind_eq_some_iff.mp H
    obtain ⟨⟨t102, t103, t104⟩, A40, H⟩ := H
    replace H : (if a1 > 200 then ((spec_l1Cur_next.f s0_0 t103 t104).bind fun bt105 => (if a1 = 0 then (none) else (some (Int.tmod (wrap64 ((wrap64 (t102 * 256)) + bt105.1)) a1, bt105.2.1, bt105.2.2)))) else (if a1 = 0 then (none) else (some (Int.tmod t102 a1, t103, t104)))) = some (r1, r2, r3) := H
    have A4 := Aside0.mk A40
    clear A40
    by_cases c5 : a1 > 200
    · rw [if_pos c5] at H
      have c5b0 : decide (200 < a1) = true := decide_eq_true c5
      clear c5
      replace H := Option.bind_eq_some_iff.mp H
      obtain ⟨⟨t105, t106, t107⟩, A60, H⟩ := H
      replace H : (if a1 = 0 then (none) else (some (Int.tmod (wrap64 ((wrap64 (t102 * 256)) + t105)) a1, t106, t107))) = some (r1, r2, r3) := H
      have A6 := Aside0.mk A60
      clear A60
      by_cases c7 : a1 = 0
      · rw [if_pos c7] at H
        exact absurd H (by simp)
      · rw [if_neg c7] at H
        have c7b0 : (a1 == 0) = false := beq_eq_false_iff_ne.mpr c7
        have c7b1 : (a1 != 0) = true := bne_iff_ne.mpr c7
        simp only [Option.some.injEq, Prod.mk.injEq] at H
        obtain ⟨rfl, rfl, rfl⟩ := H
        go_enter Tryd.func69, Tryd.ntmps69
        go_wp2_with (first | ((with_reducible refine gate_callee (f := 99) rfl ?_); refine goesL_ (some 9) rfl rfl Tryd.func99 (by kernel_rfl) rfl #[.pointer (some ⟨g, 0, none⟩)] rfl z1_4 ?_; (with_reducible refine (spec_l1Cur_next.calls g s0_0 s0_1 s0_2 t102 t103 t104 w0 _ ?side1 ?side2 A4.out).mono ?_); (case side1 => repeat (first | (with_reducible first | exact HI0.out | apply IsS83.alloc | apply IsS83.drewN | apply IsS83.drew | apply IsS83.set_1 | apply IsS83.set_2) | exact HI0.out)); (case side2 => repeat (first | (with_reducible first | exact HB.out | apply below_alloc | apply pw_below_drewN | apply below_drew1 | refine below_set ?_ (IsS83.ge HI0.out)) | exact HB.out)); rintro e w8 ⟨rfl, hi, hb, hk⟩; refine ⟨_, rfl, ?_⟩; have n0_ := Aside0.mk (KeepBut.trans z1_0 hk (.inl rfl)); have n1_ := Aside0.mk (hb); have n2_ := Aside0.mk (hi); clear HK; clear HB; clear HI0; have HK := n0_; have HB := n1_; have HI0 := n2_; clear n0_ n1_ n2_; (try clear hb); (try clear hb2); (try clear hk); (try clear hi)) | ((with_reducible refine gate_callee (f := 99) rfl ?_); refine goesL_ (some 15) rfl rfl Tryd.func99 (by kernel_rfl) rfl #[.pointer (some ⟨g, 0, none⟩)] rfl z1_4 ?_; (with_reducible refine (spec_l1Cur_next.calls g s0_0 t103 t104 t105 t106 t107 w0 _ ?side1 ?side2 A6.out).mono ?_); (case side1 => repeat (first | (with_reducible first | exact HI0.out | apply IsS83.alloc | apply IsS83.drewN | apply IsS83.drew | apply IsS83.set_1 | apply IsS83.set_2) | exact HI0.out)); (case side2 => repeat (first | (with_reducible first | exact HB.out | apply below_alloc | apply pw_below_drewN | apply below_drew1 | refine below_set ?_ (IsS83.ge HI0.out)) | exact HB.out)); rintro e w9 ⟨rfl, hi, hb, hk⟩; refine ⟨_, rfl, ?_⟩; have n0_ := Aside0.mk (KeepBut.trans z1_0 hk (.inl rfl)); have n1_ := Aside0.mk (hb); have n2_ := Aside0.mk (hi); clear HK; clear HB; clear HI0; have HK := n0_; have HB := n1_; have HI0 := n2_; clear n0_ n1_ n2_; (try clear hb); (try clear hb2); (try clear hk); (try clear hi)))
        go_ret
        exact ⟨z1_3, z1_1, z1_2, z1_0⟩
    · rw [if_neg c5] at H
      have c5b0 : decide (200 < a1) = false := decide_eq_false c5
      clear c5
      by_cases c10 : a1 = 0
      · rw [if_pos c10] at H
        exact absurd H (by simp)
      · rw [if_neg c10] at H
        have c10b0 : (a1 == 0) = false := beq_eq_false_iff_ne.mpr c10
        have c10b1 : (a1 != 0) = true := bne_iff_ne.mpr c10
        simp only [Option.some.injEq, Prod.mk.injEq] at H
        obtain ⟨rfl, rfl, rfl⟩ := H
        go_enter Tryd.func69, Tryd.ntmps69
        go_wp2_with (first | ((with_reducible refine gate_callee (f := 99) rfl ?_); refine goesL_ (some 9) rfl rfl Tryd.func99 (by kernel_rfl) rfl #[.pointer (some ⟨g, 0, none⟩)] rfl z1_4 ?_; (with_reducible refine (spec_l1Cur_next.calls g s0_0 s0_1 s0_2 t102 t103 t104 w0 _ ?side1 ?side2 A4.out).mono ?_); (case side1 => repeat (first | (with_reducible first | exact HI0.out | apply IsS83.alloc | apply IsS83.drewN | apply IsS83.drew | apply IsS83.set_1 | apply IsS83.set_2) | exact HI0.out)); (case side2 => repeat (first | (with_reducible first | exact HB.out | apply below_alloc | apply pw_below_drewN | apply below_drew1 | refine below_set ?_ (IsS83.ge HI0.out)) | exact HB.out)); rintro e w11 ⟨rfl, hi, hb, hk⟩; refine ⟨_, rfl, ?_⟩; have n0_ := Aside0.mk (KeepBut.trans z1_0 hk (.inl rfl)); have n1_ := Aside0.mk (hb); have n2_ := Aside0.mk (hi); clear HK; clear HB; clear HI0; have HK := n0_; have HB := n1_; have HI0 := n2_; clear n0_ n1_ n2_; (try clear hb); (try clear hb2); (try clear hk); (try clear hi)))
        go_ret
        exact ⟨z1_3, z1_1, z1_2, z1_0⟩
def spec_l1Cur_of.f (s0_0 : List Int) (s0_1 : Int) (s0_2 : Int) (l1 : List ByteArray) : Option (ByteArray × Int × Int) := (spec_l1Cur_pick.f s0_0 s0_1 s0_2 (l1.length : Int)).bind fun bt108 => (if 0 ≤ bt108.1 then (if bt108.1 < (l1.length : Int) then (some (rdOf ByteArray.empty l1 bt108.1, bt108.2.1, bt108.2.2)) else (none)) else (none))
set_option maxHeartbeats 8000000 in
set_option maxRecDepth 100000 in
theorem spec_l1Cur_of.calls (g : Nat) (s0_0 : List Int) (s0_1 : Int) (s0_2 : Int) (A1 : Option Addr) (c1 : Nat) (l1 : List ByteArray) (r1 : ByteArray) (r2 : Int) (r3 : Int) (w0 w : World) (hI : IsS83 w0 w g s0_0 s0_1 s0_2) (hB : Below w0.heap.size w0 w) (hr1 : Kd.C Kd.string w A1 l1.length l1) (hc1 : l1.length ≤ c1) (hf1 : ∀ ad, A1 = some ad → 0 < l1.length → ad.block ≠ g) (h : spec_l1Cur_of.f s0_0 s0_1 s0_2 l1 = some (r1, r2, r3)) :
    Calls Tryd.prog 67 #[.pointer (some ⟨g, 0, none⟩), .slice A1 l1.length c1] w fun e w' => e = .returned (.string r1) ∧ IsS83 w0 w' g s0_0 r2 r3 ∧ Below w0.heap.size w0 w' ∧ KeepBut w w' g none := by
  have HR1 := Aside0.mk hr1
  have HC1 := Aside0.mk hc1
  clear hr1 hc1
  have HI0 := Aside0.mk hI
  have HK := Aside0.mk (KeepBut.refl w g none)
  have HL := Aside0.mk hB.size
  clear hI
  have HW0 := Aside0.mk hB.size
  have HB := Aside0.mk hB
  clear hB
  have H : ((spec_l1Cur_pick.f s0_0 s0_1 s0_2 (l1.length : Int)).bind fun bt108 => (if 0 ≤ bt108.1 then (if bt108.1 < (l1.length : Int) then (some (rdOf ByteArray.empty l1 bt108.1, bt108.2.1, bt108.2.2)) else (none)) else (none))) = some (r1, r2, r3) := h
  clear h
  replace H := Option.bind_eq_some_iff.mp H
  obtain ⟨⟨t108, t109, t110⟩, A30, H⟩ := H
  replace H : (if 0 ≤ t108 then (if t108 < (l1.length : Int) then (some (rdOf ByteArray.empty l1 t108, t109, t110)) else (none)) else (none)) = some (r1, r2, r3) := H
  have A3 := Aside0.mk A30
  clear A30
  by_cases c4 : 0 ≤ t108
  · rw [if_pos c4] at H
    have c4b0 : decide (0 ≤ t108) = true := decide_eq_true c4
    clear c4
    by_cases c5 : t108 < (l1.length : Int)
    · rw [if_pos c5] at H
      have c5b0 : decide (t108 < (l1.length : Int)) = true := decide_eq_true c5
      clear c5
      simp only [Option.some.injEq, Prod.mk.injEq] at H
      obtain ⟨rfl, rfl, rfl⟩ := H
      go_enter Tryd.func67, Tryd.ntmps67
      go_wp2_with (first | ((with_reducible refine gate_callee (f := 69) rfl ?_); refine goesL_ (some 9) rfl rfl Tryd.func69 (by kernel_rfl) rfl #[.pointer (some ⟨g, 0, none⟩), .int .i64 (l1.length : Int)] rfl z1_4 ?_; (with_reducible refine (spec_l1Cur_pick.calls g s0_0 s0_1 s0_2 (l1.length : Int) t108 t109 t110 w0 _ ?side1 ?side2 A3.out).mono ?_); (case side1 => repeat (first | (with_reducible first | exact HI0.out | apply IsS83.alloc | apply IsS83.drewN | apply IsS83.drew | apply IsS83.set_1 | apply IsS83.set_2) | exact HI0.out)); (case side2 => repeat (first | (with_reducible first | exact HB.out | apply below_alloc | apply pw_below_drewN | apply below_drew1 | refine below_set ?_ (IsS83.ge HI0.out)) | exact HB.out)); rintro e w6 ⟨rfl, hi, hb, hk⟩; refine ⟨_, rfl, ?_⟩; have n0_ := Aside0.mk (KeepBut.trans z1_0 hk (.inl rfl)); have n1_ := Aside0.mk (hb); have n2_ := Aside0.mk (hi); clear HK; clear HB; clear HI0; have HK := n0_; have HB := n1_; have HI0 := n2_; clear n0_ n1_ n2_; (try clear hb); (try clear hb2); (try clear hk); (try clear hi); have p111 : 0 ≤ (t108 : Int) := of_decide_eq_true z1_5; have q111 : t108 < (l1.length : Int) := of_decide_eq_true z1_5; obtain ⟨ad111, e111, hx111_0⟩ := Kd.at_string HR1.out t108 p111 q111; cases e111; replace hx111_0 := keep_cell HK.out hx111_0 (by first | (rw [add_block]; exact hf1 _ rfl (by omega)) | exact hf1 _ rfl (by omega) | exact hf1 ad111 rfl (by omega)); replace p111 := eq_true p111; replace q111 := eq_true q111))
      go_ret
      exact ⟨z1_3, z1_1, z1_2, z1_0⟩
    · rw [if_neg c5] at H
      exact absurd H (by simp)
  · rw [if_neg c4] at H
    exact absurd H (by simp)
def spec_l1Cur_any1.f (s0_0 : List Int) (s0_1 : Int) (s0_2 : Int) : Option (ByteArray × Int × Int) := (spec_l1Cur_of.f s0_0 s0_1 s0_2 (([(⟨#[]⟩ : ByteArray), (⟨#[97]⟩ : ByteArray), (⟨#[97, 44, 98]⟩ : ByteArray), (⟨#[115, 111, 109, 101, 32, 119, 111, 114, 100, 115]⟩ : ByteArray), (⟨#[120, 35, 121]⟩ : ByteArray), (⟨#[45, 49, 50]⟩ : ByteArray), (⟨#[0, 255]⟩ : ByteArray), (⟨#[44, 44]⟩ : ByteArray), (⟨#[48]⟩ : ByteArray)] : List ByteArray))).bind fun bt115 => (some (bt115.1, bt115.2.1, bt115.2.2))
set_option maxHeartbeats 8000000 in
set_option maxRecDepth 100000 in
theorem spec_l1Cur_any1.calls (g : Nat) (s0_0 : List Int) (s0_1 : Int) (s0_2 : Int) (r1 : ByteArray) (r2 : Int) (r3 : Int) (w0 w : World) (hI : IsS83 w0 w g s0_0 s0_1 s0_2) (hB : Below w0.heap.size w0 w) (h : spec_l1Cur_any1.f s0_0 s0_1 s0_2 = some (r1, r2, r3)) :
    Calls Tryd.prog 66 #[.pointer (some ⟨g, 0, none⟩)] w fun e w' => e = .returned (.string r1) ∧ IsS83 w0 w' g s0_0 r2 r3 ∧ Below w0.heap.size w0 w' ∧ KeepBut w w' g none := by
  have HI0 := Aside0.mk hI
  have HK := Aside0.mk (KeepBut.refl w g none)
  have HL := Aside0.mk hB.size
  clear hI
  have HW0 := Aside0.mk hB.size
  have HB := Aside0.mk hB
  clear hB
  have H : ((spec_l1Cur_of.f s0_0 s0_1 s0_2 (([(⟨#[]⟩ : ByteArray), (⟨#[97]⟩ : ByteArray), (⟨#[97, 44, 98]⟩ : ByteArray), (⟨#[115, 111, 109, 101, 32, 119, 111, 114, 100, 115]⟩ : ByteArray), (⟨#[120, 35, 121]⟩ : ByteArray), (⟨#[45, 49, 50]⟩ : ByteArray), (⟨#[0, 255]⟩ : ByteArray), (⟨#[44, 44]⟩ : ByteArray), (⟨#[48]⟩ : ByteArray)] : List ByteArray))).bind fun bt115 => (some (bt115.1, bt115.2.1, bt115.2.2))) = some (r1, r2, r3) := h
  clear h
  obtain ⟨y112, hy112⟩ : ∃ y_ : List ByteArray, y_ = (([(⟨#[]⟩ : ByteArray), (⟨#[97]⟩ : ByteArray), (⟨#[97, 44, 98]⟩ : ByteArray), (⟨#[115, 111, 109, 101, 32, 119, 111, 114, 100, 115]⟩ : ByteArray), (⟨#[120, 35, 121]⟩ : ByteArray), (⟨#[45, 49, 50]⟩ : ByteArray), (⟨#[0, 255]⟩ : ByteArray), (⟨#[44, 44]⟩ : ByteArray), (⟨#[48]⟩ : ByteArray)] : List ByteArray)) := ⟨_, rfl⟩
  replace H : ((spec_l1Cur_of.f s0_0 s0_1 s0_2 y112).bind fun bt115 => (some (bt115.1, bt115.2.1, bt115.2.2))) = some (r1, r2, r3) := by first | (rw [hy112]; with_reducible exact H) | (have H2_ := (Option.bind_some _ _).symm.trans H; rw [hy112]; with_reducible exact H2_) | (have H2_ := (Option.bind_some _ _).symm.trans H; with_reducible exact H2_) | with_reducible exact H | (rw [hy112]; exact H) | exact H
  have Ny112 := Aside0.mk hy112
  clear hy112
  replace H := Option.bind_eq_some_iff.mp H
  obtain ⟨⟨t115, t116, t117⟩, A20, H⟩ := H
  replace H : (some (t115, t116, t117)) = some (r1, r2, r3) := H
  have A2 := Aside0.mk A20
  clear A20
  simp only [Option.some.injEq, Prod.mk.injEq] at H
  obtain ⟨rfl, rfl, rfl⟩ := H
  go_enter Tryd.func66, Tryd.ntmps66
  go_wp2_with (first | ((with_reducible refine gate_dst (N := 4) rfl ?_); refine Kd.R_lit Kd.string _ 9 ?hg (N := 4) ?hd (xs := ([(⟨#[]⟩ : ByteArray), (⟨#[97]⟩ : ByteArray), (⟨#[97, 44, 98]⟩ : ByteArray), (⟨#[115, 111, 109, 101, 32, 119, 111, 114, 100, 115]⟩ : ByteArray), (⟨#[120, 35, 121]⟩ : ByteArray), (⟨#[45, 49, 50]⟩ : ByteArray), (⟨#[0, 255]⟩ : ByteArray), (⟨#[44, 44]⟩ : ByteArray), (⟨#[48]⟩ : ByteArray)] : List ByteArray)) (inner := [.string (⟨#[]⟩ : ByteArray), .string (⟨#[97]⟩ : ByteArray), .string (⟨#[97, 44, 98]⟩ : ByteArray), .string (⟨#[115, 111, 109, 101, 32, 119, 111, 114, 100, 115]⟩ : ByteArray), .string (⟨#[120, 35, 121]⟩ : ByteArray), .string (⟨#[45, 49, 50]⟩ : ByteArray), .string (⟨#[0, 255]⟩ : ByteArray), .string (⟨#[44, 44]⟩ : ByteArray), .string (⟨#[48]⟩ : ByteArray)]) (ok := fun _ => True) (okp := fun _ => True) ?hr ?hp (fun _ hk => hk) trivial (Below.refl _ _) (Nat.le_refl _) (by simp) ?_; (case hd => rfl); (case hg => rfl); (case hr => first | (go_simp; done) | (go_simp; rfl)); (case hp => exact (Reps.one (show Kd.M Kd.string _ _ _ (⟨#[]⟩ : ByteArray) [.string (⟨#[]⟩ : ByteArray)] from rfl) (Reps.one (show Kd.M Kd.string _ _ _ (⟨#[97]⟩ : ByteArray) [.string (⟨#[97]⟩ : ByteArray)] from rfl) (Reps.one (show Kd.M Kd.string _ _ _ (⟨#[97, 44, 98]⟩ : ByteArray) [.string (⟨#[97, 44, 98]⟩ : ByteArray)] from rfl) (Reps.one (show Kd.M Kd.string _ _ _ (⟨#[115, 111, 109, 101, 32, 119, 111, 114, 100, 115]⟩ : ByteArray) [.string (⟨#[115, 111, 109, 101, 32, 119, 111, 114, 100, 115]⟩ : ByteArray)] from rfl) (Reps.one (show Kd.M Kd.string _ _ _ (⟨#[120, 35, 121]⟩ : ByteArray) [.string (⟨#[120, 35, 121]⟩ : ByteArray)] from rfl) (Reps.one (show Kd.M Kd.string _ _ _ (⟨#[45, 49, 50]⟩ : ByteArray) [.string (⟨#[45, 49, 50]⟩ : ByteArray)] from rfl) (Reps.one (show Kd.M Kd.string _ _ _ (⟨#[0, 255]⟩ : ByteArray) [.string (⟨#[0, 255]⟩ : ByteArray)] from rfl) (Reps.one (show Kd.M Kd.string _ _ _ (⟨#[44, 44]⟩ : ByteArray) [.string (⟨#[44, 44]⟩ : ByteArray)] from rfl) (Reps.one (show Kd.M Kd.string _ _ _ (⟨#[48]⟩ : ByteArray) [.string (⟨#[48]⟩ : ByteArray)] from rfl) (Reps.none _ _))))))))))); intro v113 w3 ho4 hb hg_ hnew_; clear hg_ hnew_; (first | rw [← Ny112.out] at ho4 | (simp only [Int.reduceToNat] at ho4; rw [← Ny112.out] at ho4)); have n0_ := Aside0.mk (Kd.R_lower ho4 (keep_size (w := w) (g := g) (row := none) z1_0)); have n1_ := Aside0.mk (IsS83.below z1_1 hb); have n2_ := Aside0.mk (KeepBut.trans z1_0 (KeepBut.of_below hb g none) (.inl rfl)); have n3_ := Aside0.mk (below_step z1_2 hb); clear HI0; clear HK; clear HB; have HO114 := n0_; have HI0 := n1_; have HK := n2_; have HB := n3_; clear n0_ n1_ n2_ n3_; clear hb ho4; obtain ⟨Ao5, co5, eo5⟩ := Kd.R_slice HO114.out; subst eo5) | ((with_reducible refine gate_callee (f := 67) rfl ?_); refine goesL_ (some 5) rfl rfl Tryd.func67 (by kernel_rfl) rfl #[.pointer (some ⟨g, 0, none⟩), .slice Ao5 y112.length co5] rfl z1_4 ?_; (with_reducible refine (spec_l1Cur_of.calls g s0_0 s0_1 s0_2 _ _ y112 t115 t116 t117 w0 _ ?side1 ?side2 ?side3 ?side4 ?side5 A2.out).mono ?_); (case side1 => repeat (first | (with_reducible first | exact HI0.out | apply IsS83.alloc | apply IsS83.drewN | apply IsS83.drew | apply IsS83.set_1 | apply IsS83.set_2) | exact HI0.out)); (case side2 => repeat (first | (with_reducible first | exact HB.out | apply below_alloc | apply pw_below_drewN | apply below_drew1 | refine below_set ?_ (IsS83.ge HI0.out)) | exact HB.out)); (case side3 => repeat (first | exact (Kd.R_reads' HO114.out).2.2 | (with_reducible refine Kd.C_alloc ?_ _) | (with_reducible refine Kd.C_drewN ?_ _) | (with_reducible refine Kd.C_drew ?_))); (case side4 => exact (Kd.R_reads' HO114.out).2.1); (case side5 => exact far_slice (IsS83.own_ne HI0.out HO114.out (by decide))); rintro e w6 ⟨rfl, hi, hb, hk⟩; refine ⟨_, rfl, ?_⟩; have n0_ := Aside0.mk (Kd.R_mono (Kd.R_keep (IsS83.apart (show IsS83 w0 _ g s0_0 s0_1 s0_2 from z1_1) (by (with_reducible repeat (first | apply Kd.R_alloc | apply Kd.R_drewN | apply Kd.R_drew)); exact HO114.out) (by decide)) hk (fun _ h => h.2)) (fun _ h => h.1)); have n1_ := Aside0.mk (KeepBut.trans z1_0 hk (.inl rfl)); have n2_ := Aside0.mk (hb); have n3_ := Aside0.mk (hi); clear HO114; clear HK; clear HB; clear HI0; have HO114 := n0_; have HK := n1_; have HB := n2_; have HI0 := n3_; clear n0_ n1_ n2_ n3_; (try clear hb); (try clear hb2); (try clear hk); (try clear hi)))
  go_ret
  exact ⟨z1_3, z1_1, z1_2, z1_0⟩
end Go.Proofs.YtgclcjohnnpejaaDoor.Pt
end

section
namespace Go.Proofs.YtgclcjohnnpejaaDoor.Pt
open Go.RowKit Go.Proofs.YtgclcjohnnpejaaDoorW.PrintWords Go.Proofs.YtgclcjohnnpejaaDoorW.PrintLast Go.Proofs.YtgclcjohnnpejaaDoorW.PrintMore
attribute [local go_sem] max2_int min2_int max_two min_two max_three min_three max_four min_four
set_option linter.unusedVariables false
set_option linter.unusedSimpArgs false
theorem z2_0 {P : Prop} (h : P := by repeat (first | (with_reducible first | exact HI134.out | apply IsS83.alloc | apply IsS83.drewN | apply IsS83.drew | apply IsS83.set_1 | apply IsS83.set_2) | exact HI134.out)) : P := h
theorem z2_1 {P : Prop} (h : P := by repeat (first | (with_reducible first | exact HB.out | apply below_alloc | apply pw_below_drewN | apply below_drew1 | refine below_set ?_ (IsS83.ge HI134.out)) | exact HB.out)) : P := h
theorem z2_2 {P : Prop} (h : P := by (try simp only [List.map_toArray, List.map_cons, List.map_nil]); first | done | rfl | (simp only [List.length_drop, List.length_take]; rfl)) : P := h
theorem z2_3 {P : Prop} (h : P := by repeat (first | (with_reducible first | exact HB.out | apply below_alloc | apply pw_below_drewN | apply below_drew1) | exact HB.out)) : P := h
theorem z2_4 {P : Prop} (h : P := by (with_reducible repeat (first | apply Kd.R_alloc | apply Kd.R_drewN | apply Kd.R_drew)); exact HO_5.out) : P := h
theorem z2_5 {P : Prop} (h : P := by first | rfl | (simp [errW_none, errW_some] <;> rfl) | (simp [*, errW_none, errW_some] <;> rfl)) : P := h
theorem z2_6 {P : Prop} (h : P := by repeat (first | (with_reducible first | exact HB.out | apply below_alloc | apply pw_below_drewN | apply below_drew1 | refine below_set ?_ (IsS83.ge HI118.out)) | exact HB.out)) : P := h
theorem z2_7 {P : Prop} (h : P := by (with_reducible repeat (first | apply Kd.R_alloc | apply Kd.R_drewN | apply Kd.R_drew)); exact HO155.out) : P := h
theorem z2_8 {P : Prop} (h : P := by (with_reducible repeat (first | apply Kd.R_alloc | apply Kd.R_drewN | apply Kd.R_drew)); exact HO158.out) : P := h
def spec_DrawSplitString.f (l0 : List Int) : Option (ByteArray × ByteArray) := (spec_l1Cur_any1.f l0 0 0).bind fun bt119 => ((spec_l1Cur_of.f l0 bt119.2.1 bt119.2.2 (([(⟨#[44]⟩ : ByteArray), (⟨#[44]⟩ : ByteArray), (⟨#[32]⟩ : ByteArray), (⟨#[]⟩ : ByteArray), (⟨#[44, 44]⟩ : ByteArray)] : List ByteArray))).bind fun bt125 => (some (bt119.1, bt125.1)))
set_option maxHeartbeats 8000000 in
set_option maxRecDepth 100000 in
theorem spec_DrawSplitString.calls (A0 : Option Addr) (c0 : Nat) (l0 : List Int) (r1 : ByteArray) (r2 : ByteArray) (w : World) (hr0 : Kd.C (Kd.int .u8) w A0 l0.length l0) (hc0 : l0.length ≤ c0) (h : spec_DrawSplitString.f l0 = some (r1, r2)) :
    Calls Tryd.prog 15 #[.slice A0 l0.length c0] w fun e w' => e = .returned (.tuple #[.string r1, .string r2]) ∧ Below w.heap.size w w' := by
  have hu83 := Tryd.underlying83
  have HR0 := Aside0.mk hr0
  have HC0 := Aside0.mk hc0
  clear hr0 hc0
  have HB := Aside0.mk (Below.refl w.heap.size w)
  have H : ((spec_l1Cur_any1.f l0 0 0).bind fun bt119 => ((spec_l1Cur_of.f l0 bt119.2.1 bt119.2.2 (([(⟨#[44]⟩ : ByteArray), (⟨#[44]⟩ : ByteArray), (⟨#[32]⟩ : ByteArray), (⟨#[]⟩ : ByteArray), (⟨#[44, 44]⟩ : ByteArray)] : List ByteArray))).bind fun bt125 => (some (bt119.1, bt125.1)))) = some (r1, r2) := h
  clear h
  replace H := Option.bind_eq_some_iff.mp H
  obtain ⟨⟨t119, t120, t121⟩, A20, H⟩ := H
  replace H : ((spec_l1Cur_of.f l0 t120 t121 (([(⟨#[44]⟩ : ByteArray), (⟨#[44]⟩ : ByteArray), (⟨#[32]⟩ : ByteArray), (⟨#[]⟩ : ByteArray), (⟨#[44, 44]⟩ : ByteArray)] : List ByteArray))).bind fun bt125 => (some (t119, bt125.1))) = some (r1, r2) := H
  have A2 := Aside0.mk A20
  clear A20
  obtain ⟨y122, hy122⟩ : ∃ y_ : List ByteArray, y_ = (([(⟨#[44]⟩ : ByteArray), (⟨#[44]⟩ : ByteArray), (⟨#[32]⟩ : ByteArray), (⟨#[]⟩ : ByteArray), (⟨#[44, 44]⟩ : ByteArray)] : List ByteArray)) := ⟨_, rfl⟩
  replace H : ((spec_l1Cur_of.f l0 t120 t121 y122).bind fun bt125 => (some (t119, bt125.1))) = some (r1, r2) := by first | (rw [hy122]; with_reducible exact H) | (have H2_ := (Option.bind_some _ _).symm.trans H; rw [hy122]; with_reducible exact H2_) | (have H2_ := (Option.bind_some _ _).symm.trans H; with_reducible exact H2_) | with_reducible exact H | (rw [hy122]; exact H) | exact H
  have Ny122 := Aside0.mk hy122
  clear hy122
  replace H := Option.bind_eq_some_iff.mp H
  obtain ⟨⟨t125, t126, t127⟩, A30, H⟩ := H
  replace H : (some (t119, t125)) = some (r1, r2) := H
  have A3 := Aside0.mk A30
  clear A30
  simp only [Option.some.injEq, Prod.mk.injEq] at H
  obtain ⟨rfl, rfl⟩ := H
  go_enter Tryd.func15, Tryd.ntmps15
  go_wp2_with (first | ((with_reducible refine gate_dst (N := 8) rfl ?_); refine box_event ?hg (N := 8) ?hd (cs := #[.slice A0 l0.length c0, .int .i64 0, .int .u64 0]) (t := 83) ?hr ?_; (case hd => rfl); (case hg => rfl); (case hr => first | (go_simp; done) | (go_simp; rfl)); intro gb118 hg w4 hbox hb; have n0_ := Aside0.mk (below_step z2_3 hb); have n1_ := Aside0.mk ((show IsS83 w w4 gb118 l0 0 0 from ⟨_, _, hbox, (by rw [hg]; exact (below_size z2_3) : w.heap.size ≤ gb118), HR0.out⟩)); clear HB; have HB := n0_; have HI118 := n1_; clear n0_ n1_; clear hb hbox hg) | ((with_reducible refine gate_callee (f := 66) rfl ?_); refine goesL_ (some 10) rfl rfl Tryd.func66 (by kernel_rfl) rfl #[.pointer (some ⟨gb118, 0, none⟩)] rfl z2_2 ?_; (with_reducible refine (spec_l1Cur_any1.calls gb118 l0 0 0 t119 t120 t121 w _ ?side1 ?side2 A2.out).mono ?_); (case side1 => repeat (first | (with_reducible first | exact HI118.out | apply IsS83.alloc | apply IsS83.drewN | apply IsS83.drew | apply IsS83.set_1 | apply IsS83.set_2) | exact HI118.out)); (case side2 => repeat (first | (with_reducible first | exact HB.out | apply below_alloc | apply pw_below_drewN | apply below_drew1 | refine below_set ?_ (IsS83.ge HI118.out)) | exact HB.out)); rintro e w5 ⟨rfl, hi, hb, hk⟩; refine ⟨_, rfl, ?_⟩; have n0_ := Aside0.mk (hb); have n1_ := Aside0.mk (hi); clear HB; clear HI118; have HB := n0_; have HI118 := n1_; clear n0_ n1_; (try clear hb); (try clear hb2); (try clear hk); (try clear hi)) | ((with_reducible refine gate_dst (N := 13) rfl ?_); refine Kd.R_lit Kd.string _ 9 ?hg (N := 13) ?hd (xs := ([(⟨#[44]⟩ : ByteArray), (⟨#[44]⟩ : ByteArray), (⟨#[32]⟩ : ByteArray), (⟨#[]⟩ : ByteArray), (⟨#[44, 44]⟩ : ByteArray)] : List ByteArray)) (inner := [.string (⟨#[44]⟩ : ByteArray), .string (⟨#[44]⟩ : ByteArray), .string (⟨#[32]⟩ : ByteArray), .string (⟨#[]⟩ : ByteArray), .string (⟨#[44, 44]⟩ : ByteArray)]) (ok := fun _ => True) (okp := fun _ => True) ?hr ?hp (fun _ hk => hk) trivial (Below.refl _ _) (Nat.le_refl _) (by simp) ?_; (case hd => rfl); (case hg => rfl); (case hr => first | (go_simp; done) | (go_simp; rfl)); (case hp => exact (Reps.one (show Kd.M Kd.string _ _ _ (⟨#[44]⟩ : ByteArray) [.string (⟨#[44]⟩ : ByteArray)] from rfl) (Reps.one (show Kd.M Kd.string _ _ _ (⟨#[44]⟩ : ByteArray) [.string (⟨#[44]⟩ : ByteArray)] from rfl) (Reps.one (show Kd.M Kd.string _ _ _ (⟨#[32]⟩ : ByteArray) [.string (⟨#[32]⟩ : ByteArray)] from rfl) (Reps.one (show Kd.M Kd.string _ _ _ (⟨#[]⟩ : ByteArray) [.string (⟨#[]⟩ : ByteArray)] from rfl) (Reps.one (show Kd.M Kd.string _ _ _ (⟨#[44, 44]⟩ : ByteArray) [.string (⟨#[44, 44]⟩ : ByteArray)] from rfl) (Reps.none _ _))))))); intro v123 w6 ho7 hb hg_ hnew_; clear hg_ hnew_; (first | rw [← Ny122.out] at ho7 | (simp only [Int.reduceToNat] at ho7; rw [← Ny122.out] at ho7)); have n0_ := Aside0.mk (Kd.R_lower ho7 (below_size z2_6)); have n1_ := Aside0.mk (IsS83.below (by repeat (first | (with_reducible first | exact HI118.out | apply IsS83.alloc | apply IsS83.drewN | apply IsS83.drew | apply IsS83.set_1 | apply IsS83.set_2) | exact HI118.out)) hb); have n2_ := Aside0.mk (below_step z2_6 hb); clear HI118; clear HB; have HO124 := n0_; have HI118 := n1_; have HB := n2_; clear n0_ n1_ n2_; clear hb ho7; obtain ⟨Ao8, co8, eo8⟩ := Kd.R_slice HO124.out; subst eo8) | ((with_reducible refine gate_callee (f := 67) rfl ?_); refine goesL_ (some 14) rfl rfl Tryd.func67 (by kernel_rfl) rfl #[.pointer (some ⟨gb118, 0, none⟩), .slice Ao8 y122.length co8] rfl z2_2 ?_; (with_reducible refine (spec_l1Cur_of.calls gb118 l0 t120 t121 _ _ y122 t125 t126 t127 w _ ?side1 ?side2 ?side3 ?side4 ?side5 A3.out).mono ?_); (case side1 => repeat (first | (with_reducible first | exact HI118.out | apply IsS83.alloc | apply IsS83.drewN | apply IsS83.drew | apply IsS83.set_1 | apply IsS83.set_2) | exact HI118.out)); (case side2 => repeat (first | (with_reducible first | exact HB.out | apply below_alloc | apply pw_below_drewN | apply below_drew1 | refine below_set ?_ (IsS83.ge HI118.out)) | exact HB.out)); (case side3 => repeat (first | exact (Kd.R_reads' HO124.out).2.2 | (with_reducible refine Kd.C_alloc ?_ _) | (with_reducible refine Kd.C_drewN ?_ _) | (with_reducible refine Kd.C_drew ?_))); (case side4 => exact (Kd.R_reads' HO124.out).2.1); (case side5 => exact far_slice (IsS83.own_ne HI118.out HO124.out (by decide))); rintro e w9 ⟨rfl, hi, hb, hk⟩; refine ⟨_, rfl, ?_⟩; have n0_ := Aside0.mk (Kd.R_mono (Kd.R_keep (IsS83.apart (show IsS83 w _ gb118 l0 t120 t121 from by repeat (first | (with_reducible first | exact HI118.out | apply IsS83.alloc | apply IsS83.drewN | apply IsS83.drew | apply IsS83.set_1 | apply IsS83.set_2) | exact HI118.out)) (by (with_reducible repeat (first | apply Kd.R_alloc | apply Kd.R_drewN | apply Kd.R_drew)); exact HO124.out) (by decide)) hk (fun _ h => h.2)) (fun _ h => h.1)); have n1_ := Aside0.mk (hb); have n2_ := Aside0.mk (hi); clear HO124; clear HB; clear HI118; have HO124 := n0_; have HB := n1_; have HI118 := n2_; clear n0_ n1_ n2_; (try clear hb); (try clear hb2); (try clear hk); (try clear hi)))
  go_ret2
  exact ⟨z2_5, z2_6⟩
def impl_SplitString.f (a0 : ByteArray) (a1 : ByteArray) : Option (List ByteArray × Bool) := if (a0.size : Int) > 4000 then (some (([] : List ByteArray), false)) else (if (a1.size : Int) = 1 then ((strings_Split.f a0 a1).bind fun t128 => (some (t128, true))) else (some (([] : List ByteArray), false)))
set_option maxHeartbeats 8000000 in
set_option maxRecDepth 100000 in
theorem impl_SplitString.calls (a0 : ByteArray) (a1 : ByteArray) (r1 : List ByteArray) (r2 : Bool) (w : World) (hgl : Glob w) (h : impl_SplitString.f a0 a1 = some (r1, r2)) :
    Calls Tryd.prog 16 #[.string a0, .string a1] w fun e w' => ∃ v0_ : Value, e = .returned (.tuple #[v0_, .bool r2]) ∧ Kd.R Kd.string 9 w' w.heap.size (fun _ => True) v0_ r1 ∧ Below w.heap.size w w' := by
  have HB := Aside0.mk (Below.refl w.heap.size w)
  have HGL := Aside0.mk hgl
  clear hgl
  have H : (if (a0.size : Int) > 4000 then (some (([] : List ByteArray), false)) else (if (a1.size : Int) = 1 then ((strings_Split.f a0 a1).bind fun t128 => (some (t128, true))) else (some (([] : List ByteArray), false)))) = some (r1, r2) := h
  clear h
  by_cases c3 : (a0.size : Int) > 4000
  · rw [if_pos c3] at H
    have c3b0 : decide (4000 < (a0.size : Int)) = true := decide_eq_true c3
    have c3b1 : decide (4000 < a0.size) = true := decide_eq_true (by omega)
    clear c3
    simp only [Option.some.injEq, Prod.mk.injEq] at H
    obtain ⟨rfl, rfl⟩ := H
    go_enter Tryd.func16, Tryd.ntmps16
    go_wp2
    go_ret2
    exact ⟨_, z2_5, by first | exact Kd.R_nil _ _ _ _ _ | exact Kd.N_nil _ _ _ _ _ | exact Kd.V_nil _ _ _ _ _ | exact Kd.Q_nil _ _ _ _ _ | exact Kd.S_nil _ _ _ _ _, z2_3⟩
  · rw [if_neg c3] at H
    have c3b0 : decide (4000 < (a0.size : Int)) = false := decide_eq_false c3
    have c3b1 : decide (4000 < a0.size) = false := decide_eq_false (by omega)
    clear c3
    by_cases c4 : (a1.size : Int) = 1
    · rw [if_pos c4] at H
      have c4b0 : ((a1.size : Int) == 1) = true := beq_iff_eq.mpr c4
      have c4b1 : ((a1.size : Int) != 1) = false := bne_eq_false_iff_eq.mpr c4
      clear c4
      replace H := Option.bind_eq_some_iff.mp H
      obtain ⟨t128, A50, H⟩ := H
      replace H : (some (t128, true)) = some (r1, r2) := H
      have A5 := Aside0.mk A50
      clear A50
      simp only [Option.some.injEq, Prod.mk.injEq] at H
      obtain ⟨rfl, rfl⟩ := H
      go_enter Tryd.func16, Tryd.ntmps16
      go_wp2_with (first | ((with_reducible refine gate_callee (f := 68) rfl ?_); refine goesL_ (some 16) rfl rfl Tryd.func68 (by kernel_rfl) rfl #[.string a0, .string a1] rfl z2_2 ?_; (with_reducible refine (strings_Split.calls a0 a1 t128 _ ?side1 A5.out).mono ?_); (case side1 => exact Glob.below HGL.out z2_3); rintro e w6 ⟨v129, rfl, ho0, hb⟩; refine ⟨_, rfl, ?_⟩; have n0_ := Aside0.mk (Kd.R_lower ho0 (below_size z2_3)); have n1_ := Aside0.mk (below_step z2_3 hb); clear HB; have HO130 := n0_; have HB := n1_; clear n0_ n1_; (try clear hb); (try clear hb2); (try clear hk); (try clear hi); (try clear ho0)))
      go_ret2
      exact ⟨_, z2_5, by (with_reducible repeat (first | apply Kd.R_alloc | apply Kd.R_drewN | apply Kd.R_drew)); exact HO130.out, z2_3⟩
    · rw [if_neg c4] at H
      have c4b0 : ((a1.size : Int) == 1) = false := beq_eq_false_iff_ne.mpr c4
      have c4b1 : ((a1.size : Int) != 1) = true := bne_iff_ne.mpr c4
      simp only [Option.some.injEq, Prod.mk.injEq] at H
      obtain ⟨rfl, rfl⟩ := H
      go_enter Tryd.func16, Tryd.ntmps16
      go_wp2
      go_ret2
      exact ⟨_, z2_5, by first | exact Kd.R_nil _ _ _ _ _ | exact Kd.N_nil _ _ _ _ _ | exact Kd.V_nil _ _ _ _ _ | exact Kd.Q_nil _ _ _ _ _ | exact Kd.S_nil _ _ _ _ _, z2_3⟩
def spec_l1Cur_one.f (s0_0 : List Int) (s0_1 : Int) (s0_2 : Int) (a1 : Int) : Option (Bool × Int × Int) := (spec_l1Cur_pick.f s0_0 s0_1 s0_2 a1).bind fun bt131 => (some ((bt131.1 == 0), bt131.2.1, bt131.2.2))
set_option maxHeartbeats 8000000 in
set_option maxRecDepth 100000 in
theorem spec_l1Cur_one.calls (g : Nat) (s0_0 : List Int) (s0_1 : Int) (s0_2 : Int) (a1 : Int) (r1 : Bool) (r2 : Int) (r3 : Int) (w0 w : World) (hI : IsS83 w0 w g s0_0 s0_1 s0_2) (hB : Below w0.heap.size w0 w) (h : spec_l1Cur_one.f s0_0 s0_1 s0_2 a1 = some (r1, r2, r3)) :
    Calls Tryd.prog 70 #[.pointer (some ⟨g, 0, none⟩), .int .i64 a1] w fun e w' => e = .returned (.bool r1) ∧ IsS83 w0 w' g s0_0 r2 r3 ∧ Below w0.heap.size w0 w' ∧ KeepBut w w' g none := by
  have HI0 := Aside0.mk hI
  have HK := Aside0.mk (KeepBut.refl w g none)
  have HL := Aside0.mk hB.size
  clear hI
  have HW0 := Aside0.mk hB.size
  have HB := Aside0.mk hB
  clear hB
  have H : ((spec_l1Cur_pick.f s0_0 s0_1 s0_2 a1).bind fun bt131 => (some ((bt131.1 == 0), bt131.2.1, bt131.2.2))) = some (r1, r2, r3) := h
  clear h
  replace H := Option.bind_eq_some_iff.mp H
  obtain ⟨⟨t131, t132, t133⟩, A30, H⟩ := H
  replace H : (some ((t131 == 0), t132, t133)) = some (r1, r2, r3) := H
  have A3 := Aside0.mk A30
  clear A30
  simp only [Option.some.injEq, Prod.mk.injEq] at H
  obtain ⟨rfl, rfl, rfl⟩ := H
  go_enter Tryd.func70, Tryd.ntmps70
  go_wp2_with (first | ((with_reducible refine gate_callee (f := 69) rfl ?_); refine goesL_ (some 7) rfl rfl Tryd.func69 (by kernel_rfl) rfl #[.pointer (some ⟨g, 0, none⟩), .int .i64 a1] rfl z2_2 ?_; (with_reducible refine (spec_l1Cur_pick.calls g s0_0 s0_1 s0_2 a1 t131 t132 t133 w0 _ ?side1 ?side2 A3.out).mono ?_); (case side1 => repeat (first | (with_reducible first | exact HI0.out | apply IsS83.alloc | apply IsS83.drewN | apply IsS83.drew | apply IsS83.set_1 | apply IsS83.set_2) | exact HI0.out)); (case side2 => repeat (first | (with_reducible first | exact HB.out | apply below_alloc | apply pw_below_drewN | apply below_drew1 | refine below_set ?_ (IsS83.ge HI0.out)) | exact HB.out)); rintro e w4 ⟨rfl, hi, hb, hk⟩; refine ⟨_, rfl, ?_⟩; have n0_ := Aside0.mk (KeepBut.trans (by repeat (first | (with_reducible first | exact HK.out | apply KeepBut.set_ | apply keep_drewN | apply keep_drew | apply keep_alloc) | exact HK.out)) hk (.inl rfl)); have n1_ := Aside0.mk (hb); have n2_ := Aside0.mk (hi); clear HK; clear HB; clear HI0; have HK := n0_; have HB := n1_; have HI0 := n2_; clear n0_ n1_ n2_; (try clear hb); (try clear hb2); (try clear hk); (try clear hi)))
  go_ret
  exact ⟨z2_5, by repeat (first | (with_reducible first | exact HI0.out | apply IsS83.alloc | apply IsS83.drewN | apply IsS83.drew | apply IsS83.set_1 | apply IsS83.set_2) | exact HI0.out), by repeat (first | (with_reducible first | exact HB.out | apply below_alloc | apply pw_below_drewN | apply below_drew1 | refine below_set ?_ (IsS83.ge HI0.out)) | exact HB.out), by repeat (first | (with_reducible first | exact HK.out | apply KeepBut.set_ | apply keep_drewN | apply keep_drew | apply keep_alloc) | exact HK.out)⟩
def spec_DrawJoinStrings.l0 : Nat → List ByteArray → Int → Int → List Int → Int → Int → Option (List ByteArray × ByteArray)
  | 0, _, _, _, _, _, _ => none
  | k + 1, x5, x6, x7, x135000, x135001, x135002 => if x7 < x6 then ((spec_l1Cur_any1.f x135000 x135001 x135002).bind fun bt141 => (if x5.length < 8796093022208 then (spec_DrawJoinStrings.l0 k (x5 ++ [bt141.1]) x6 (wrap64 (x7 + 1)) x135000 bt141.2.1 bt141.2.2) else (none))) else ((spec_l1Cur_one.f x135000 x135001 x135002 20).bind fun bt147 => (if bt147.1 = true then ((spec_l1Cur_pick.f x135000 bt147.2.1 bt147.2.2 20).bind fun bt150 => (if 0 ≤ (wrap64 (3990 + bt150.1)) then (if (wrap64 (3990 + bt150.1) : Int).toNat ≤ 281474976710656 then (if x5.length < 8796093022208 then ((spec_l1Cur_of.f x135000 bt150.2.1 bt150.2.2 (([(⟨#[44]⟩ : ByteArray), (⟨#[59]⟩ : ByteArray), (⟨#[59]⟩ : ByteArray), (⟨#[]⟩ : ByteArray), (⟨#[97, 98]⟩ : ByteArray)] : List ByteArray))).bind fun bt162 => (some ((x5 ++ [strOfNums (List.replicate (wrap64 (3990 + bt150.1) : Int).toNat 0)]), bt162.1))) else (none)) else (none)) else (none))) else ((spec_l1Cur_of.f x135000 bt147.2.1 bt147.2.2 (([(⟨#[44]⟩ : ByteArray), (⟨#[59]⟩ : ByteArray), (⟨#[59]⟩ : ByteArray), (⟨#[]⟩ : ByteArray), (⟨#[97, 98]⟩ : ByteArray)] : List ByteArray))).bind fun bt168 => (some (x5, bt168.1)))))
def spec_DrawJoinStrings.f (k : Nat) (l0 : List Int) : Option (List ByteArray × ByteArray) := (spec_l1Cur_pick.f l0 0 0 4).bind fun bt138 => (spec_DrawJoinStrings.l0 k (([] : List ByteArray)) bt138.1 0 l0 bt138.2.1 bt138.2.2)
theorem spec_DrawJoinStrings.mono_l : ∀ k, (∀ y0 y1 y2 y3 y4 y5, LeO (spec_DrawJoinStrings.l0 k y0 y1 y2 y3 y4 y5) (spec_DrawJoinStrings.l0 (k + 1) y0 y1 y2 y3 y4 y5))
  | 0 => fun _ _ _ _ _ _ r h => by simp [spec_DrawJoinStrings.l0] at h
  | k + 1 => by
    have ih0 := spec_DrawJoinStrings.mono_l k
    · intro y0 y1 y2 y3 y4 y5
      unfold spec_DrawJoinStrings.l0
      repeat' first
      | (with_reducible exact ih0 _ _ _ _ _ _)
      | (with_reducible exact LeO.refl _)
      | (with_reducible exact LeO.none _)
      | (with_reducible refine LeO.ite ?_ ?_)
      | (with_reducible refine LeO.bind ?_ (fun _ => ?_))
      | exact ih0 _ _ _ _ _ _
      | exact LeO.none _
      | refine LeO.ite ?_ ?_
      | refine LeO.bind ?_ (fun _ => ?_)
theorem spec_DrawJoinStrings.mono : ∀ a0 k, LeO (spec_DrawJoinStrings.f k a0) (spec_DrawJoinStrings.f (k + 1) a0) := by
  intro a0 k
  have ih0 := spec_DrawJoinStrings.mono_l k
  unfold spec_DrawJoinStrings.f
  repeat' first
      | (with_reducible exact ih0 _ _ _ _ _ _)
      | (with_reducible exact LeO.refl _)
      | (with_reducible exact LeO.none _)
      | (with_reducible refine LeO.ite ?_ ?_)
      | (with_reducible refine LeO.bind ?_ (fun _ => ?_))
      | exact ih0 _ _ _ _ _ _
      | exact LeO.none _
      | refine LeO.ite ?_ ?_
      | refine LeO.bind ?_ (fun _ => ?_)
set_option maxHeartbeats 8000000 in
set_option maxRecDepth 100000 in
theorem spec_DrawJoinStrings.calls (k : Nat) (A0 : Option Addr) (c0 : Nat) (l0 : List Int) (r1 : List ByteArray) (r2 : ByteArray) (w : World) (hr0 : Kd.C (Kd.int .u8) w A0 l0.length l0) (hc0 : l0.length ≤ c0) (h : spec_DrawJoinStrings.f k l0 = some (r1, r2)) :
    Calls Tryd.prog 17 #[.slice A0 l0.length c0] w fun e w' => ∃ v0_ : Value, e = .returned (.tuple #[v0_, .string r2]) ∧ Kd.R Kd.string 9 w' w.heap.size (fun _ => True) v0_ r1 ∧ Below w.heap.size w w' := by
  have hu83 := Tryd.underlying83
  have HR0 := Aside0.mk hr0
  have HC0 := Aside0.mk hc0
  clear hr0 hc0
  have HB := Aside0.mk (Below.refl w.heap.size w)
  have H : ((spec_l1Cur_pick.f l0 0 0 4).bind fun bt138 => (spec_DrawJoinStrings.l0 k (([] : List ByteArray)) bt138.1 0 l0 bt138.2.1 bt138.2.2)) = some (r1, r2) := h
  clear h
  obtain ⟨y135, hy135⟩ : ∃ y_ : List ByteArray, y_ = (([] : List ByteArray)) := ⟨_, rfl⟩
  replace H : ((spec_l1Cur_pick.f l0 0 0 4).bind fun bt138 => (spec_DrawJoinStrings.l0 k y135 bt138.1 0 l0 bt138.2.1 bt138.2.2)) = some (r1, r2) := by first | (rw [hy135]; with_reducible exact H) | (have H2_ := (Option.bind_some _ _).symm.trans H; rw [hy135]; with_reducible exact H2_) | (have H2_ := (Option.bind_some _ _).symm.trans H; with_reducible exact H2_) | with_reducible exact H | (rw [hy135]; exact H) | exact H
  have Ny135 := Aside0.mk hy135
  clear hy135
  replace H := Option.bind_eq_some_iff.mp H
  obtain ⟨⟨t138, t139, t140⟩, A20, H⟩ := H
  replace H : (spec_DrawJoinStrings.l0 k y135 t138 0 l0 t139 t140) = some (r1, r2) := H
  have A2 := Aside0.mk A20
  clear A20
  have H' := Aside0.mk H
  clear H
  go_enter Tryd.func17, Tryd.ntmps17
  go_wp2_with (first | ((with_reducible refine gate_dst (N := 10) rfl ?_); refine box_event ?hg (N := 10) ?hd (cs := #[.slice A0 l0.length c0, .int .i64 0, .int .u64 0]) (t := 83) ?hr ?_; (case hd => rfl); (case hg => rfl); (case hr => first | (go_simp; done) | (go_simp; rfl)); intro gb134 hg w3 hbox hb; have n0_ := Aside0.mk (below_step z2_3 hb); have n1_ := Aside0.mk ((show IsS83 w w3 gb134 l0 0 0 from ⟨_, _, hbox, (by rw [hg]; exact (below_size z2_3) : w.heap.size ≤ gb134), HR0.out⟩)); clear HB; have HB := n0_; have HI134 := n1_; clear n0_ n1_; clear hb hbox hg) | ((with_reducible refine gate_dst (N := 11) rfl ?_); refine Kd.R_lit Kd.string _ 9 ?hg (N := 11) ?hd (xs := ([] : List ByteArray)) (inner := []) (ok := fun _ => True) (okp := fun _ => True) ?hr ?hp (fun _ hk => hk) trivial (Below.refl _ _) (Nat.le_refl _) (by simp) ?_; (case hd => rfl); (case hg => rfl); (case hr => first | (go_simp; done) | (go_simp; rfl)); (case hp => exact (Reps.none _ _)); intro v136 w4 ho5 hb hg_ hnew_; clear hg_ hnew_; (first | rw [← Ny135.out] at ho5 | (simp only [Int.reduceToNat] at ho5; rw [← Ny135.out] at ho5)); have n0_ := Aside0.mk (Kd.R_lower ho5 (below_size z2_1)); have n1_ := Aside0.mk (IsS83.below z2_0 hb); have n2_ := Aside0.mk (below_step z2_1 hb); clear HI134; clear HB; have HO137 := n0_; have HI134 := n1_; have HB := n2_; clear n0_ n1_ n2_; clear hb ho5) | ((with_reducible refine gate_callee (f := 69) rfl ?_); refine goesL_ (some 13) rfl rfl Tryd.func69 (by kernel_rfl) rfl #[.pointer (some ⟨gb134, 0, none⟩), .int .i64 4] rfl z2_2 ?_; (with_reducible refine (spec_l1Cur_pick.calls gb134 l0 0 0 4 t138 t139 t140 w _ ?side1 ?side2 A2.out).mono ?_); (case side1 => repeat (first | (with_reducible first | exact HI134.out | apply IsS83.alloc | apply IsS83.drewN | apply IsS83.drew | apply IsS83.set_1 | apply IsS83.set_2) | exact HI134.out)); (case side2 => repeat (first | (with_reducible first | exact HB.out | apply below_alloc | apply pw_below_drewN | apply below_drew1 | refine below_set ?_ (IsS83.ge HI134.out)) | exact HB.out)); rintro e w6 ⟨rfl, hi, hb, hk⟩; refine ⟨_, rfl, ?_⟩; have n0_ := Aside0.mk (Kd.R_mono (Kd.R_keep (IsS83.apart (show IsS83 w _ gb134 l0 0 0 from z2_0) (by (with_reducible repeat (first | apply Kd.R_alloc | apply Kd.R_drewN | apply Kd.R_drew)); exact HO137.out) (by decide)) hk (fun _ h => h.2)) (fun _ h => h.1)); have n1_ := Aside0.mk (hb); have n2_ := Aside0.mk (hi); clear HO137; clear HB; clear HI134; have HO137 := n0_; have HB := n1_; have HI134 := n2_; clear n0_ n1_ n2_; (try clear hb); (try clear hb2); (try clear hk); (try clear hi)))
  go_loopg [5, 7] k (fun kq v5 v7 w' => ∃ (x5_1 : List ByteArray) (x7_1 : Int) (x135001_1 : Int) (x135002_1 : Int), v7 = .int .i64 x7_1 ∧ Aside0 (spec_DrawJoinStrings.l0 kq x5_1 t138 x7_1 l0 x135001_1 x135002_1 = some (r1, r2)) ∧ Aside0 (kq ≤ k) ∧ Aside0 (Kd.R Kd.string 9 w' w.heap.size (fun _ => True) v5 x5_1) ∧ Aside0 (IsS83 w w' gb134 l0 x135001_1 x135002_1) ∧ Aside0 (Below w.heap.size w w'))
  case atStart => exact ⟨(y135), (0), (t139), (t140), (by first | rfl | (simp; done) | (simp [*]; done)), H', ⟨Nat.le_refl _⟩, ⟨by (with_reducible repeat (first | apply Kd.R_alloc | apply Kd.R_drewN | apply Kd.R_drew)); exact HO137.out⟩, ⟨z2_0⟩, ⟨z2_1⟩⟩
  case round =>
    clear H'
    try clear c1
    try clear p2
    try clear c6
    obtain ⟨x5_1, x7_1, x135001_1, x135002_1, rfl, HA, HK1, HO_5, HI134, HB⟩ := hrel
    cases gk with
    | zero => exact absurd HA.out (by simp [spec_DrawJoinStrings.l0])
    | succ k1 =>
      have H := HA.out
      clear HA
      simp only [spec_DrawJoinStrings.l0] at H
      by_cases c7 : x7_1 < t138
      · rw [if_pos c7] at H
        have c7b0 : decide (x7_1 < t138) = true := decide_eq_true c7
        clear c7
        replace H := Option.bind_eq_some_iff.mp H
        obtain ⟨⟨t141, t142, t143⟩, A80, H⟩ := H
        replace H : (if x5_1.length < 8796093022208 then (spec_DrawJoinStrings.l0 k1 (x5_1 ++ [t141]) t138 (wrap64 (x7_1 + 1)) l0 t142 t143) else (none)) = some (r1, r2) := H
        have A8 := Aside0.mk A80
        clear A80
        by_cases c9 : x5_1.length < 8796093022208
        · rw [if_pos c9] at H
          have LMc9 := Aside0.mk c9
          clear c9
          obtain ⟨y144, hy144⟩ : ∃ y_ : List ByteArray, y_ = (x5_1 ++ [t141]) := ⟨_, rfl⟩
          replace H : (spec_DrawJoinStrings.l0 k1 y144 t138 (wrap64 (x7_1 + 1)) l0 t142 t143) = some (r1, r2) := by first | (rw [hy144]; with_reducible exact H) | (have H2_ := (Option.bind_some _ _).symm.trans H; rw [hy144]; with_reducible exact H2_) | (have H2_ := (Option.bind_some _ _).symm.trans H; with_reducible exact H2_) | with_reducible exact H | (rw [hy144]; exact H) | exact H
          have Ny144 := Aside0.mk hy144
          clear hy144
          have H' := Aside0.mk H
          clear H
          go_wp2_with (first | ((with_reducible refine gate_callee (f := 66) rfl ?_); refine goesL_ (some 21) rfl rfl Tryd.func66 (by kernel_rfl) rfl #[.pointer (some ⟨gb134, 0, none⟩)] rfl z2_2 ?_; (with_reducible refine (spec_l1Cur_any1.calls gb134 l0 x135001_1 x135002_1 t141 t142 t143 w _ ?side1 ?side2 A8.out).mono ?_); (case side1 => repeat (first | (with_reducible first | exact HI134.out | apply IsS83.alloc | apply IsS83.drewN | apply IsS83.drew | apply IsS83.set_1 | apply IsS83.set_2) | exact HI134.out)); (case side2 => repeat (first | (with_reducible first | exact HB.out | apply below_alloc | apply pw_below_drewN | apply below_drew1 | refine below_set ?_ (IsS83.ge HI134.out)) | exact HB.out)); rintro e w10 ⟨rfl, hi, hb, hk⟩; refine ⟨_, rfl, ?_⟩; have n0_ := Aside0.mk (Kd.R_mono (Kd.R_keep (IsS83.apart (show IsS83 w _ gb134 l0 x135001_1 x135002_1 from z2_0) z2_4 (by decide)) hk (fun _ h => h.2)) (fun _ h => h.1)); have n1_ := Aside0.mk (hb); have n2_ := Aside0.mk (hi); clear HO_5; clear HB; clear HI134; have HO_5 := n0_; have HB := n1_; have HI134 := n2_; clear n0_ n1_ n2_; (try clear hb); (try clear hb2); (try clear hk); (try clear hi)) | ((with_reducible refine gate_builtin (b := .append) (xs := #[.tmp 19, .tmp 22]) rfl ?_); at_builtin; refine Kd.R_append Kd.string (w0 := w) w.heap.size rfl (.tmp 19) (.tmp 22) 26 9 (.string ⟨#[]⟩) 16 rfl Tryd.underlying26 info9 rfl (by decide) (by omega) u5 x5_1 t141 [.string t141] (fun _ => True) (fun _ => False) rfl rfl ?aP (fun _ hk => hk.elim) ?aF ?aO ?aB ?aS ?aL ?_; (case aP => exact rfl); (case aB => exact z2_1); (case aF => exact (fun _ _ => trivial)); (case aO => exact z2_4); (case aS => exact (below_size z2_1)); (case aL => have := LMc9.out; omega); intro v145 w11 ho hb hg hat; rw [← Ny144.out] at ho; have n0_ := Aside0.mk (IsS83.grown z2_0 hg (IsS83.own_ne HI134.out HO_5.out (by decide))); have n1_ := Aside0.mk (hb); have n2_ := Aside0.mk (ho); clear HI134; clear HB; clear HO_5; have HI134 := n0_; have HB := n1_; have HO146 := n2_; clear n0_ n1_ n2_; clear ho hb hg hat))
          go_roundg k1
          case measure => have := HK1.out; omega
          case rel => exact ⟨(y144), (wrap64 (x7_1 + 1)), (t142), (t143), (by first | rfl | (simp; done) | (simp [*]; done)), H', ⟨by have := HK1.out; omega⟩, ⟨by (with_reducible repeat (first | apply Kd.R_alloc | apply Kd.R_drewN | apply Kd.R_drew)); exact HO146.out⟩, ⟨z2_0⟩, ⟨z2_1⟩⟩
        · rw [if_neg c9] at H
          exact absurd H (by simp)
      · rw [if_neg c7] at H
        have c7b0 : decide (x7_1 < t138) = false := decide_eq_false c7
        clear c7
        replace H := Option.bind_eq_some_iff.mp H
        obtain ⟨⟨t147, t148, t149⟩, A120, H⟩ := H
        replace H : (if t147 = true then ((spec_l1Cur_pick.f l0 t148 t149 20).bind fun bt150 => (if 0 ≤ (wrap64 (3990 + bt150.1)) then (if (wrap64 (3990 + bt150.1) : Int).toNat ≤ 281474976710656 then (if x5_1.length < 8796093022208 then ((spec_l1Cur_of.f l0 bt150.2.1 bt150.2.2 (([(⟨#[44]⟩ : ByteArray), (⟨#[59]⟩ : ByteArray), (⟨#[59]⟩ : ByteArray), (⟨#[]⟩ : ByteArray), (⟨#[97, 98]⟩ : ByteArray)] : List ByteArray))).bind fun bt162 => (some ((x5_1 ++ [strOfNums (List.replicate (wrap64 (3990 + bt150.1) : Int).toNat 0)]), bt162.1))) else (none)) else (none)) else (none))) else ((spec_l1Cur_of.f l0 t148 t149 (([(⟨#[44]⟩ : ByteArray), (⟨#[59]⟩ : ByteArray), (⟨#[59]⟩ : ByteArray), (⟨#[]⟩ : ByteArray), (⟨#[97, 98]⟩ : ByteArray)] : List ByteArray))).bind fun bt168 => (some (x5_1, bt168.1)))) = some (r1, r2) := H
        have A12 := Aside0.mk A120
        clear A120
        by_cases c13 : t147 = true
        · subst c13
          have H1 : ((spec_l1Cur_pick.f l0 t148 t149 20).bind fun bt150 => (if 0 ≤ (wrap64 (3990 + bt150.1)) then (if (wrap64 (3990 + bt150.1) : Int).toNat ≤ 281474976710656 then (if x5_1.length < 8796093022208 then ((spec_l1Cur_of.f l0 bt150.2.1 bt150.2.2 (([(⟨#[44]⟩ : ByteArray), (⟨#[59]⟩ : ByteArray), (⟨#[59]⟩ : ByteArray), (⟨#[]⟩ : ByteArray), (⟨#[97, 98]⟩ : ByteArray)] : List ByteArray))).bind fun bt162 => (some ((x5_1 ++ [strOfNums (List.replicate (wrap64 (3990 + bt150.1) : Int).toNat 0)]), bt162.1))) else (none)) else (none)) else (none))) = some (r1, r2) := by rw [if_pos rfl] at H; exact H
          clear H
          have H := H1
          clear H1
          replace H := Option.bind_eq_some_iff.mp H
          obtain ⟨⟨t150, t151, t152⟩, A140, H⟩ := H
          replace H : (if 0 ≤ (wrap64 (3990 + t150)) then (if (wrap64 (3990 + t150) : Int).toNat ≤ 281474976710656 then (if x5_1.length < 8796093022208 then ((spec_l1Cur_of.f l0 t151 t152 (([(⟨#[44]⟩ : ByteArray), (⟨#[59]⟩ : ByteArray), (⟨#[59]⟩ : ByteArray), (⟨#[]⟩ : ByteArray), (⟨#[97, 98]⟩ : ByteArray)] : List ByteArray))).bind fun bt162 => (some ((x5_1 ++ [strOfNums (List.replicate (wrap64 (3990 + t150) : Int).toNat 0)]), bt162.1))) else (none)) else (none)) else (none)) = some (r1, r2) := H
          have A14 := Aside0.mk A140
          clear A140
          obtain ⟨ji15, hji15⟩ : ∃ j_ : Int, (wrap64 (3990 + t150)) = j_ := ⟨_, rfl⟩
          replace H : (if 0 ≤ (ji15) then (if (ji15 : Int).toNat ≤ 281474976710656 then (if x5_1.length < 8796093022208 then ((spec_l1Cur_of.f l0 t151 t152 (([(⟨#[44]⟩ : ByteArray), (⟨#[59]⟩ : ByteArray), (⟨#[59]⟩ : ByteArray), (⟨#[]⟩ : ByteArray), (⟨#[97, 98]⟩ : ByteArray)] : List ByteArray))).bind fun bt162 => (some ((x5_1 ++ [strOfNums (List.replicate (ji15 : Int).toNat 0)]), bt162.1))) else (none)) else (none)) else (none)) = some (r1, r2) := by first | (rw [hji15] at H; exact H) | (simp only [hji15] at H ⊢; exact H)
          (try rw [hji15] at A12)
          (try rw [hji15] at A14)
          have hji15w : (IntKind.i64.wrap (3990 + t150)) = ji15 := (i64_w _).trans hji15
          by_cases c16 : 0 ≤ (ji15)
          · rw [if_pos c16] at H
            have c16b0 := eq_true c16
            have c16b1 : decide (0 ≤ (ji15)) = true := decide_eq_true c16
            clear c16
            by_cases c17 : (ji15 : Int).toNat ≤ 281474976710656
            · rw [if_pos c17] at H
              have c17b0 := eq_true c17
              have c17b1 : decide ((ji15 : Int).toNat ≤ 281474976710656) = true := decide_eq_true c17
              clear c17
              obtain ⟨y153, hy153⟩ : ∃ y_ : List Int, y_ = (List.replicate (ji15 : Int).toNat 0) := ⟨_, rfl⟩
              replace H : (if x5_1.length < 8796093022208 then ((spec_l1Cur_of.f l0 t151 t152 (([(⟨#[44]⟩ : ByteArray), (⟨#[59]⟩ : ByteArray), (⟨#[59]⟩ : ByteArray), (⟨#[]⟩ : ByteArray), (⟨#[97, 98]⟩ : ByteArray)] : List ByteArray))).bind fun bt162 => (some ((x5_1 ++ [strOfNums y153]), bt162.1))) else (none)) = some (r1, r2) := by first | (rw [hy153]; with_reducible exact H) | (have H2_ := (Option.bind_some _ _).symm.trans H; rw [hy153]; with_reducible exact H2_) | (have H2_ := (Option.bind_some _ _).symm.trans H; with_reducible exact H2_) | with_reducible exact H | (rw [hy153]; exact H) | exact H
              have Ny153 := Aside0.mk hy153
              clear hy153
              by_cases c18 : x5_1.length < 8796093022208
              · rw [if_pos c18] at H
                have LMc18 := Aside0.mk c18
                clear c18
                obtain ⟨y156, hy156⟩ : ∃ y_ : List ByteArray, y_ = (x5_1 ++ [strOfNums y153]) := ⟨_, rfl⟩
                replace H : ((spec_l1Cur_of.f l0 t151 t152 (([(⟨#[44]⟩ : ByteArray), (⟨#[59]⟩ : ByteArray), (⟨#[59]⟩ : ByteArray), (⟨#[]⟩ : ByteArray), (⟨#[97, 98]⟩ : ByteArray)] : List ByteArray))).bind fun bt162 => (some (y156, bt162.1))) = some (r1, r2) := by first | (rw [hy156]; with_reducible exact H) | (have H2_ := (Option.bind_some _ _).symm.trans H; rw [hy156]; with_reducible exact H2_) | (have H2_ := (Option.bind_some _ _).symm.trans H; with_reducible exact H2_) | with_reducible exact H | (rw [hy156]; exact H) | exact H
                have Ny156 := Aside0.mk hy156
                clear hy156
                obtain ⟨y159, hy159⟩ : ∃ y_ : List ByteArray, y_ = (([(⟨#[44]⟩ : ByteArray), (⟨#[59]⟩ : ByteArray), (⟨#[59]⟩ : ByteArray), (⟨#[]⟩ : ByteArray), (⟨#[97, 98]⟩ : ByteArray)] : List ByteArray)) := ⟨_, rfl⟩
                replace H : ((spec_l1Cur_of.f l0 t151 t152 y159).bind fun bt162 => (some (y156, bt162.1))) = some (r1, r2) := by first | (rw [hy159]; with_reducible exact H) | (have H2_ := (Option.bind_some _ _).symm.trans H; rw [hy159]; with_reducible exact H2_) | (have H2_ := (Option.bind_some _ _).symm.trans H; with_reducible exact H2_) | with_reducible exact H | (rw [hy159]; exact H) | exact H
                have Ny159 := Aside0.mk hy159
                clear hy159
                replace H := Option.bind_eq_some_iff.mp H
                obtain ⟨⟨t162, t163, t164⟩, A190, H⟩ := H
                replace H : (some (y156, t162)) = some (r1, r2) := H
                have A19 := Aside0.mk A190
                clear A190
                simp only [Option.some.injEq, Prod.mk.injEq] at H
                obtain ⟨rfl, rfl⟩ := H
                go_wp2_with (first | ((with_reducible refine gate_callee (f := 70) rfl ?_); refine goesL_ (some 25) rfl rfl Tryd.func70 (by kernel_rfl) rfl #[.pointer (some ⟨gb134, 0, none⟩), .int .i64 20] rfl z2_2 ?_; (with_reducible refine (spec_l1Cur_one.calls gb134 l0 x135001_1 x135002_1 20 true t148 t149 w _ ?side1 ?side2 A12.out).mono ?_); (case side1 => repeat (first | (with_reducible first | exact HI134.out | apply IsS83.alloc | apply IsS83.drewN | apply IsS83.drew | apply IsS83.set_1 | apply IsS83.set_2) | exact HI134.out)); (case side2 => repeat (first | (with_reducible first | exact HB.out | apply below_alloc | apply pw_below_drewN | apply below_drew1 | refine below_set ?_ (IsS83.ge HI134.out)) | exact HB.out)); rintro e w20 ⟨rfl, hi, hb, hk⟩; refine ⟨_, rfl, ?_⟩; have n0_ := Aside0.mk (Kd.R_mono (Kd.R_keep (IsS83.apart (show IsS83 w _ gb134 l0 x135001_1 x135002_1 from z2_0) z2_4 (by decide)) hk (fun _ h => h.2)) (fun _ h => h.1)); have n1_ := Aside0.mk (hb); have n2_ := Aside0.mk (hi); clear HO_5; clear HB; clear HI134; have HO_5 := n0_; have HB := n1_; have HI134 := n2_; clear n0_ n1_ n2_; (try clear hb); (try clear hb2); (try clear hk); (try clear hi)) | ((with_reducible refine gate_callee (f := 69) rfl ?_); refine goesL_ (some 28) rfl rfl Tryd.func69 (by kernel_rfl) rfl #[.pointer (some ⟨gb134, 0, none⟩), .int .i64 20] rfl z2_2 ?_; (with_reducible refine (spec_l1Cur_pick.calls gb134 l0 t148 t149 20 t150 t151 t152 w _ ?side1 ?side2 A14.out).mono ?_); (case side1 => repeat (first | (with_reducible first | exact HI134.out | apply IsS83.alloc | apply IsS83.drewN | apply IsS83.drew | apply IsS83.set_1 | apply IsS83.set_2) | exact HI134.out)); (case side2 => repeat (first | (with_reducible first | exact HB.out | apply below_alloc | apply pw_below_drewN | apply below_drew1 | refine below_set ?_ (IsS83.ge HI134.out)) | exact HB.out)); rintro e w21 ⟨rfl, hi, hb, hk⟩; refine ⟨_, rfl, ?_⟩; have n0_ := Aside0.mk (Kd.R_mono (Kd.R_keep (IsS83.apart (show IsS83 w _ gb134 l0 t148 t149 from z2_0) z2_4 (by decide)) hk (fun _ h => h.2)) (fun _ h => h.1)); have n1_ := Aside0.mk (hb); have n2_ := Aside0.mk (hi); clear HO_5; clear HB; clear HI134; have HO_5 := n0_; have HB := n1_; have HI134 := n2_; clear n0_ n1_ n2_; (try clear hb); (try clear hb2); (try clear hk); (try clear hi)) | ((with_reducible refine gate_dst (N := 30) rfl ?_); refine Kd.R_make (Kd.int .u8) _ 5 rfl (N := 30) rfl 22 _ _ rfl ji15 rfl rfl Tryd.underlying22 (.int .u8 0) 1 info5 rfl (by decide) (by omega) 0 (ok := fun _ => True) (okp := fun _ => True) rfl (fun _ hk => hk) trivial (of_decide_eq_true (by first | (with_reducible assumption) | assumption)) (Nat.le_trans (Nat.mul_le_mul_right _ (of_decide_eq_true (by first | (with_reducible assumption) | assumption) : ji15.toNat ≤ 281474976710656)) (by omega)) (Below.refl _ _) (Nat.le_refl _) ?_; intro v154 w22 ho23 hb hg_ hnew_; clear hg_ hnew_; (first | rw [← Ny153.out] at ho23 | (simp only [Int.reduceToNat] at ho23; rw [← Ny153.out] at ho23)); have n0_ := Aside0.mk (Kd.R_below z2_4 hb); have n1_ := Aside0.mk (Kd.R_lower ho23 (below_size z2_1)); have n2_ := Aside0.mk (IsS83.below z2_0 hb); have n3_ := Aside0.mk (below_step z2_1 hb); clear HO_5; clear HI134; clear HB; have HO_5 := n0_; have HO155 := n1_; have HI134 := n2_; have HB := n3_; clear n0_ n1_ n2_ n3_; clear hb ho23; have hcv24 := own_string (P := Tryd.prog) Tryd.underlying22 Tryd.underlying5 Tryd.underlying9 (Kd.own_of_R HO155.out)) | ((with_reducible refine gate_builtin (b := .append) (xs := #[.tmp 26, .tmp 32]) rfl ?_); at_builtin; refine Kd.R_append Kd.string (w0 := w) w.heap.size rfl (.tmp 26) (.tmp 32) 26 9 (.string ⟨#[]⟩) 16 rfl Tryd.underlying26 info9 rfl (by decide) (by omega) u5 x5_1 (strOfNums y153) [.string (strOfNums y153)] (fun _ => True) (fun _ => False) rfl rfl ?aP (fun _ hk => hk.elim) ?aF ?aO ?aB ?aS ?aL ?_; (case aP => exact rfl); (case aB => exact z2_1); (case aF => exact (fun _ _ => trivial)); (case aO => exact z2_4); (case aS => exact (below_size z2_1)); (case aL => have := LMc18.out; omega); intro v157 w25 ho hb hg hat; rw [← Ny156.out] at ho; have n0_ := Aside0.mk (IsS83.grown z2_0 hg (IsS83.own_ne HI134.out HO_5.out (by decide))); have n1_ := Aside0.mk (Kd.R_over' z2_7 (Kd.R_typed z2_4) (by decide) hg); have n2_ := Aside0.mk (hb); have n3_ := Aside0.mk (ho); clear HI134; clear HO155; clear HB; clear HO_5; have HI134 := n0_; have HO155 := n1_; have HB := n2_; have HO158 := n3_; clear n0_ n1_ n2_ n3_; clear ho hb hg hat) | ((with_reducible refine gate_dst (N := 36) rfl ?_); refine Kd.R_lit Kd.string _ 9 ?hg (N := 36) ?hd (xs := ([(⟨#[44]⟩ : ByteArray), (⟨#[59]⟩ : ByteArray), (⟨#[59]⟩ : ByteArray), (⟨#[]⟩ : ByteArray), (⟨#[97, 98]⟩ : ByteArray)] : List ByteArray)) (inner := [.string (⟨#[44]⟩ : ByteArray), .string (⟨#[59]⟩ : ByteArray), .string (⟨#[59]⟩ : ByteArray), .string (⟨#[]⟩ : ByteArray), .string (⟨#[97, 98]⟩ : ByteArray)]) (ok := fun _ => True) (okp := fun _ => True) ?hr ?hp (fun _ hk => hk) trivial (Below.refl _ _) (Nat.le_refl _) (by simp) ?_; (case hd => rfl); (case hg => rfl); (case hr => first | (go_simp; done) | (go_simp; rfl)); (case hp => exact (Reps.one (show Kd.M Kd.string _ _ _ (⟨#[44]⟩ : ByteArray) [.string (⟨#[44]⟩ : ByteArray)] from rfl) (Reps.one (show Kd.M Kd.string _ _ _ (⟨#[59]⟩ : ByteArray) [.string (⟨#[59]⟩ : ByteArray)] from rfl) (Reps.one (show Kd.M Kd.string _ _ _ (⟨#[59]⟩ : ByteArray) [.string (⟨#[59]⟩ : ByteArray)] from rfl) (Reps.one (show Kd.M Kd.string _ _ _ (⟨#[]⟩ : ByteArray) [.string (⟨#[]⟩ : ByteArray)] from rfl) (Reps.one (show Kd.M Kd.string _ _ _ (⟨#[97, 98]⟩ : ByteArray) [.string (⟨#[97, 98]⟩ : ByteArray)] from rfl) (Reps.none _ _))))))); intro v160 w26 ho27 hb hg_ hnew_; clear hg_ hnew_; (first | rw [← Ny159.out] at ho27 | (simp only [Int.reduceToNat] at ho27; rw [← Ny159.out] at ho27)); have n0_ := Aside0.mk (Kd.R_below z2_7 hb); have n1_ := Aside0.mk (Kd.R_elder' z2_8 (Kd.R_base ho27) hb); have n2_ := Aside0.mk (Kd.R_lower (Kd.R_new' ho27 (Kd.R_lt z2_8)) (below_size z2_1)); have n3_ := Aside0.mk (IsS83.below z2_0 hb); have n4_ := Aside0.mk (below_step z2_1 hb); clear HO155; clear HO158; clear HI134; clear HB; have HO155 := n0_; have HO158 := n1_; have HO161 := n2_; have HI134 := n3_; have HB := n4_; clear n0_ n1_ n2_ n3_ n4_; clear hb ho27; obtain ⟨Ao28, co28, eo28⟩ := Kd.R_slice HO161.out; subst eo28) | ((with_reducible refine gate_callee (f := 67) rfl ?_); refine goesL_ (some 37) rfl rfl Tryd.func67 (by kernel_rfl) rfl #[.pointer (some ⟨gb134, 0, none⟩), .slice Ao28 y159.length co28] rfl z2_2 ?_; (with_reducible refine (spec_l1Cur_of.calls gb134 l0 t151 t152 _ _ y159 t162 t163 t164 w _ ?side1 ?side2 ?side3 ?side4 ?side5 A19.out).mono ?_); (case side1 => repeat (first | (with_reducible first | exact HI134.out | apply IsS83.alloc | apply IsS83.drewN | apply IsS83.drew | apply IsS83.set_1 | apply IsS83.set_2) | exact HI134.out)); (case side2 => repeat (first | (with_reducible first | exact HB.out | apply below_alloc | apply pw_below_drewN | apply below_drew1 | refine below_set ?_ (IsS83.ge HI134.out)) | exact HB.out)); (case side3 => repeat (first | exact (Kd.R_reads' HO161.out).2.2 | (with_reducible refine Kd.C_alloc ?_ _) | (with_reducible refine Kd.C_drewN ?_ _) | (with_reducible refine Kd.C_drew ?_))); (case side4 => exact (Kd.R_reads' HO161.out).2.1); (case side5 => exact far_slice (IsS83.own_ne HI134.out HO161.out (by decide))); rintro e w29 ⟨rfl, hi, hb, hk⟩; refine ⟨_, rfl, ?_⟩; have n0_ := Aside0.mk (Kd.R_mono (Kd.R_keep (IsS83.apart (show IsS83 w _ gb134 l0 t151 t152 from z2_0) z2_7 (by decide)) hk (fun _ h => h.2)) (fun _ h => h.1)); have n1_ := Aside0.mk (Kd.R_mono (Kd.R_keep (IsS83.apart (show IsS83 w _ gb134 l0 t151 t152 from z2_0) z2_8 (by decide)) hk (fun _ h => h.2)) (fun _ h => h.1)); have n2_ := Aside0.mk (Kd.R_mono (Kd.R_keep (IsS83.apart (show IsS83 w _ gb134 l0 t151 t152 from z2_0) (by (with_reducible repeat (first | apply Kd.R_alloc | apply Kd.R_drewN | apply Kd.R_drew)); exact HO161.out) (by decide)) hk (fun _ h => h.2)) (fun _ h => h.1)); have n3_ := Aside0.mk (hb); have n4_ := Aside0.mk (hi); clear HO155; clear HO158; clear HO161; clear HB; clear HI134; have HO155 := n0_; have HO158 := n1_; have HO161 := n2_; have HB := n3_; have HI134 := n4_; clear n0_ n1_ n2_ n3_ n4_; (try clear hb); (try clear hb2); (try clear hk); (try clear hi)))
                go_ret2
                exact ⟨_, by first | rfl | (simp [errW_none, errW_some] <;> rfl) | (simp only [← hji15]; first | rfl | (simp [errW_none, errW_some] <;> rfl)) | (simp [*, errW_none, errW_some] <;> rfl), by (with_reducible repeat (first | apply Kd.R_alloc | apply Kd.R_drewN | apply Kd.R_drew)); exact Kd.R_mono HO158.out (fun _ hk => trivial), z2_1⟩
              · rw [if_neg c18] at H
                exact absurd H (by simp)
            · rw [if_neg c17] at H
              exact absurd H (by simp)
          · rw [if_neg c16] at H
            exact absurd H (by simp)
        · replace c13 := Bool.eq_false_iff.mpr c13
          subst c13
          have H1 : ((spec_l1Cur_of.f l0 t148 t149 (([(⟨#[44]⟩ : ByteArray), (⟨#[59]⟩ : ByteArray), (⟨#[59]⟩ : ByteArray), (⟨#[]⟩ : ByteArray), (⟨#[97, 98]⟩ : ByteArray)] : List ByteArray))).bind fun bt168 => (some (x5_1, bt168.1))) = some (r1, r2) := by rw [if_neg (show ¬ (false = true) by decide)] at H; exact H
          clear H
          have H := H1
          clear H1
          obtain ⟨y165, hy165⟩ : ∃ y_ : List ByteArray, y_ = (([(⟨#[44]⟩ : ByteArray), (⟨#[59]⟩ : ByteArray), (⟨#[59]⟩ : ByteArray), (⟨#[]⟩ : ByteArray), (⟨#[97, 98]⟩ : ByteArray)] : List ByteArray)) := ⟨_, rfl⟩
          replace H : ((spec_l1Cur_of.f l0 t148 t149 y165).bind fun bt168 => (some (x5_1, bt168.1))) = some (r1, r2) := by first | (rw [hy165]; with_reducible exact H) | (have H2_ := (Option.bind_some _ _).symm.trans H; rw [hy165]; with_reducible exact H2_) | (have H2_ := (Option.bind_some _ _).symm.trans H; with_reducible exact H2_) | with_reducible exact H | (rw [hy165]; exact H) | exact H
          have Ny165 := Aside0.mk hy165
          clear hy165
          replace H := Option.bind_eq_some_iff.mp H
          obtain ⟨⟨t168, t169, t170⟩, A300, H⟩ := H
          replace H : (some (x5_1, t168)) = some (r1, r2) := H
          have A30 := Aside0.mk A300
          clear A300
          simp only [Option.some.injEq, Prod.mk.injEq] at H
          obtain ⟨rfl, rfl⟩ := H
          go_wp2_with (first | ((with_reducible refine gate_callee (f := 70) rfl ?_); refine goesL_ (some 25) rfl rfl Tryd.func70 (by kernel_rfl) rfl #[.pointer (some ⟨gb134, 0, none⟩), .int .i64 20] rfl z2_2 ?_; (with_reducible refine (spec_l1Cur_one.calls gb134 l0 x135001_1 x135002_1 20 false t148 t149 w _ ?side1 ?side2 A12.out).mono ?_); (case side1 => repeat (first | (with_reducible first | exact HI134.out | apply IsS83.alloc | apply IsS83.drewN | apply IsS83.drew | apply IsS83.set_1 | apply IsS83.set_2) | exact HI134.out)); (case side2 => repeat (first | (with_reducible first | exact HB.out | apply below_alloc | apply pw_below_drewN | apply below_drew1 | refine below_set ?_ (IsS83.ge HI134.out)) | exact HB.out)); rintro e w31 ⟨rfl, hi, hb, hk⟩; refine ⟨_, rfl, ?_⟩; have n0_ := Aside0.mk (Kd.R_mono (Kd.R_keep (IsS83.apart (show IsS83 w _ gb134 l0 x135001_1 x135002_1 from z2_0) z2_4 (by decide)) hk (fun _ h => h.2)) (fun _ h => h.1)); have n1_ := Aside0.mk (hb); have n2_ := Aside0.mk (hi); clear HO_5; clear HB; clear HI134; have HO_5 := n0_; have HB := n1_; have HI134 := n2_; clear n0_ n1_ n2_; (try clear hb); (try clear hb2); (try clear hk); (try clear hi)) | ((with_reducible refine gate_dst (N := 36) rfl ?_); refine Kd.R_lit Kd.string _ 9 ?hg (N := 36) ?hd (xs := ([(⟨#[44]⟩ : ByteArray), (⟨#[59]⟩ : ByteArray), (⟨#[59]⟩ : ByteArray), (⟨#[]⟩ : ByteArray), (⟨#[97, 98]⟩ : ByteArray)] : List ByteArray)) (inner := [.string (⟨#[44]⟩ : ByteArray), .string (⟨#[59]⟩ : ByteArray), .string (⟨#[59]⟩ : ByteArray), .string (⟨#[]⟩ : ByteArray), .string (⟨#[97, 98]⟩ : ByteArray)]) (ok := fun _ => True) (okp := fun _ => True) ?hr ?hp (fun _ hk => hk) trivial (Below.refl _ _) (Nat.le_refl _) (by simp) ?_; (case hd => rfl); (case hg => rfl); (case hr => first | (go_simp; done) | (go_simp; rfl)); (case hp => exact (Reps.one (show Kd.M Kd.string _ _ _ (⟨#[44]⟩ : ByteArray) [.string (⟨#[44]⟩ : ByteArray)] from rfl) (Reps.one (show Kd.M Kd.string _ _ _ (⟨#[59]⟩ : ByteArray) [.string (⟨#[59]⟩ : ByteArray)] from rfl) (Reps.one (show Kd.M Kd.string _ _ _ (⟨#[59]⟩ : ByteArray) [.string (⟨#[59]⟩ : ByteArray)] from rfl) (Reps.one (show Kd.M Kd.string _ _ _ (⟨#[]⟩ : ByteArray) [.string (⟨#[]⟩ : ByteArray)] from rfl) (Reps.one (show Kd.M Kd.string _ _ _ (⟨#[97, 98]⟩ : ByteArray) [.string (⟨#[97, 98]⟩ : ByteArray)] from rfl) (Reps.none _ _))))))); intro v166 w32 ho33 hb hg_ hnew_; clear hg_ hnew_; (first | rw [← Ny165.out] at ho33 | (simp only [Int.reduceToNat] at ho33; rw [← Ny165.out] at ho33)); have n0_ := Aside0.mk (Kd.R_elder' z2_4 (Kd.R_base ho33) hb); have n1_ := Aside0.mk (Kd.R_lower (Kd.R_new' ho33 (Kd.R_lt z2_4)) (below_size z2_1)); have n2_ := Aside0.mk (IsS83.below z2_0 hb); have n3_ := Aside0.mk (below_step z2_1 hb); clear HO_5; clear HI134; clear HB; have HO_5 := n0_; have HO167 := n1_; have HI134 := n2_; have HB := n3_; clear n0_ n1_ n2_ n3_; clear hb ho33; obtain ⟨Ao34, co34, eo34⟩ := Kd.R_slice HO167.out; subst eo34) | ((with_reducible refine gate_callee (f := 67) rfl ?_); refine goesL_ (some 37) rfl rfl Tryd.func67 (by kernel_rfl) rfl #[.pointer (some ⟨gb134, 0, none⟩), .slice Ao34 y165.length co34] rfl z2_2 ?_; (with_reducible refine (spec_l1Cur_of.calls gb134 l0 t148 t149 _ _ y165 t168 t169 t170 w _ ?side1 ?side2 ?side3 ?side4 ?side5 A30.out).mono ?_); (case side1 => repeat (first | (with_reducible first | exact HI134.out | apply IsS83.alloc | apply IsS83.drewN | apply IsS83.drew | apply IsS83.set_1 | apply IsS83.set_2) | exact HI134.out)); (case side2 => repeat (first | (with_reducible first | exact HB.out | apply below_alloc | apply pw_below_drewN | apply below_drew1 | refine below_set ?_ (IsS83.ge HI134.out)) | exact HB.out)); (case side3 => repeat (first | exact (Kd.R_reads' HO167.out).2.2 | (with_reducible refine Kd.C_alloc ?_ _) | (with_reducible refine Kd.C_drewN ?_ _) | (with_reducible refine Kd.C_drew ?_))); (case side4 => exact (Kd.R_reads' HO167.out).2.1); (case side5 => exact far_slice (IsS83.own_ne HI134.out HO167.out (by decide))); rintro e w35 ⟨rfl, hi, hb, hk⟩; refine ⟨_, rfl, ?_⟩; have n0_ := Aside0.mk (Kd.R_mono (Kd.R_keep (IsS83.apart (show IsS83 w _ gb134 l0 t148 t149 from z2_0) z2_4 (by decide)) hk (fun _ h => h.2)) (fun _ h => h.1)); have n1_ := Aside0.mk (Kd.R_mono (Kd.R_keep (IsS83.apart (show IsS83 w _ gb134 l0 t148 t149 from z2_0) (by (with_reducible repeat (first | apply Kd.R_alloc | apply Kd.R_drewN | apply Kd.R_drew)); exact HO167.out) (by decide)) hk (fun _ h => h.2)) (fun _ h => h.1)); have n2_ := Aside0.mk (hb); have n3_ := Aside0.mk (hi); clear HO_5; clear HO167; clear HB; clear HI134; have HO_5 := n0_; have HO167 := n1_; have HB := n2_; have HI134 := n3_; clear n0_ n1_ n2_ n3_; (try clear hb); (try clear hb2); (try clear hk); (try clear hi)))
          go_ret2
          exact ⟨_, z2_5, by (with_reducible repeat (first | apply Kd.R_alloc | apply Kd.R_drewN | apply Kd.R_drew)); exact Kd.R_mono HO_5.out (fun _ hk => trivial), z2_1⟩
end Go.Proofs.YtgclcjohnnpejaaDoor.Pt
end

section
namespace Go.Proofs.YtgclcjohnnpejaaDoor.Pt
open Go.RowKit Go.Proofs.YtgclcjohnnpejaaDoorW.PrintWords Go.Proofs.YtgclcjohnnpejaaDoorW.PrintLast Go.Proofs.YtgclcjohnnpejaaDoorW.PrintMore
attribute [local go_sem] max2_int min2_int max_two min_two max_three min_three max_four min_four
set_option linter.unusedVariables false
set_option linter.unusedSimpArgs false
theorem z3_0 {P : Prop} (h : P := by repeat (first | (with_reducible first | exact HB.out | apply below_alloc | apply pw_below_drewN | apply below_drew1) | exact HB.out)) : P := h
theorem z3_1 {P : Prop} (h : P := by first | (with_reducible assumption) | assumption) : P := h
theorem z3_2 {P : Prop} (h : P := by first | rfl | (simp; done) | (simp [*]; done)) : P := h
theorem z3_3 {P : Prop} (h : P := by first | rfl | (simp [errW_none, errW_some] <;> rfl) | (simp [*, errW_none, errW_some] <;> rfl)) : P := h
mutual
def impl_JoinStrings.j0 : Nat → List ByteArray → ByteArray → Bool → Option (ByteArray × Bool)
  | 0, _, _, _ => none
  | k + 1, x0, x1, x16 => if x16 = true then (some ((⟨#[]⟩ : ByteArray), false)) else (impl_JoinStrings.l0 k x0 x1 (wrap64 ((x0.length : Int) - 1)) x0 (x0.length : Int) 0)
def impl_JoinStrings.l0 : Nat → List ByteArray → ByteArray → Int → List ByteArray → Int → Int → Option (ByteArray × Bool)
  | 0, _, _, _, _, _, _ => none
  | k + 1, x0, x1, x6, x20, x21, x22 => if x22 < x21 then (if 0 ≤ x22 then (if x22 < (x20.length : Int) then (if (wrap64 (x6 + ((rdOf ByteArray.empty x20 x22).size : Int))) > 4000 then (some ((⟨#[]⟩ : ByteArray), false)) else ((strings_Contains.f (rdOf ByteArray.empty x20 x22) x1).bind fun t172 => (if t172 = true then (some ((⟨#[]⟩ : ByteArray), false)) else (impl_JoinStrings.l0 k x0 x1 (wrap64 (x6 + ((rdOf ByteArray.empty x20 x22).size : Int))) x20 x21 (wrap64 (x22 + 1)))))) else (none)) else (none)) else ((strings_Join.f x0 x1).bind fun t173 => (some (t173, true)))
end
def impl_JoinStrings.f (k : Nat) (l0 : List ByteArray) (a1 : ByteArray) : Option (ByteArray × Bool) := if (l0.length : Int) = 0 then (impl_JoinStrings.j0 k l0 a1 true) else (impl_JoinStrings.j0 k l0 a1 ((a1.size : Int) != 1))
theorem impl_JoinStrings.mono_l : ∀ k, (∀ y0 y1 y2, LeO (impl_JoinStrings.j0 k y0 y1 y2) (impl_JoinStrings.j0 (k + 1) y0 y1 y2)) ∧ (∀ y0 y1 y2 y3 y4 y5, LeO (impl_JoinStrings.l0 k y0 y1 y2 y3 y4 y5) (impl_JoinStrings.l0 (k + 1) y0 y1 y2 y3 y4 y5))
  | 0 => ⟨fun _ _ _ r h => by simp [impl_JoinStrings.j0] at h, fun _ _ _ _ _ _ r h => by simp [impl_JoinStrings.l0] at h⟩
  | k + 1 => by
    obtain ⟨ih0, ih1⟩ := impl_JoinStrings.mono_l k
    refine ⟨?_, ?_⟩
    · intro y0 y1 y2
      unfold impl_JoinStrings.j0
      repeat' first
      | (with_reducible exact ih0 _ _ _)
      | (with_reducible exact ih1 _ _ _ _ _ _)
      | (with_reducible exact LeO.refl _)
      | (with_reducible exact LeO.none _)
      | (with_reducible refine LeO.ite ?_ ?_)
      | (with_reducible refine LeO.bind ?_ (fun _ => ?_))
      | exact ih0 _ _ _
      | exact ih1 _ _ _ _ _ _
      | exact LeO.none _
      | refine LeO.ite ?_ ?_
      | refine LeO.bind ?_ (fun _ => ?_)
    · intro y0 y1 y2 y3 y4 y5
      unfold impl_JoinStrings.l0
      repeat' first
      | (with_reducible exact ih0 _ _ _)
      | (with_reducible exact ih1 _ _ _ _ _ _)
      | (with_reducible exact LeO.refl _)
      | (with_reducible exact LeO.none _)
      | (with_reducible refine LeO.ite ?_ ?_)
      | (with_reducible refine LeO.bind ?_ (fun _ => ?_))
      | exact ih0 _ _ _
      | exact ih1 _ _ _ _ _ _
      | exact LeO.none _
      | refine LeO.ite ?_ ?_
      | refine LeO.bind ?_ (fun _ => ?_)
theorem impl_JoinStrings.mono : ∀ a0 a1 k, LeO (impl_JoinStrings.f k a0 a1) (impl_JoinStrings.f (k + 1) a0 a1) := by
  intro a0 a1 k
  obtain ⟨ih0, ih1⟩ := impl_JoinStrings.mono_l k
  unfold impl_JoinStrings.f
  repeat' first
      | (with_reducible exact ih0 _ _ _)
      | (with_reducible exact ih1 _ _ _ _ _ _)
      | (with_reducible exact LeO.refl _)
      | (with_reducible exact LeO.none _)
      | (with_reducible refine LeO.ite ?_ ?_)
      | (with_reducible refine LeO.bind ?_ (fun _ => ?_))
      | exact ih0 _ _ _
      | exact ih1 _ _ _ _ _ _
      | exact LeO.none _
      | refine LeO.ite ?_ ?_
      | refine LeO.bind ?_ (fun _ => ?_)
set_option maxHeartbeats 8000000 in
set_option maxRecDepth 100000 in
theorem impl_JoinStrings.calls (k : Nat) (A0 : Option Addr) (c0 : Nat) (l0 : List ByteArray) (a1 : ByteArray) (r1 : ByteArray) (r2 : Bool) (w : World) (hr0 : Kd.C Kd.string w A0 l0.length l0) (hc0 : l0.length ≤ c0) (h : impl_JoinStrings.f k l0 a1 = some (r1, r2)) :
    Calls Tryd.prog 18 #[.slice A0 l0.length c0, .string a1] w fun e w' => e = .returned (.tuple #[.string r1, .bool r2]) ∧ Below w.heap.size w w' := by
  have HR0 := Aside0.mk hr0
  have HC0 := Aside0.mk hc0
  clear hr0 hc0
  have HB := Aside0.mk (Below.refl w.heap.size w)
  have H : (if (l0.length : Int) = 0 then (impl_JoinStrings.j0 k l0 a1 true) else (impl_JoinStrings.j0 k l0 a1 ((a1.size : Int) != 1))) = some (r1, r2) := h
  clear h
  have HC3 := Aside0.mk H
  clear H
  go_enter Tryd.func18, Tryd.ntmps18
  go_upto_region 1 with (fail)
  go_cut [16] (fun v16 wc => ∃ (kq : Nat) (x16_2 : Bool), v16 = .bool x16_2 ∧ Aside0 (impl_JoinStrings.j0 kq l0 a1 x16_2 = some (r1, r2)) ∧ Aside0 (kq ≤ k) ∧ Aside0 (Below w.heap.size w wc))
  case first =>
    have H := HC3.out
    clear HC3
    by_cases c4 : (l0.length : Int) = 0
    · rw [if_pos c4] at H
      have c4b0 : ((l0.length : Int) == 0) = true := beq_iff_eq.mpr c4
      have c4b1 : ((l0.length : Int) != 0) = false := bne_eq_false_iff_eq.mpr c4
      clear c4
      (first | rw [c4b0] | (simp only [i64_w, i32_w]; rw [c4b0]) | skip)
      have H' := Aside0.mk H
      clear H
      go_wp2
      go_meet
      case rel => exact ⟨_, (true), z3_2, H', ⟨by first | omega | exact Nat.le_refl _⟩, ⟨z3_0⟩⟩
    · rw [if_neg c4] at H
      have c4b0 : ((l0.length : Int) == 0) = false := beq_eq_false_iff_ne.mpr c4
      have c4b1 : ((l0.length : Int) != 0) = true := bne_iff_ne.mpr c4
      have c4b2 : ¬ (l0 = []) := fun h_ => c4 (by rw [h_]; rfl)
      (first | rw [c4b0] | (simp only [i64_w, i32_w]; rw [c4b0]) | skip)
      have H' := Aside0.mk H
      clear H
      go_wp2
      go_meet
      case rel => exact ⟨_, (((a1.size : Int) != 1)), z3_2, H', ⟨by first | omega | exact Nat.le_refl _⟩, ⟨z3_0⟩⟩
  case rest =>
    clear HC3
    try clear c1
    try clear p2
    try clear c4
    try clear c4b0
    try clear c4b1
    try clear c4b2
    obtain ⟨kq, x16_2, rfl, HA, HJ2, HB⟩ := hcut
    cases kq with
    | zero => exact absurd HA.out (by simp [impl_JoinStrings.j0])
    | succ kj2 =>
      have H := HA.out
      clear HA
      simp only [impl_JoinStrings.j0] at H
      by_cases c5 : x16_2 = true
      · subst c5
        have H1 : (some ((⟨#[]⟩ : ByteArray), false)) = some (r1, r2) := by rw [if_pos rfl] at H; exact H
        clear H
        have H := H1
        clear H1
        simp only [Option.some.injEq, Prod.mk.injEq] at H
        obtain ⟨rfl, rfl⟩ := H
        go_wp2
        go_ret2
        exact ⟨z3_3, z3_0⟩
      · replace c5 := Bool.eq_false_iff.mpr c5
        subst c5
        have H1 : (impl_JoinStrings.l0 kj2 l0 a1 (wrap64 ((l0.length : Int) - 1)) l0 (l0.length : Int) 0) = some (r1, r2) := by rw [if_neg (show ¬ (false = true) by decide)] at H; exact H
        clear H
        have H := H1
        clear H1
        have H' := Aside0.mk H
        clear H
        go_wp2
        go_loopg [6, 22] kj2 (fun kq v6 v22 w' => ∃ (x6_2 : Int) (x22_2 : Int), v6 = .int .i64 x6_2 ∧ v22 = .int .i64 x22_2 ∧ Aside0 (impl_JoinStrings.l0 kq l0 a1 x6_2 l0 (l0.length : Int) x22_2 = some (r1, r2)) ∧ Aside0 (kq ≤ kj2) ∧ Aside0 (Below w.heap.size w w'))
        case atStart => exact ⟨(wrap64 ((l0.length : Int) - 1)), (0), z3_2, z3_2, H', ⟨Nat.le_refl _⟩, ⟨z3_0⟩⟩
        case round =>
          clear H'
          try clear c1
          try clear p2
          try clear c4
          try clear c4b0
          try clear c4b1
          try clear c4b2
          try clear c5
          try clear p2
          obtain ⟨x6_2, x22_2, rfl, rfl, HA, HK2, HB⟩ := hrel
          cases gk with
          | zero => exact absurd HA.out (by simp [impl_JoinStrings.l0])
          | succ k2 =>
            have H := HA.out
            clear HA
            simp only [impl_JoinStrings.l0] at H
            by_cases c6 : x22_2 < (l0.length : Int)
            · rw [if_pos c6] at H
              have c6b0 : decide (x22_2 < (l0.length : Int)) = true := decide_eq_true c6
              clear c6
              by_cases c7 : 0 ≤ x22_2
              · rw [if_pos c7] at H
                have c7b0 : decide (0 ≤ x22_2) = true := decide_eq_true c7
                clear c7
                by_cases c8 : x22_2 < (l0.length : Int)
                · rw [if_pos c8] at H
                  have c8b0 : decide (x22_2 < (l0.length : Int)) = true := decide_eq_true c8
                  clear c8
                  by_cases c9 : (wrap64 (x6_2 + ((rdOf ByteArray.empty l0 x22_2).size : Int))) > 4000
                  · rw [if_pos c9] at H
                    have c9b0 : decide (4000 < (wrap64 (x6_2 + ((rdOf ByteArray.empty l0 x22_2).size : Int)))) = true := decide_eq_true c9
                    clear c9
                    simp only [Option.some.injEq, Prod.mk.injEq] at H
                    obtain ⟨rfl, rfl⟩ := H
                    have p171 : 0 ≤ (x22_2 : Int) := of_decide_eq_true z3_1
                    have q171 : x22_2 < (l0.length : Int) := of_decide_eq_true z3_1
                    obtain ⟨ad171, e171, hx171_0⟩ := Kd.at_string HR0.out x22_2 p171 q171
                    cases e171
                    replace hx171_0 := (HB.out.cell (World.block_lt_of_cell? w _ hx171_0)).trans hx171_0
                    replace p171 := eq_true p171
                    replace q171 := eq_true q171
                    go_wp2
                    go_ret2
                    exact ⟨z3_3, z3_0⟩
                  · rw [if_neg c9] at H
                    have c9b0 : decide (4000 < (wrap64 (x6_2 + ((rdOf ByteArray.empty l0 x22_2).size : Int)))) = false := decide_eq_false c9
                    clear c9
                    replace H := Option.bind_eq_some_iff.mp H
                    obtain ⟨t172, A100, H⟩ := H
                    replace H : (if t172 = true then (some ((⟨#[]⟩ : ByteArray), false)) else (impl_JoinStrings.l0 k2 l0 a1 (wrap64 (x6_2 + ((rdOf ByteArray.empty l0 x22_2).size : Int))) l0 (l0.length : Int) (wrap64 (x22_2 + 1)))) = some (r1, r2) := H
                    have A10 := Aside0.mk A100
                    clear A100
                    by_cases c11 : t172 = true
                    · subst c11
                      have H1 : (some ((⟨#[]⟩ : ByteArray), false)) = some (r1, r2) := by rw [if_pos rfl] at H; exact H
                      clear H
                      have H := H1
                      clear H1
                      simp only [Option.some.injEq, Prod.mk.injEq] at H
                      obtain ⟨rfl, rfl⟩ := H
                      have p171 : 0 ≤ (x22_2 : Int) := of_decide_eq_true z3_1
                      have q171 : x22_2 < (l0.length : Int) := of_decide_eq_true z3_1
                      obtain ⟨ad171, e171, hx171_0⟩ := Kd.at_string HR0.out x22_2 p171 q171
                      cases e171
                      replace hx171_0 := (HB.out.cell (World.block_lt_of_cell? w _ hx171_0)).trans hx171_0
                      replace p171 := eq_true p171
                      replace q171 := eq_true q171
                      go_wp2_with (first | (go_at_call 71; (with_reducible refine (strings_Contains.calls (rdOf ByteArray.empty l0 x22_2) a1 true _ A10.out).mono ?_); rintro e w' ⟨rfl, ⟨nd, rfl⟩⟩))
                      go_ret2
                      exact ⟨z3_3, z3_0⟩
                    · replace c11 := Bool.eq_false_iff.mpr c11
                      subst c11
                      have H1 : (impl_JoinStrings.l0 k2 l0 a1 (wrap64 (x6_2 + ((rdOf ByteArray.empty l0 x22_2).size : Int))) l0 (l0.length : Int) (wrap64 (x22_2 + 1))) = some (r1, r2) := by rw [if_neg (show ¬ (false = true) by decide)] at H; exact H
                      clear H
                      have H := H1
                      clear H1
                      have H' := Aside0.mk H
                      clear H
                      have p171 : 0 ≤ (x22_2 : Int) := of_decide_eq_true z3_1
                      have q171 : x22_2 < (l0.length : Int) := of_decide_eq_true z3_1
                      obtain ⟨ad171, e171, hx171_0⟩ := Kd.at_string HR0.out x22_2 p171 q171
                      cases e171
                      replace hx171_0 := (HB.out.cell (World.block_lt_of_cell? w _ hx171_0)).trans hx171_0
                      replace p171 := eq_true p171
                      replace q171 := eq_true q171
                      go_wp2_with (first | (go_at_call 71; (with_reducible refine (strings_Contains.calls (rdOf ByteArray.empty l0 x22_2) a1 false _ A10.out).mono ?_); rintro e w' ⟨rfl, ⟨nd, rfl⟩⟩))
                      go_roundg k2
                      case measure => have := HJ2.out; have := HK2.out; omega
                      case rel => exact ⟨(wrap64 (x6_2 + ((rdOf ByteArray.empty l0 x22_2).size : Int))), (wrap64 (x22_2 + 1)), z3_2, z3_2, H', ⟨by have := HJ2.out; have := HK2.out; omega⟩, ⟨z3_0⟩⟩
                · rw [if_neg c8] at H
                  exact absurd H (by simp)
              · rw [if_neg c7] at H
                exact absurd H (by simp)
            · rw [if_neg c6] at H
              have c6b0 : decide (x22_2 < (l0.length : Int)) = false := decide_eq_false c6
              clear c6
              replace H := Option.bind_eq_some_iff.mp H
              obtain ⟨t173, A120, H⟩ := H
              replace H : (some (t173, true)) = some (r1, r2) := H
              have A12 := Aside0.mk A120
              clear A120
              simp only [Option.some.injEq, Prod.mk.injEq] at H
              obtain ⟨rfl, rfl⟩ := H
              go_wp2_with (first | ((with_reducible refine gate_callee (f := 72) rfl ?_); refine goesL_ (some 40) rfl rfl Tryd.func72 (by kernel_rfl) rfl #[.slice A0 l0.length c0, .string a1] rfl (by (try simp only [List.map_toArray, List.map_cons, List.map_nil]); first | done | rfl | (simp only [List.length_drop, List.length_take]; rfl)) ?_; (with_reducible refine (strings_Join.calls _ _ l0 a1 t173 _ ?side1 ?side2 A12.out).mono ?_); (case side1 => repeat (first | exact (Kd.C_below HR0.out HB.out) | (with_reducible refine Kd.C_alloc ?_ _) | (with_reducible refine Kd.C_drewN ?_ _) | (with_reducible refine Kd.C_drew ?_))); (case side2 => exact HC0.out); rintro e w13 ⟨rfl, hb⟩; refine ⟨_, rfl, ?_⟩; have n0_ := Aside0.mk (below_step z3_0 hb); clear HB; have HB := n0_; clear n0_; (try clear hb); (try clear hb2); (try clear hk); (try clear hi)))
              go_ret2
              exact ⟨z3_3, z3_0⟩
def spec_l1Stands.l0 : Nat → ByteArray → Int → Int → Option (Bool)
  | 0, _, _, _ => none
  | k + 1, x0, x1, x5 => if x5 < (x0.size : Int) then (if 0 ≤ x5 then (if (bt x0 x5) = x1 then (some true) else (spec_l1Stands.l0 k x0 x1 (wrap64 (x5 + 1)))) else (none)) else (some false)
def spec_l1Stands.f (k : Nat) (a0 : ByteArray) (a1 : Int) : Option (Bool) := spec_l1Stands.l0 k a0 a1 0
theorem spec_l1Stands.mono_l : ∀ k, (∀ y0 y1 y2, LeO (spec_l1Stands.l0 k y0 y1 y2) (spec_l1Stands.l0 (k + 1) y0 y1 y2))
  | 0 => fun _ _ _ r h => by simp [spec_l1Stands.l0] at h
  | k + 1 => by
    have ih0 := spec_l1Stands.mono_l k
    · intro y0 y1 y2
      unfold spec_l1Stands.l0
      repeat' first
      | (with_reducible exact ih0 _ _ _)
      | (with_reducible exact LeO.refl _)
      | (with_reducible exact LeO.none _)
      | (with_reducible refine LeO.ite ?_ ?_)
      | (with_reducible refine LeO.bind ?_ (fun _ => ?_))
      | exact ih0 _ _ _
      | exact LeO.none _
      | refine LeO.ite ?_ ?_
      | refine LeO.bind ?_ (fun _ => ?_)
theorem spec_l1Stands.mono : ∀ a0 a1 k, LeO (spec_l1Stands.f k a0 a1) (spec_l1Stands.f (k + 1) a0 a1) := by
  intro a0 a1 k
  have ih0 := spec_l1Stands.mono_l k
  unfold spec_l1Stands.f
  repeat' first
      | (with_reducible exact ih0 _ _ _)
      | (with_reducible exact LeO.refl _)
      | (with_reducible exact LeO.none _)
      | (with_reducible refine LeO.ite ?_ ?_)
      | (with_reducible refine LeO.bind ?_ (fun _ => ?_))
      | exact ih0 _ _ _
      | exact LeO.none _
      | refine LeO.ite ?_ ?_
      | refine LeO.bind ?_ (fun _ => ?_)
set_option maxHeartbeats 8000000 in
set_option maxRecDepth 100000 in
theorem spec_l1Stands.calls (k : Nat) (a0 : ByteArray) (a1 : Int) (r : Bool) (w : World) (h : spec_l1Stands.f k a0 a1 = some r) :
    Calls Tryd.prog 73 #[.string a0, .int .u8 a1] w fun e w' => e = .returned (.bool r) ∧ Drawn0 w w' := by
  have H : (spec_l1Stands.l0 k a0 a1 0) = some r := h
  clear h
  have H' := Aside0.mk H
  clear H
  go_enter Tryd.func73, Tryd.ntmps73
  go_wp2
  go_loopg [5] k (fun kq v5 w' => ∃ (x5_1 : Int), v5 = .int .i64 x5_1 ∧ Aside0 (spec_l1Stands.l0 kq a0 a1 x5_1 = some r) ∧ Aside0 (kq ≤ k) ∧ Drawn0 w w')
  case atStart => exact ⟨(0), z3_2, H', ⟨Nat.le_refl _⟩, by repeat (first | exact Drawn0.refl _ | apply Drawn0.step)⟩
  case round =>
    clear H'
    try clear p2
    obtain ⟨x5_1, rfl, HA, HK1, ⟨m1, rfl⟩⟩ := hrel
    cases gk with
    | zero => exact absurd HA.out (by simp [spec_l1Stands.l0])
    | succ k1 =>
      have H := HA.out
      clear HA
      simp only [spec_l1Stands.l0] at H
      by_cases c3 : x5_1 < (a0.size : Int)
      · rw [if_pos c3] at H
        have c3b0 : decide (x5_1 < (a0.size : Int)) = true := decide_eq_true c3
        clear c3
        by_cases c4 : 0 ≤ x5_1
        · rw [if_pos c4] at H
          have c4b0 : decide (0 ≤ x5_1) = true := decide_eq_true c4
          clear c4
          by_cases c6 : (bt a0 x5_1) = a1
          · rw [if_pos c6] at H
            have c6b0 : ((bt a0 x5_1) == a1) = true := beq_iff_eq.mpr c6
            have c6b1 : ((bt a0 x5_1) != a1) = false := bne_eq_false_iff_eq.mpr c6
            clear c6
            obtain rfl := Option.some.inj H
            have p5 : 0 ≤ (x5_1 : Int) := of_decide_eq_true z3_1
            have q5 : x5_1 < (a0.size : Int) := of_decide_eq_true z3_1
            have hx5 := bt_at a0 x5_1
            replace p5 := eq_true p5
            replace q5 := eq_true q5
            go_wp2
            go_ret
            exact ⟨z3_2, by repeat (first | exact Drawn0.refl _ | apply Drawn0.step)⟩
          · rw [if_neg c6] at H
            have c6b0 : ((bt a0 x5_1) == a1) = false := beq_eq_false_iff_ne.mpr c6
            have c6b1 : ((bt a0 x5_1) != a1) = true := bne_iff_ne.mpr c6
            have H' := Aside0.mk H
            clear H
            have p5 : 0 ≤ (x5_1 : Int) := of_decide_eq_true z3_1
            have q5 : x5_1 < (a0.size : Int) := of_decide_eq_true z3_1
            have hx5 := bt_at a0 x5_1
            replace p5 := eq_true p5
            replace q5 := eq_true q5
            go_wp2
            go_roundg k1
            case measure => have := HK1.out; omega
            case rel => exact ⟨(wrap64 (x5_1 + 1)), z3_2, H', ⟨by have := HK1.out; omega⟩, by repeat (first | exact Drawn0.refl _ | apply Drawn0.step)⟩
        · rw [if_neg c4] at H
          exact absurd H (by simp)
      · rw [if_neg c3] at H
        have c3b0 : decide (x5_1 < (a0.size : Int)) = false := decide_eq_false c3
        clear c3
        obtain rfl := Option.some.inj H
        go_wp2
        go_ret
        exact ⟨z3_2, by repeat (first | exact Drawn0.refl _ | apply Drawn0.step)⟩
end Go.Proofs.YtgclcjohnnpejaaDoor.Pt
end

section
namespace Go.Proofs.YtgclcjohnnpejaaDoor.Pt
open Go.RowKit Go.Proofs.YtgclcjohnnpejaaDoorW.PrintWords Go.Proofs.YtgclcjohnnpejaaDoorW.PrintLast Go.Proofs.YtgclcjohnnpejaaDoorW.PrintMore
attribute [local go_sem] max2_int min2_int max_two min_two max_three min_three max_four min_four
set_option linter.unusedVariables false
set_option linter.unusedSimpArgs false
theorem z4_0 {P : Prop} (h : P := by first | (with_reducible assumption) | assumption) : P := h
theorem z4_1 {P : Prop} (h : P := by first | rfl | (simp; done) | (simp [*]; done)) : P := h
theorem z4_2 {P : Prop} (h : P := by repeat (first | exact Drawn0.refl _ | apply Drawn0.step)) : P := h
mutual
def spec_JoinStrings.j0 : Nat → List ByteArray → ByteArray → Bool → Option (ByteArray × Bool)
  | 0, _, _, _ => none
  | k + 1, x0, x1, x15 => if x15 = true then (some ((⟨#[]⟩ : ByteArray), false)) else (spec_JoinStrings.l0 k x0 x1 (⟨#[]⟩ : ByteArray) 0)
def spec_JoinStrings.l0 : Nat → List ByteArray → ByteArray → ByteArray → Int → Option (ByteArray × Bool)
  | 0, _, _, _, _ => none
  | k + 1, x0, x1, x6, x7 => if x7 < (x0.length : Int) then (if 0 ≤ x7 then (if 0 < (x1.size : Int) then ((spec_l1Stands.f k (rdOf ByteArray.empty x0 x7) (bt x1 0)).bind fun t175 => (if t175 = true then (some ((⟨#[]⟩ : ByteArray), false)) else (if x7 > 0 then (if x6.size + x1.size ≤ 9223372036854775807 then (if (x6.size + x1.size) + (rdOf ByteArray.empty x0 x7).size ≤ 9223372036854775807 then (if (((x6.size : Int) + (x1.size : Int)) + ((rdOf ByteArray.empty x0 x7).size : Int)) > 4000 then (some ((⟨#[]⟩ : ByteArray), false)) else (spec_JoinStrings.l0 k x0 x1 ((x6 ++ x1) ++ (rdOf ByteArray.empty x0 x7)) (wrap64 (x7 + 1)))) else (none)) else (none)) else (if x6.size + (rdOf ByteArray.empty x0 x7).size ≤ 9223372036854775807 then (if ((x6.size : Int) + ((rdOf ByteArray.empty x0 x7).size : Int)) > 4000 then (some ((⟨#[]⟩ : ByteArray), false)) else (spec_JoinStrings.l0 k x0 x1 (x6 ++ (rdOf ByteArray.empty x0 x7)) (wrap64 (x7 + 1)))) else (none))))) else (none)) else (none)) else (some (x6, true))
end
def spec_JoinStrings.f (k : Nat) (l0 : List ByteArray) (a1 : ByteArray) : Option (ByteArray × Bool) := if (a1.size : Int) = 1 then (spec_JoinStrings.j0 k l0 a1 ((l0.length : Int) == 0)) else (spec_JoinStrings.j0 k l0 a1 true)
theorem spec_JoinStrings.mono_l : ∀ k, (∀ y0 y1 y2, LeO (spec_JoinStrings.j0 k y0 y1 y2) (spec_JoinStrings.j0 (k + 1) y0 y1 y2)) ∧ (∀ y0 y1 y2 y3, LeO (spec_JoinStrings.l0 k y0 y1 y2 y3) (spec_JoinStrings.l0 (k + 1) y0 y1 y2 y3))
  | 0 => ⟨fun _ _ _ r h => by simp [spec_JoinStrings.j0] at h, fun _ _ _ _ r h => by simp [spec_JoinStrings.l0] at h⟩
  | k + 1 => by
    obtain ⟨ih0, ih1⟩ := spec_JoinStrings.mono_l k
    refine ⟨?_, ?_⟩
    · intro y0 y1 y2
      unfold spec_JoinStrings.j0
      repeat' first
      | (with_reducible exact ih0 _ _ _)
      | (with_reducible exact ih1 _ _ _ _)
      | (with_reducible exact spec_l1Stands.mono _ _ _)
      | (with_reducible exact LeO.refl _)
      | (with_reducible exact LeO.none _)
      | (with_reducible refine LeO.ite ?_ ?_)
      | (with_reducible refine LeO.bind ?_ (fun _ => ?_))
      | exact ih0 _ _ _
      | exact ih1 _ _ _ _
      | exact spec_l1Stands.mono _ _ _
      | exact LeO.none _
      | refine LeO.ite ?_ ?_
      | refine LeO.bind ?_ (fun _ => ?_)
    · intro y0 y1 y2 y3
      unfold spec_JoinStrings.l0
      repeat' first
      | (with_reducible exact ih0 _ _ _)
      | (with_reducible exact ih1 _ _ _ _)
      | (with_reducible exact spec_l1Stands.mono _ _ _)
      | (with_reducible exact LeO.refl _)
      | (with_reducible exact LeO.none _)
      | (with_reducible refine LeO.ite ?_ ?_)
      | (with_reducible refine LeO.bind ?_ (fun _ => ?_))
      | exact ih0 _ _ _
      | exact ih1 _ _ _ _
      | exact spec_l1Stands.mono _ _ _
      | exact LeO.none _
      | refine LeO.ite ?_ ?_
      | refine LeO.bind ?_ (fun _ => ?_)
theorem spec_JoinStrings.mono : ∀ a0 a1 k, LeO (spec_JoinStrings.f k a0 a1) (spec_JoinStrings.f (k + 1) a0 a1) := by
  intro a0 a1 k
  obtain ⟨ih0, ih1⟩ := spec_JoinStrings.mono_l k
  unfold spec_JoinStrings.f
  repeat' first
      | (with_reducible exact ih0 _ _ _)
      | (with_reducible exact ih1 _ _ _ _)
      | (with_reducible exact spec_l1Stands.mono _ _ _)
      | (with_reducible exact LeO.refl _)
      | (with_reducible exact LeO.none _)
      | (with_reducible refine LeO.ite ?_ ?_)
      | (with_reducible refine LeO.bind ?_ (fun _ => ?_))
      | exact ih0 _ _ _
      | exact ih1 _ _ _ _
      | exact spec_l1Stands.mono _ _ _
      | exact LeO.none _
      | refine LeO.ite ?_ ?_
      | refine LeO.bind ?_ (fun _ => ?_)
set_option maxHeartbeats 8000000 in
set_option maxRecDepth 100000 in
theorem spec_JoinStrings.calls (k : Nat) (A0 : Option Addr) (c0 : Nat) (l0 : List ByteArray) (a1 : ByteArray) (r1 : ByteArray) (r2 : Bool) (w : World) (hr0 : Kd.C Kd.string w A0 l0.length l0) (hc0 : l0.length ≤ c0) (h : spec_JoinStrings.f k l0 a1 = some (r1, r2)) :
    Calls Tryd.prog 19 #[.slice A0 l0.length c0, .string a1] w fun e w' => e = .returned (.tuple #[.string r1, .bool r2]) ∧ Drawn0 w w' := by
  have HR0 := Aside0.mk hr0
  have HC0 := Aside0.mk hc0
  clear hr0 hc0
  have H : (if (a1.size : Int) = 1 then (spec_JoinStrings.j0 k l0 a1 ((l0.length : Int) == 0)) else (spec_JoinStrings.j0 k l0 a1 true)) = some (r1, r2) := h
  clear h
  have HC3 := Aside0.mk H
  clear H
  go_enter Tryd.func19, Tryd.ntmps19
  go_upto_region 1 with (fail)
  repeat (go_quiet (fail); go_upto_region 1 with (fail))
  go_cut [15] (fun v15 wc => ∃ (kq : Nat) (x15_2 : Bool), v15 = .bool x15_2 ∧ Aside0 (spec_JoinStrings.j0 kq l0 a1 x15_2 = some (r1, r2)) ∧ Aside0 (kq ≤ k) ∧ Drawn0 w wc)
  case first =>
    have H := HC3.out
    clear HC3
    by_cases c4 : (a1.size : Int) = 1
    · rw [if_pos c4] at H
      have c4b0 : ((a1.size : Int) == 1) = true := beq_iff_eq.mpr c4
      have c4b1 : ((a1.size : Int) != 1) = false := bne_eq_false_iff_eq.mpr c4
      clear c4
      (first | rw [c4b0] | (simp only [i64_w, i32_w]; rw [c4b0]) | skip)
      have H' := Aside0.mk H
      clear H
      go_wp2
      repeat (go_quiet (fail); try go_wp2)
      go_meet
      case rel => exact ⟨_, (((l0.length : Int) == 0)), z4_1, H', ⟨by first | omega | exact Nat.le_refl _⟩, z4_2⟩
    · rw [if_neg c4] at H
      have c4b0 : ((a1.size : Int) == 1) = false := beq_eq_false_iff_ne.mpr c4
      have c4b1 : ((a1.size : Int) != 1) = true := bne_iff_ne.mpr c4
      (first | rw [c4b0] | (simp only [i64_w, i32_w]; rw [c4b0]) | skip)
      have H' := Aside0.mk H
      clear H
      go_wp2
      repeat (go_quiet (fail); try go_wp2)
      go_meet
      case rel => exact ⟨_, (true), z4_1, H', ⟨by first | omega | exact Nat.le_refl _⟩, z4_2⟩
  case rest =>
    clear HC3
    try clear c1
    try clear p2
    try clear c4
    try clear c4b0
    try clear c4b1
    obtain ⟨kq, x15_2, rfl, HA, HJ2, ⟨mc2, rfl⟩⟩ := hcut
    cases kq with
    | zero => exact absurd HA.out (by simp [spec_JoinStrings.j0])
    | succ kj2 =>
      have H := HA.out
      clear HA
      simp only [spec_JoinStrings.j0] at H
      by_cases c5 : x15_2 = true
      · subst c5
        have H1 : (some ((⟨#[]⟩ : ByteArray), false)) = some (r1, r2) := by rw [if_pos rfl] at H; exact H
        clear H
        have H := H1
        clear H1
        simp only [Option.some.injEq, Prod.mk.injEq] at H
        obtain ⟨rfl, rfl⟩ := H
        go_wp2
        repeat (go_quiet (fail); try go_wp2)
        go_ret2
        exact ⟨z4_1, z4_2⟩
      · replace c5 := Bool.eq_false_iff.mpr c5
        subst c5
        have H1 : (spec_JoinStrings.l0 kj2 l0 a1 (⟨#[]⟩ : ByteArray) 0) = some (r1, r2) := by rw [if_neg (show ¬ (false = true) by decide)] at H; exact H
        clear H
        have H := H1
        clear H1
        have H' := Aside0.mk H
        clear H
        go_wp2
        repeat (go_quiet (fail); try go_wp2)
        go_loopg [6, 7] kj2 (fun kq v6 v7 w' => ∃ (x6_2 : ByteArray) (x7_2 : Int), v6 = .string x6_2 ∧ v7 = .int .i64 x7_2 ∧ Aside0 (spec_JoinStrings.l0 kq l0 a1 x6_2 x7_2 = some (r1, r2)) ∧ Aside0 (kq ≤ kj2) ∧ Drawn0 w w')
        case atStart => exact ⟨((⟨#[]⟩ : ByteArray)), (0), z4_1, z4_1, H', ⟨Nat.le_refl _⟩, z4_2⟩
        case round =>
          clear H'
          try clear c1
          try clear c2
          try clear p2
          try clear c4
          try clear c4b0
          try clear c4b1
          try clear c5
          try clear p2
          obtain ⟨x6_2, x7_2, rfl, rfl, HA, HK2, ⟨m2, rfl⟩⟩ := hrel
          cases gk with
          | zero => exact absurd HA.out (by simp [spec_JoinStrings.l0])
          | succ k2 =>
            have H := HA.out
            clear HA
            simp only [spec_JoinStrings.l0] at H
            by_cases c6 : x7_2 < (l0.length : Int)
            · rw [if_pos c6] at H
              have c6b0 : decide (x7_2 < (l0.length : Int)) = true := decide_eq_true c6
              clear c6
              by_cases c7 : 0 ≤ x7_2
              · rw [if_pos c7] at H
                have c7b0 : decide (0 ≤ x7_2) = true := decide_eq_true c7
                clear c7
                by_cases c8 : 0 < (a1.size : Int)
                · rw [if_pos c8] at H
                  have c8b0 : decide (0 < (a1.size : Int)) = true := decide_eq_true c8
                  have c8b1 : decide (0 < a1.size) = true := decide_eq_true (by omega)
                  clear c8
                  replace H := Option.bind_eq_some_iff.mp H
                  obtain ⟨t175, A100, H⟩ := H
                  replace H : (if t175 = true then (some ((⟨#[]⟩ : ByteArray), false)) else (if x7_2 > 0 then (if x6_2.size + a1.size ≤ 9223372036854775807 then (if (x6_2.size + a1.size) + (rdOf ByteArray.empty l0 x7_2).size ≤ 9223372036854775807 then (if (((x6_2.size : Int) + (a1.size : Int)) + ((rdOf ByteArray.empty l0 x7_2).size : Int)) > 4000 then (some ((⟨#[]⟩ : ByteArray), false)) else (spec_JoinStrings.l0 k2 l0 a1 ((x6_2 ++ a1) ++ (rdOf ByteArray.empty l0 x7_2)) (wrap64 (x7_2 + 1)))) else (none)) else (none)) else (if x6_2.size + (rdOf ByteArray.empty l0 x7_2).size ≤ 9223372036854775807 then (if ((x6_2.size : Int) + ((rdOf ByteArray.empty l0 x7_2).size : Int)) > 4000 then (some ((⟨#[]⟩ : ByteArray), false)) else (spec_JoinStrings.l0 k2 l0 a1 (x6_2 ++ (rdOf ByteArray.empty l0 x7_2)) (wrap64 (x7_2 + 1)))) else (none)))) = some (r1, r2) := H
                  have A10 := Aside0.mk A100
                  clear A100
                  by_cases c11 : t175 = true
                  · subst c11
                    have H1 : (some ((⟨#[]⟩ : ByteArray), false)) = some (r1, r2) := by rw [if_pos rfl] at H; exact H
                    clear H
                    have H := H1
                    clear H1
                    simp only [Option.some.injEq, Prod.mk.injEq] at H
                    obtain ⟨rfl, rfl⟩ := H
                    have p174 : 0 ≤ (x7_2 : Int) := of_decide_eq_true z4_0
                    have q174 : x7_2 < (l0.length : Int) := of_decide_eq_true z4_0
                    obtain ⟨ad174, e174, hx174_0⟩ := Kd.at_string HR0.out x7_2 p174 q174
                    cases e174
                    replace p174 := eq_true p174
                    replace q174 := eq_true q174
                    have p9 : 0 ≤ (0 : Int) := (by omega)
                    have q9 : 0 < a1.size := (by have : (0 : Int) < (a1.size : Int) := of_decide_eq_true z4_0; omega)
                    have hx9 : ∀ h : 0 < a1.size, ((a1[0]'h).toNat : Int) = bt a1 0 := bt_at a1 0
                    clear p9
                    have qi9 : (0 < (a1.size : Int)) = True := eq_true (of_decide_eq_true z4_0)
                    replace q9 := eq_true q9
                    go_wp2_with (first | (go_at_call 73; (with_reducible refine (spec_l1Stands.calls k2 (rdOf ByteArray.empty l0 x7_2) (bt a1 0) true _ A10.out).mono ?_); rintro e w' ⟨rfl, ⟨nd, rfl⟩⟩; (try first | exact ⟨rfl, _, World.drewN_drewN _ _ _⟩ | exact ⟨rfl, _, Eq.trans (World.drewN_drewN _ _ _) (congrArg (World.drewN _) (Nat.add_assoc _ _ _))⟩)))
                    repeat (go_quiet (first | (go_at_call 73; (with_reducible refine (spec_l1Stands.calls k2 (rdOf ByteArray.empty l0 x7_2) (bt a1 0) true _ A10.out).mono ?_); rintro e w' ⟨rfl, ⟨nd, rfl⟩⟩; (try first | exact ⟨rfl, _, World.drewN_drewN _ _ _⟩ | exact ⟨rfl, _, Eq.trans (World.drewN_drewN _ _ _) (congrArg (World.drewN _) (Nat.add_assoc _ _ _))⟩))); try go_wp2_with (first | (go_at_call 73; (with_reducible refine (spec_l1Stands.calls k2 (rdOf ByteArray.empty l0 x7_2) (bt a1 0) true _ A10.out).mono ?_); rintro e w' ⟨rfl, ⟨nd, rfl⟩⟩; (try first | exact ⟨rfl, _, World.drewN_drewN _ _ _⟩ | exact ⟨rfl, _, Eq.trans (World.drewN_drewN _ _ _) (congrArg (World.drewN _) (Nat.add_assoc _ _ _))⟩))))
                    go_ret2
                    exact ⟨z4_1, z4_2⟩
                  · replace c11 := Bool.eq_false_iff.mpr c11
                    subst c11
                    have H1 : (if x7_2 > 0 then (if x6_2.size + a1.size ≤ 9223372036854775807 then (if (x6_2.size + a1.size) + (rdOf ByteArray.empty l0 x7_2).size ≤ 9223372036854775807 then (if (((x6_2.size : Int) + (a1.size : Int)) + ((rdOf ByteArray.empty l0 x7_2).size : Int)) > 4000 then (some ((⟨#[]⟩ : ByteArray), false)) else (spec_JoinStrings.l0 k2 l0 a1 ((x6_2 ++ a1) ++ (rdOf ByteArray.empty l0 x7_2)) (wrap64 (x7_2 + 1)))) else (none)) else (none)) else (if x6_2.size + (rdOf ByteArray.empty l0 x7_2).size ≤ 9223372036854775807 then (if ((x6_2.size : Int) + ((rdOf ByteArray.empty l0 x7_2).size : Int)) > 4000 then (some ((⟨#[]⟩ : ByteArray), false)) else (spec_JoinStrings.l0 k2 l0 a1 (x6_2 ++ (rdOf ByteArray.empty l0 x7_2)) (wrap64 (x7_2 + 1)))) else (none))) = some (r1, r2) := by rw [if_neg (show ¬ (false = true) by decide)] at H; exact H
                    clear H
                    have H := H1
                    clear H1
                    by_cases c12 : x7_2 > 0
                    · rw [if_pos c12] at H
                      have c12b0 : decide (0 < x7_2) = true := decide_eq_true c12
                      clear c12
                      by_cases c13 : x6_2.size + a1.size ≤ 9223372036854775807
                      · rw [if_pos c13] at H
                        have c13b0 := eq_true c13
                        have c13b1 : decide (x6_2.size + a1.size ≤ 9223372036854775807) = true := decide_eq_true c13
                        try have c13b2 : (9223372036854775807 < x6_2.size + a1.size) = False := eq_false (Nat.not_lt.2 c13)
                        by_cases c14 : (x6_2.size + a1.size) + (rdOf ByteArray.empty l0 x7_2).size ≤ 9223372036854775807
                        · rw [if_pos c14] at H
                          have c14b0 := eq_true c14
                          have c14b1 : decide ((x6_2.size + a1.size) + (rdOf ByteArray.empty l0 x7_2).size ≤ 9223372036854775807) = true := decide_eq_true c14
                          try have c14b2 : (9223372036854775807 < (x6_2.size + a1.size) + (rdOf ByteArray.empty l0 x7_2).size) = False := eq_false (Nat.not_lt.2 c14)
                          by_cases c15 : (((x6_2.size : Int) + (a1.size : Int)) + ((rdOf ByteArray.empty l0 x7_2).size : Int)) > 4000
                          · rw [if_pos c15] at H
                            have c15b0 : decide (4000 < (((x6_2.size : Int) + (a1.size : Int)) + ((rdOf ByteArray.empty l0 x7_2).size : Int))) = true := decide_eq_true c15
                            clear c15
                            simp only [Option.some.injEq, Prod.mk.injEq] at H
                            obtain ⟨rfl, rfl⟩ := H
                            have p174 : 0 ≤ (x7_2 : Int) := of_decide_eq_true z4_0
                            have q174 : x7_2 < (l0.length : Int) := of_decide_eq_true z4_0
                            obtain ⟨ad174, e174, hx174_0⟩ := Kd.at_string HR0.out x7_2 p174 q174
                            cases e174
                            replace p174 := eq_true p174
                            replace q174 := eq_true q174
                            have p9 : 0 ≤ (0 : Int) := (by omega)
                            have q9 : 0 < a1.size := (by have : (0 : Int) < (a1.size : Int) := of_decide_eq_true z4_0; omega)
                            have hx9 : ∀ h : 0 < a1.size, ((a1[0]'h).toNat : Int) = bt a1 0 := bt_at a1 0
                            clear p9
                            have qi9 : (0 < (a1.size : Int)) = True := eq_true (of_decide_eq_true z4_0)
                            replace q9 := eq_true q9
                            go_wp2_with (first | (go_at_call 73; (with_reducible refine (spec_l1Stands.calls k2 (rdOf ByteArray.empty l0 x7_2) (bt a1 0) false _ A10.out).mono ?_); rintro e w' ⟨rfl, ⟨nd, rfl⟩⟩; (try first | exact ⟨rfl, _, World.drewN_drewN _ _ _⟩ | exact ⟨rfl, _, Eq.trans (World.drewN_drewN _ _ _) (congrArg (World.drewN _) (Nat.add_assoc _ _ _))⟩); have p176 : 0 ≤ (x7_2 : Int) := of_decide_eq_true z4_0; have q176 : x7_2 < (l0.length : Int) := of_decide_eq_true z4_0; obtain ⟨ad176, e176, hx176_0⟩ := Kd.at_string HR0.out x7_2 p176 q176; obtain rfl : ad174 = ad176 := (by injection e176); replace p176 := eq_true p176; replace q176 := eq_true q176))
                            repeat (go_quiet (first | (go_at_call 73; (with_reducible refine (spec_l1Stands.calls k2 (rdOf ByteArray.empty l0 x7_2) (bt a1 0) false _ A10.out).mono ?_); rintro e w' ⟨rfl, ⟨nd, rfl⟩⟩; (try first | exact ⟨rfl, _, World.drewN_drewN _ _ _⟩ | exact ⟨rfl, _, Eq.trans (World.drewN_drewN _ _ _) (congrArg (World.drewN _) (Nat.add_assoc _ _ _))⟩); have p176 : 0 ≤ (x7_2 : Int) := of_decide_eq_true z4_0; have q176 : x7_2 < (l0.length : Int) := of_decide_eq_true z4_0; obtain ⟨ad176, e176, hx176_0⟩ := Kd.at_string HR0.out x7_2 p176 q176; obtain rfl : ad174 = ad176 := (by injection e176); replace p176 := eq_true p176; replace q176 := eq_true q176)); try go_wp2_with (first | (go_at_call 73; (with_reducible refine (spec_l1Stands.calls k2 (rdOf ByteArray.empty l0 x7_2) (bt a1 0) false _ A10.out).mono ?_); rintro e w' ⟨rfl, ⟨nd, rfl⟩⟩; (try first | exact ⟨rfl, _, World.drewN_drewN _ _ _⟩ | exact ⟨rfl, _, Eq.trans (World.drewN_drewN _ _ _) (congrArg (World.drewN _) (Nat.add_assoc _ _ _))⟩); have p176 : 0 ≤ (x7_2 : Int) := of_decide_eq_true z4_0; have q176 : x7_2 < (l0.length : Int) := of_decide_eq_true z4_0; obtain ⟨ad176, e176, hx176_0⟩ := Kd.at_string HR0.out x7_2 p176 q176; obtain rfl : ad174 = ad176 := (by injection e176); replace p176 := eq_true p176; replace q176 := eq_true q176)))
                            go_ret2
                            exact ⟨z4_1, z4_2⟩
                          · rw [if_neg c15] at H
                            have c15b0 : decide (4000 < (((x6_2.size : Int) + (a1.size : Int)) + ((rdOf ByteArray.empty l0 x7_2).size : Int))) = false := decide_eq_false c15
                            clear c15
                            have H' := Aside0.mk H
                            clear H
                            have p174 : 0 ≤ (x7_2 : Int) := of_decide_eq_true z4_0
                            have q174 : x7_2 < (l0.length : Int) := of_decide_eq_true z4_0
                            obtain ⟨ad174, e174, hx174_0⟩ := Kd.at_string HR0.out x7_2 p174 q174
                            cases e174
                            replace p174 := eq_true p174
                            replace q174 := eq_true q174
                            have p9 : 0 ≤ (0 : Int) := (by omega)
                            have q9 : 0 < a1.size := (by have : (0 : Int) < (a1.size : Int) := of_decide_eq_true z4_0; omega)
                            have hx9 : ∀ h : 0 < a1.size, ((a1[0]'h).toNat : Int) = bt a1 0 := bt_at a1 0
                            clear p9
                            have qi9 : (0 < (a1.size : Int)) = True := eq_true (of_decide_eq_true z4_0)
                            replace q9 := eq_true q9
                            go_wp2_with (first | (go_at_call 73; (with_reducible refine (spec_l1Stands.calls k2 (rdOf ByteArray.empty l0 x7_2) (bt a1 0) false _ A10.out).mono ?_); rintro e w' ⟨rfl, ⟨nd, rfl⟩⟩; (try first | exact ⟨rfl, _, World.drewN_drewN _ _ _⟩ | exact ⟨rfl, _, Eq.trans (World.drewN_drewN _ _ _) (congrArg (World.drewN _) (Nat.add_assoc _ _ _))⟩); have p176 : 0 ≤ (x7_2 : Int) := of_decide_eq_true z4_0; have q176 : x7_2 < (l0.length : Int) := of_decide_eq_true z4_0; obtain ⟨ad176, e176, hx176_0⟩ := Kd.at_string HR0.out x7_2 p176 q176; obtain rfl : ad174 = ad176 := (by injection e176); replace p176 := eq_true p176; replace q176 := eq_true q176))
                            repeat (go_quiet (first | (go_at_call 73; (with_reducible refine (spec_l1Stands.calls k2 (rdOf ByteArray.empty l0 x7_2) (bt a1 0) false _ A10.out).mono ?_); rintro e w' ⟨rfl, ⟨nd, rfl⟩⟩; (try first | exact ⟨rfl, _, World.drewN_drewN _ _ _⟩ | exact ⟨rfl, _, Eq.trans (World.drewN_drewN _ _ _) (congrArg (World.drewN _) (Nat.add_assoc _ _ _))⟩); have p176 : 0 ≤ (x7_2 : Int) := of_decide_eq_true z4_0; have q176 : x7_2 < (l0.length : Int) := of_decide_eq_true z4_0; obtain ⟨ad176, e176, hx176_0⟩ := Kd.at_string HR0.out x7_2 p176 q176; obtain rfl : ad174 = ad176 := (by injection e176); replace p176 := eq_true p176; replace q176 := eq_true q176)); try go_wp2_with (first | (go_at_call 73; (with_reducible refine (spec_l1Stands.calls k2 (rdOf ByteArray.empty l0 x7_2) (bt a1 0) false _ A10.out).mono ?_); rintro e w' ⟨rfl, ⟨nd, rfl⟩⟩; (try first | exact ⟨rfl, _, World.drewN_drewN _ _ _⟩ | exact ⟨rfl, _, Eq.trans (World.drewN_drewN _ _ _) (congrArg (World.drewN _) (Nat.add_assoc _ _ _))⟩); have p176 : 0 ≤ (x7_2 : Int) := of_decide_eq_true z4_0; have q176 : x7_2 < (l0.length : Int) := of_decide_eq_true z4_0; obtain ⟨ad176, e176, hx176_0⟩ := Kd.at_string HR0.out x7_2 p176 q176; obtain rfl : ad174 = ad176 := (by injection e176); replace p176 := eq_true p176; replace q176 := eq_true q176)))
                            go_roundg k2
                            case measure => have := HJ2.out; have := HK2.out; omega
                            case rel => exact ⟨((x6_2 ++ a1) ++ (rdOf ByteArray.empty l0 x7_2)), (wrap64 (x7_2 + 1)), z4_1, z4_1, H', ⟨by have := HJ2.out; have := HK2.out; omega⟩, z4_2⟩
                        · rw [if_neg c14] at H
                          exact absurd H (by simp)
                      · rw [if_neg c13] at H
                        exact absurd H (by simp)
                    · rw [if_neg c12] at H
                      have c12b0 : decide (0 < x7_2) = false := decide_eq_false c12
                      clear c12
                      by_cases c16 : x6_2.size + (rdOf ByteArray.empty l0 x7_2).size ≤ 9223372036854775807
                      · rw [if_pos c16] at H
                        have c16b0 := eq_true c16
                        have c16b1 : decide (x6_2.size + (rdOf ByteArray.empty l0 x7_2).size ≤ 9223372036854775807) = true := decide_eq_true c16
                        try have c16b2 : (9223372036854775807 < x6_2.size + (rdOf ByteArray.empty l0 x7_2).size) = False := eq_false (Nat.not_lt.2 c16)
                        by_cases c17 : ((x6_2.size : Int) + ((rdOf ByteArray.empty l0 x7_2).size : Int)) > 4000
                        · rw [if_pos c17] at H
                          have c17b0 : decide (4000 < ((x6_2.size : Int) + ((rdOf ByteArray.empty l0 x7_2).size : Int))) = true := decide_eq_true c17
                          clear c17
                          simp only [Option.some.injEq, Prod.mk.injEq] at H
                          obtain ⟨rfl, rfl⟩ := H
                          have p174 : 0 ≤ (x7_2 : Int) := of_decide_eq_true z4_0
                          have q174 : x7_2 < (l0.length : Int) := of_decide_eq_true z4_0
                          obtain ⟨ad174, e174, hx174_0⟩ := Kd.at_string HR0.out x7_2 p174 q174
                          cases e174
                          replace p174 := eq_true p174
                          replace q174 := eq_true q174
                          have p9 : 0 ≤ (0 : Int) := (by omega)
                          have q9 : 0 < a1.size := (by have : (0 : Int) < (a1.size : Int) := of_decide_eq_true z4_0; omega)
                          have hx9 : ∀ h : 0 < a1.size, ((a1[0]'h).toNat : Int) = bt a1 0 := bt_at a1 0
                          clear p9
                          have qi9 : (0 < (a1.size : Int)) = True := eq_true (of_decide_eq_true z4_0)
                          replace q9 := eq_true q9
                          go_wp2_with (first | (go_at_call 73; (with_reducible refine (spec_l1Stands.calls k2 (rdOf ByteArray.empty l0 x7_2) (bt a1 0) false _ A10.out).mono ?_); rintro e w' ⟨rfl, ⟨nd, rfl⟩⟩; (try first | exact ⟨rfl, _, World.drewN_drewN _ _ _⟩ | exact ⟨rfl, _, Eq.trans (World.drewN_drewN _ _ _) (congrArg (World.drewN _) (Nat.add_assoc _ _ _))⟩); have p177 : 0 ≤ (x7_2 : Int) := of_decide_eq_true z4_0; have q177 : x7_2 < (l0.length : Int) := of_decide_eq_true z4_0; obtain ⟨ad177, e177, hx177_0⟩ := Kd.at_string HR0.out x7_2 p177 q177; obtain rfl : ad174 = ad177 := (by injection e177); replace p177 := eq_true p177; replace q177 := eq_true q177))
                          repeat (go_quiet (first | (go_at_call 73; (with_reducible refine (spec_l1Stands.calls k2 (rdOf ByteArray.empty l0 x7_2) (bt a1 0) false _ A10.out).mono ?_); rintro e w' ⟨rfl, ⟨nd, rfl⟩⟩; (try first | exact ⟨rfl, _, World.drewN_drewN _ _ _⟩ | exact ⟨rfl, _, Eq.trans (World.drewN_drewN _ _ _) (congrArg (World.drewN _) (Nat.add_assoc _ _ _))⟩); have p177 : 0 ≤ (x7_2 : Int) := of_decide_eq_true z4_0; have q177 : x7_2 < (l0.length : Int) := of_decide_eq_true z4_0; obtain ⟨ad177, e177, hx177_0⟩ := Kd.at_string HR0.out x7_2 p177 q177; obtain rfl : ad174 = ad177 := (by injection e177); replace p177 := eq_true p177; replace q177 := eq_true q177)); try go_wp2_with (first | (go_at_call 73; (with_reducible refine (spec_l1Stands.calls k2 (rdOf ByteArray.empty l0 x7_2) (bt a1 0) false _ A10.out).mono ?_); rintro e w' ⟨rfl, ⟨nd, rfl⟩⟩; (try first | exact ⟨rfl, _, World.drewN_drewN _ _ _⟩ | exact ⟨rfl, _, Eq.trans (World.drewN_drewN _ _ _) (congrArg (World.drewN _) (Nat.add_assoc _ _ _))⟩); have p177 : 0 ≤ (x7_2 : Int) := of_decide_eq_true z4_0; have q177 : x7_2 < (l0.length : Int) := of_decide_eq_true z4_0; obtain ⟨ad177, e177, hx177_0⟩ := Kd.at_string HR0.out x7_2 p177 q177; obtain rfl : ad174 = ad177 := (by injection e177); replace p177 := eq_true p177; replace q177 := eq_true q177)))
                          go_ret2
                          exact ⟨z4_1, z4_2⟩
                        · rw [if_neg c17] at H
                          have c17b0 : decide (4000 < ((x6_2.size : Int) + ((rdOf ByteArray.empty l0 x7_2).size : Int))) = false := decide_eq_false c17
                          clear c17
                          have H' := Aside0.mk H
                          clear H
                          have p174 : 0 ≤ (x7_2 : Int) := of_decide_eq_true z4_0
                          have q174 : x7_2 < (l0.length : Int) := of_decide_eq_true z4_0
                          obtain ⟨ad174, e174, hx174_0⟩ := Kd.at_string HR0.out x7_2 p174 q174
                          cases e174
                          replace p174 := eq_true p174
                          replace q174 := eq_true q174
                          have p9 : 0 ≤ (0 : Int) := (by omega)
                          have q9 : 0 < a1.size := (by have : (0 : Int) < (a1.size : Int) := of_decide_eq_true z4_0; omega)
                          have hx9 : ∀ h : 0 < a1.size, ((a1[0]'h).toNat : Int) = bt a1 0 := bt_at a1 0
                          clear p9
                          have qi9 : (0 < (a1.size : Int)) = True := eq_true (of_decide_eq_true z4_0)
                          replace q9 := eq_true q9
                          go_wp2_with (first | (go_at_call 73; (with_reducible refine (spec_l1Stands.calls k2 (rdOf ByteArray.empty l0 x7_2) (bt a1 0) false _ A10.out).mono ?_); rintro e w' ⟨rfl, ⟨nd, rfl⟩⟩; (try first | exact ⟨rfl, _, World.drewN_drewN _ _ _⟩ | exact ⟨rfl, _, Eq.trans (World.drewN_drewN _ _ _) (congrArg (World.drewN _) (Nat.add_assoc _ _ _))⟩); have p177 : 0 ≤ (x7_2 : Int) := of_decide_eq_true z4_0; have q177 : x7_2 < (l0.length : Int) := of_decide_eq_true z4_0; obtain ⟨ad177, e177, hx177_0⟩ := Kd.at_string HR0.out x7_2 p177 q177; obtain rfl : ad174 = ad177 := (by injection e177); replace p177 := eq_true p177; replace q177 := eq_true q177))
                          repeat (go_quiet (first | (go_at_call 73; (with_reducible refine (spec_l1Stands.calls k2 (rdOf ByteArray.empty l0 x7_2) (bt a1 0) false _ A10.out).mono ?_); rintro e w' ⟨rfl, ⟨nd, rfl⟩⟩; (try first | exact ⟨rfl, _, World.drewN_drewN _ _ _⟩ | exact ⟨rfl, _, Eq.trans (World.drewN_drewN _ _ _) (congrArg (World.drewN _) (Nat.add_assoc _ _ _))⟩); have p177 : 0 ≤ (x7_2 : Int) := of_decide_eq_true z4_0; have q177 : x7_2 < (l0.length : Int) := of_decide_eq_true z4_0; obtain ⟨ad177, e177, hx177_0⟩ := Kd.at_string HR0.out x7_2 p177 q177; obtain rfl : ad174 = ad177 := (by injection e177); replace p177 := eq_true p177; replace q177 := eq_true q177)); try go_wp2_with (first | (go_at_call 73; (with_reducible refine (spec_l1Stands.calls k2 (rdOf ByteArray.empty l0 x7_2) (bt a1 0) false _ A10.out).mono ?_); rintro e w' ⟨rfl, ⟨nd, rfl⟩⟩; (try first | exact ⟨rfl, _, World.drewN_drewN _ _ _⟩ | exact ⟨rfl, _, Eq.trans (World.drewN_drewN _ _ _) (congrArg (World.drewN _) (Nat.add_assoc _ _ _))⟩); have p177 : 0 ≤ (x7_2 : Int) := of_decide_eq_true z4_0; have q177 : x7_2 < (l0.length : Int) := of_decide_eq_true z4_0; obtain ⟨ad177, e177, hx177_0⟩ := Kd.at_string HR0.out x7_2 p177 q177; obtain rfl : ad174 = ad177 := (by injection e177); replace p177 := eq_true p177; replace q177 := eq_true q177)))
                          go_roundg k2
                          case measure => have := HJ2.out; have := HK2.out; omega
                          case rel => exact ⟨(x6_2 ++ (rdOf ByteArray.empty l0 x7_2)), (wrap64 (x7_2 + 1)), z4_1, z4_1, H', ⟨by have := HJ2.out; have := HK2.out; omega⟩, z4_2⟩
                      · rw [if_neg c16] at H
                        exact absurd H (by simp)
                · rw [if_neg c8] at H
                  exact absurd H (by simp)
              · rw [if_neg c7] at H
                exact absurd H (by simp)
            · rw [if_neg c6] at H
              have c6b0 : decide (x7_2 < (l0.length : Int)) = false := decide_eq_false c6
              clear c6
              simp only [Option.some.injEq, Prod.mk.injEq] at H
              obtain ⟨rfl, rfl⟩ := H
              go_wp2
              repeat (go_quiet (fail); try go_wp2)
              go_ret2
              exact ⟨z4_1, z4_2⟩
end Go.Proofs.YtgclcjohnnpejaaDoor.Pt
end

section
namespace Go.Proofs.YtgclcjohnnpejaaDoor.Pt
open Go.RowKit Go.Proofs.YtgclcjohnnpejaaDoorW.PrintWords Go.Proofs.YtgclcjohnnpejaaDoorW.PrintLast Go.Proofs.YtgclcjohnnpejaaDoorW.PrintMore
attribute [local go_sem] max2_int min2_int max_two min_two max_three min_three max_four min_four
set_option linter.unusedVariables false
set_option linter.unusedSimpArgs false
def spec_DrawLessString.f (l0 : List Int) : Option (ByteArray × ByteArray) := (spec_l1Cur_any1.f l0 0 0).bind fun bt179 => ((spec_l1Cur_any1.f l0 bt179.2.1 bt179.2.2).bind fun bt182 => (some (bt179.1, bt182.1)))
set_option maxHeartbeats 8000000 in
set_option maxRecDepth 100000 in
theorem spec_DrawLessString.calls (A0 : Option Addr) (c0 : Nat) (l0 : List Int) (r1 : ByteArray) (r2 : ByteArray) (w : World) (hr0 : Kd.C (Kd.int .u8) w A0 l0.length l0) (hc0 : l0.length ≤ c0) (h : spec_DrawLessString.f l0 = some (r1, r2)) :
    Calls Tryd.prog 20 #[.slice A0 l0.length c0] w fun e w' => e = .returned (.tuple #[.string r1, .string r2]) ∧ Below w.heap.size w w' := by
  have hu83 := Tryd.underlying83
  have HR0 := Aside0.mk hr0
  have HC0 := Aside0.mk hc0
  clear hr0 hc0
  have HB := Aside0.mk (Below.refl w.heap.size w)
  have H : ((spec_l1Cur_any1.f l0 0 0).bind fun bt179 => ((spec_l1Cur_any1.f l0 bt179.2.1 bt179.2.2).bind fun bt182 => (some (bt179.1, bt182.1)))) = some (r1, r2) := h
  clear h
  replace H := Option.bind_eq_some_iff.mp H
  obtain ⟨⟨t179, t180, t181⟩, A20, H⟩ := H
  replace H : ((spec_l1Cur_any1.f l0 t180 t181).bind fun bt182 => (some (t179, bt182.1))) = some (r1, r2) := H
  have A2 := Aside0.mk A20
  clear A20
  replace H := Option.bind_eq_some_iff.mp H
  obtain ⟨⟨t182, t183, t184⟩, A30, H⟩ := H
  replace H : (some (t179, t182)) = some (r1, r2) := H
  have A3 := Aside0.mk A30
  clear A30
  simp only [Option.some.injEq, Prod.mk.injEq] at H
  obtain ⟨rfl, rfl⟩ := H
  go_enter Tryd.func20, Tryd.ntmps20
  go_wp2_with (first | ((with_reducible refine gate_dst (N := 8) rfl ?_); refine box_event ?hg (N := 8) ?hd (cs := #[.slice A0 l0.length c0, .int .i64 0, .int .u64 0]) (t := 83) ?hr ?_; (case hd => rfl); (case hg => rfl); (case hr => first | (go_simp; done) | (go_simp; rfl)); intro gb178 hg w4 hbox hb; have n0_ := Aside0.mk (below_step (by repeat (first | (with_reducible first | exact HB.out | apply below_alloc | apply pw_below_drewN | apply below_drew1) | exact HB.out)) hb); have n1_ := Aside0.mk ((show IsS83 w w4 gb178 l0 0 0 from ⟨_, _, hbox, (by rw [hg]; exact (below_size (by repeat (first | (with_reducible first | exact HB.out | apply below_alloc | apply pw_below_drewN | apply below_drew1) | exact HB.out))) : w.heap.size ≤ gb178), HR0.out⟩)); clear HB; have HB := n0_; have HI178 := n1_; clear n0_ n1_; clear hb hbox hg) | ((with_reducible refine gate_callee (f := 66) rfl ?_); refine goesL_ (some 10) rfl rfl Tryd.func66 (by kernel_rfl) rfl #[.pointer (some ⟨gb178, 0, none⟩)] rfl (by (try simp only [List.map_toArray, List.map_cons, List.map_nil]); first | done | rfl | (simp only [List.length_drop, List.length_take]; rfl)) ?_; (with_reducible refine (spec_l1Cur_any1.calls gb178 l0 0 0 t179 t180 t181 w _ ?side1 ?side2 A2.out).mono ?_); (case side1 => repeat (first | (with_reducible first | exact HI178.out | apply IsS83.alloc | apply IsS83.drewN | apply IsS83.drew | apply IsS83.set_1 | apply IsS83.set_2) | exact HI178.out)); (case side2 => repeat (first | (with_reducible first | exact HB.out | apply below_alloc | apply pw_below_drewN | apply below_drew1 | refine below_set ?_ (IsS83.ge HI178.out)) | exact HB.out)); rintro e w5 ⟨rfl, hi, hb, hk⟩; refine ⟨_, rfl, ?_⟩; have n0_ := Aside0.mk (hb); have n1_ := Aside0.mk (hi); clear HB; clear HI178; have HB := n0_; have HI178 := n1_; clear n0_ n1_; (try clear hb); (try clear hb2); (try clear hk); (try clear hi)) | ((with_reducible refine gate_callee (f := 66) rfl ?_); refine goesL_ (some 13) rfl rfl Tryd.func66 (by kernel_rfl) rfl #[.pointer (some ⟨gb178, 0, none⟩)] rfl (by (try simp only [List.map_toArray, List.map_cons, List.map_nil]); first | done | rfl | (simp only [List.length_drop, List.length_take]; rfl)) ?_; (with_reducible refine (spec_l1Cur_any1.calls gb178 l0 t180 t181 t182 t183 t184 w _ ?side1 ?side2 A3.out).mono ?_); (case side1 => repeat (first | (with_reducible first | exact HI178.out | apply IsS83.alloc | apply IsS83.drewN | apply IsS83.drew | apply IsS83.set_1 | apply IsS83.set_2) | exact HI178.out)); (case side2 => repeat (first | (with_reducible first | exact HB.out | apply below_alloc | apply pw_below_drewN | apply below_drew1 | refine below_set ?_ (IsS83.ge HI178.out)) | exact HB.out)); rintro e w6 ⟨rfl, hi, hb, hk⟩; refine ⟨_, rfl, ?_⟩; have n0_ := Aside0.mk (hb); have n1_ := Aside0.mk (hi); clear HB; clear HI178; have HB := n0_; have HI178 := n1_; clear n0_ n1_; (try clear hb); (try clear hb2); (try clear hk); (try clear hi)))
  go_ret2
  exact ⟨by first | rfl | (simp [errW_none, errW_some] <;> rfl) | (simp [*, errW_none, errW_some] <;> rfl), by repeat (first | (with_reducible first | exact HB.out | apply below_alloc | apply pw_below_drewN | apply below_drew1 | refine below_set ?_ (IsS83.ge HI178.out)) | exact HB.out)⟩
def impl_LessString.f (a0 : ByteArray) (a1 : ByteArray) : Option (Bool) := some (Op.bytesLess a0.toList a1.toList)
set_option maxHeartbeats 8000000 in
set_option maxRecDepth 100000 in
theorem impl_LessString.calls (a0 : ByteArray) (a1 : ByteArray) (r : Bool) (w : World) (h : impl_LessString.f a0 a1 = some r) :
    Calls Tryd.prog 21 #[.string a0, .string a1] w fun e w' => e = .returned (.bool r) ∧ Drawn0 w w' := by
  have H : (some (Op.bytesLess a0.toList a1.toList)) = some r := h
  clear h
  obtain rfl := Option.some.inj H
  go_enter Tryd.func21, Tryd.ntmps21
  go_wp2
  go_ret
  exact ⟨by first | rfl | (simp; done) | (simp [*]; done), by repeat (first | exact Drawn0.refl _ | apply Drawn0.step)⟩
def spec_LessString.f (a0 : ByteArray) (a1 : ByteArray) : Option (Bool) := some (Op.bytesLess a0.toList a1.toList)
set_option maxHeartbeats 8000000 in
set_option maxRecDepth 100000 in
theorem spec_LessString.calls (a0 : ByteArray) (a1 : ByteArray) (r : Bool) (w : World) (h : spec_LessString.f a0 a1 = some r) :
    Calls Tryd.prog 22 #[.string a0, .string a1] w fun e w' => e = .returned (.bool r) ∧ Drawn0 w w' := by
  have H : (some (Op.bytesLess a0.toList a1.toList)) = some r := h
  clear h
  obtain rfl := Option.some.inj H
  go_enter Tryd.func22, Tryd.ntmps22
  go_wp2
  go_ret
  exact ⟨by first | rfl | (simp; done) | (simp [*]; done), by repeat (first | exact Drawn0.refl _ | apply Drawn0.step)⟩
end Go.Proofs.YtgclcjohnnpejaaDoor.Pt
end

section
namespace Go.Proofs.YtgclcjohnnpejaaDoor.Pt
open Go.RowKit Go.Proofs.YtgclcjohnnpejaaDoorW.PrintWords Go.Proofs.YtgclcjohnnpejaaDoorW.PrintLast Go.Proofs.YtgclcjohnnpejaaDoorW.PrintMore
attribute [local go_sem] max2_int min2_int max_two min_two max_three min_three max_four min_four
set_option linter.unusedVariables false
set_option linter.unusedSimpArgs false
theorem z6_0 {P : Prop} (h : P := by repeat (first | (with_reducible first | exact HB.out | apply below_alloc | apply pw_below_drewN | apply below_drew1) | exact HB.out)) : P := h
theorem z6_1 {P : Prop} (h : P := by (try simp only [List.map_toArray, List.map_cons, List.map_nil]); first | done | rfl | (simp only [List.length_drop, List.length_take]; rfl)) : P := h
theorem z6_2 {P : Prop} (h : P := by first | rfl | (simp [errW_none, errW_some] <;> rfl) | (simp [*, errW_none, errW_some] <;> rfl)) : P := h
theorem z6_3 {P : Prop} (h : P := by (with_reducible repeat (first | apply Kd.R_alloc | apply Kd.R_drewN | apply Kd.R_drew)); exact Kd.R_mono HO191.out (fun _ hk => trivial)) : P := h
theorem z6_4 {P : Prop} (h : P := by (with_reducible repeat (first | apply Kd.R_alloc | apply Kd.R_drewN | apply Kd.R_drew)); exact HO191.out) : P := h
theorem z6_5 {P : Prop} (h : P := by (with_reducible repeat (first | apply Kd.R_alloc | apply Kd.R_drewN | apply Kd.R_drew)); exact HO_5.out) : P := h
def laws_FnSplitJoin.j0 : Nat → ByteArray → ByteArray → List ByteArray → Bool → Bool → Option (Bool)
  | 0, _, _, _, _, _ => none
  | k + 1, x3, x4, x5, x6, x78 => if x78 = true then (some false) else (if (x4.size : Int) = 1 then ((impl_JoinStrings.f k x5 x4).bind fun bt206 => (if x6 = true then (if bt206.2 = true then (some (bt206.1.toList == x3.toList)) else (some false)) else (some false))) else (if x6 = true then (some false) else (some ((x5.length : Int) == 0))))
def laws_FnSplitJoin.f (k : Nat) (l0 : List Int) : Option (Bool) := (laws_vBig.f l0).bind fun t185 => (if t185 = true then (some true) else ((spec_DrawSplitString.f l0).bind fun bt186 => ((impl_SplitString.f bt186.1 bt186.2).bind fun bt188 => ((spec_DrawJoinStrings.f k l0).bind fun bt192 => ((impl_JoinStrings.f k bt192.1 bt192.2).bind fun bt196 => ((spec_JoinStrings.f k bt192.1 bt192.2).bind fun bt198 => ((spec_DrawLessString.f l0).bind fun bt200 => (if bt196.1.toList = bt198.1.toList then (if (bt196.2 != bt198.2) = true then (laws_FnSplitJoin.j0 k bt186.1 bt186.2 bt188.1 bt188.2 true) else ((impl_LessString.f bt200.1 bt200.2).bind fun t202 => ((spec_LessString.f bt200.1 bt200.2).bind fun t203 => (if (t202 != t203) = true then (laws_FnSplitJoin.j0 k bt186.1 bt186.2 bt188.1 bt188.2 true) else ((impl_LessString.f bt200.1 bt200.2).bind fun t204 => (if t204 = true then ((impl_LessString.f bt200.2 bt200.1).bind fun t205 => (laws_FnSplitJoin.j0 k bt186.1 bt186.2 bt188.1 bt188.2 t205)) else (laws_FnSplitJoin.j0 k bt186.1 bt186.2 bt188.1 bt188.2 false))))))) else (laws_FnSplitJoin.j0 k bt186.1 bt186.2 bt188.1 bt188.2 true)))))))))
theorem laws_FnSplitJoin.mono_l : ∀ k, (∀ y0 y1 y2 y3 y4, LeO (laws_FnSplitJoin.j0 k y0 y1 y2 y3 y4) (laws_FnSplitJoin.j0 (k + 1) y0 y1 y2 y3 y4))
  | 0 => fun _ _ _ _ _ r h => by simp [laws_FnSplitJoin.j0] at h
  | k + 1 => by
    have ih0 := laws_FnSplitJoin.mono_l k
    · intro y0 y1 y2 y3 y4
      unfold laws_FnSplitJoin.j0
      repeat' first
      | (with_reducible exact ih0 _ _ _ _ _)
      | (with_reducible exact impl_JoinStrings.mono _ _ _)
      | (with_reducible exact spec_DrawJoinStrings.mono _ _)
      | (with_reducible exact spec_JoinStrings.mono _ _ _)
      | (with_reducible exact LeO.refl _)
      | (with_reducible exact LeO.none _)
      | (with_reducible refine LeO.ite ?_ ?_)
      | (with_reducible refine LeO.bind ?_ (fun _ => ?_))
      | exact ih0 _ _ _ _ _
      | exact impl_JoinStrings.mono _ _ _
      | exact spec_DrawJoinStrings.mono _ _
      | exact spec_JoinStrings.mono _ _ _
      | exact LeO.none _
      | refine LeO.ite ?_ ?_
      | refine LeO.bind ?_ (fun _ => ?_)
theorem laws_FnSplitJoin.mono : ∀ a0 k, LeO (laws_FnSplitJoin.f k a0) (laws_FnSplitJoin.f (k + 1) a0) := by
  intro a0 k
  have ih0 := laws_FnSplitJoin.mono_l k
  unfold laws_FnSplitJoin.f
  repeat' first
      | (with_reducible exact ih0 _ _ _ _ _)
      | (with_reducible exact impl_JoinStrings.mono _ _ _)
      | (with_reducible exact spec_DrawJoinStrings.mono _ _)
      | (with_reducible exact spec_JoinStrings.mono _ _ _)
      | (with_reducible exact LeO.refl _)
      | (with_reducible exact LeO.none _)
      | (with_reducible refine LeO.ite ?_ ?_)
      | (with_reducible refine LeO.bind ?_ (fun _ => ?_))
      | exact ih0 _ _ _ _ _
      | exact impl_JoinStrings.mono _ _ _
      | exact spec_DrawJoinStrings.mono _ _
      | exact spec_JoinStrings.mono _ _ _
      | exact LeO.none _
      | refine LeO.ite ?_ ?_
      | refine LeO.bind ?_ (fun _ => ?_)
set_option maxHeartbeats 8000000 in
set_option maxRecDepth 100000 in
theorem laws_FnSplitJoin.calls (k : Nat) (A0 : Option Addr) (c0 : Nat) (l0 : List Int) (r : Bool) (w : World) (hr0 : Kd.C (Kd.int .u8) w A0 l0.length l0) (hc0 : l0.length ≤ c0) (hgl : Glob w) (h : laws_FnSplitJoin.f k l0 = some r) :
    Calls Tryd.prog 3 #[.slice A0 l0.length c0] w fun e w' => e = .returned (.bool r) ∧ Below w.heap.size w w' := by
  have HR0 := Aside0.mk hr0
  have HC0 := Aside0.mk hc0
  clear hr0 hc0
  have HB := Aside0.mk (Below.refl w.heap.size w)
  have HGL := Aside0.mk hgl
  clear hgl
  have H : ((laws_vBig.f l0).bind fun t185 => (if t185 = true then (some true) else ((spec_DrawSplitString.f l0).bind fun bt186 => ((impl_SplitString.f bt186.1 bt186.2).bind fun bt188 => ((spec_DrawJoinStrings.f k l0).bind fun bt192 => ((impl_JoinStrings.f k bt192.1 bt192.2).bind fun bt196 => ((spec_JoinStrings.f k bt192.1 bt192.2).bind fun bt198 => ((spec_DrawLessString.f l0).bind fun bt200 => (if bt196.1.toList = bt198.1.toList then (if (bt196.2 != bt198.2) = true then (laws_FnSplitJoin.j0 k bt186.1 bt186.2 bt188.1 bt188.2 true) else ((impl_LessString.f bt200.1 bt200.2).bind fun t202 => ((spec_LessString.f bt200.1 bt200.2).bind fun t203 => (if (t202 != t203) = true then (laws_FnSplitJoin.j0 k bt186.1 bt186.2 bt188.1 bt188.2 true) else ((impl_LessString.f bt200.1 bt200.2).bind fun t204 => (if t204 = true then ((impl_LessString.f bt200.2 bt200.1).bind fun t205 => (laws_FnSplitJoin.j0 k bt186.1 bt186.2 bt188.1 bt188.2 t205)) else (laws_FnSplitJoin.j0 k bt186.1 bt186.2 bt188.1 bt188.2 false))))))) else (laws_FnSplitJoin.j0 k bt186.1 bt186.2 bt188.1 bt188.2 true)))))))))) = some r := h
  clear h
  replace H := Option.bind_eq_some_iff.mp H
  obtain ⟨t185, A20, H⟩ := H
  replace H : (if t185 = true then (some true) else ((spec_DrawSplitString.f l0).bind fun bt186 => ((impl_SplitString.f bt186.1 bt186.2).bind fun bt188 => ((spec_DrawJoinStrings.f k l0).bind fun bt192 => ((impl_JoinStrings.f k bt192.1 bt192.2).bind fun bt196 => ((spec_JoinStrings.f k bt192.1 bt192.2).bind fun bt198 => ((spec_DrawLessString.f l0).bind fun bt200 => (if bt196.1.toList = bt198.1.toList then (if (bt196.2 != bt198.2) = true then (laws_FnSplitJoin.j0 k bt186.1 bt186.2 bt188.1 bt188.2 true) else ((impl_LessString.f bt200.1 bt200.2).bind fun t202 => ((spec_LessString.f bt200.1 bt200.2).bind fun t203 => (if (t202 != t203) = true then (laws_FnSplitJoin.j0 k bt186.1 bt186.2 bt188.1 bt188.2 true) else ((impl_LessString.f bt200.1 bt200.2).bind fun t204 => (if t204 = true then ((impl_LessString.f bt200.2 bt200.1).bind fun t205 => (laws_FnSplitJoin.j0 k bt186.1 bt186.2 bt188.1 bt188.2 t205)) else (laws_FnSplitJoin.j0 k bt186.1 bt186.2 bt188.1 bt188.2 false))))))) else (laws_FnSplitJoin.j0 k bt186.1 bt186.2 bt188.1 bt188.2 true))))))))) = some r := H
  have A2 := Aside0.mk A20
  clear A20
  by_cases c3 : t185 = true
  · subst c3
    have H1 : (some true) = some r := by rw [if_pos rfl] at H; exact H
    clear H
    have H := H1
    clear H1
    obtain rfl := Option.some.inj H
    go_enter Tryd.func3, Tryd.ntmps3
    go_wp2_with (first | ((with_reducible refine gate_callee (f := 14) rfl ?_); refine goesL_ (some 18) rfl rfl Tryd.func14 (by kernel_rfl) rfl #[.slice A0 l0.length c0] rfl z6_1 ?_; (with_reducible refine (laws_vBig.calls _ _ l0 true _ ?side1 ?side2 A2.out).mono ?_); (case side1 => repeat (first | exact HR0.out | (with_reducible refine Kd.C_alloc ?_ _) | (with_reducible refine Kd.C_drewN ?_ _) | (with_reducible refine Kd.C_drew ?_))); (case side2 => exact HC0.out); rintro e w' ⟨rfl, ⟨nd, rfl⟩⟩; refine ⟨_, rfl, ?_⟩))
    go_ret
    exact ⟨z6_2, z6_0⟩
  · replace c3 := Bool.eq_false_iff.mpr c3
    subst c3
    have H1 : ((spec_DrawSplitString.f l0).bind fun bt186 => ((impl_SplitString.f bt186.1 bt186.2).bind fun bt188 => ((spec_DrawJoinStrings.f k l0).bind fun bt192 => ((impl_JoinStrings.f k bt192.1 bt192.2).bind fun bt196 => ((spec_JoinStrings.f k bt192.1 bt192.2).bind fun bt198 => ((spec_DrawLessString.f l0).bind fun bt200 => (if bt196.1.toList = bt198.1.toList then (if (bt196.2 != bt198.2) = true then (laws_FnSplitJoin.j0 k bt186.1 bt186.2 bt188.1 bt188.2 true) else ((impl_LessString.f bt200.1 bt200.2).bind fun t202 => ((spec_LessString.f bt200.1 bt200.2).bind fun t203 => (if (t202 != t203) = true then (laws_FnSplitJoin.j0 k bt186.1 bt186.2 bt188.1 bt188.2 true) else ((impl_LessString.f bt200.1 bt200.2).bind fun t204 => (if t204 = true then ((impl_LessString.f bt200.2 bt200.1).bind fun t205 => (laws_FnSplitJoin.j0 k bt186.1 bt186.2 bt188.1 bt188.2 t205)) else (laws_FnSplitJoin.j0 k bt186.1 bt186.2 bt188.1 bt188.2 false))))))) else (laws_FnSplitJoin.j0 k bt186.1 bt186.2 bt188.1 bt188.2 true)))))))) = some r := by rw [if_neg (show ¬ (false = true) by decide)] at H; exact H
    clear H
    have H := H1
    clear H1
    replace H := Option.bind_eq_some_iff.mp H
    obtain ⟨⟨t186, t187⟩, A40, H⟩ := H
    replace H : ((impl_SplitString.f t186 t187).bind fun bt188 => ((spec_DrawJoinStrings.f k l0).bind fun bt192 => ((impl_JoinStrings.f k bt192.1 bt192.2).bind fun bt196 => ((spec_JoinStrings.f k bt192.1 bt192.2).bind fun bt198 => ((spec_DrawLessString.f l0).bind fun bt200 => (if bt196.1.toList = bt198.1.toList then (if (bt196.2 != bt198.2) = true then (laws_FnSplitJoin.j0 k t186 t187 bt188.1 bt188.2 true) else ((impl_LessString.f bt200.1 bt200.2).bind fun t202 => ((spec_LessString.f bt200.1 bt200.2).bind fun t203 => (if (t202 != t203) = true then (laws_FnSplitJoin.j0 k t186 t187 bt188.1 bt188.2 true) else ((impl_LessString.f bt200.1 bt200.2).bind fun t204 => (if t204 = true then ((impl_LessString.f bt200.2 bt200.1).bind fun t205 => (laws_FnSplitJoin.j0 k t186 t187 bt188.1 bt188.2 t205)) else (laws_FnSplitJoin.j0 k t186 t187 bt188.1 bt188.2 false))))))) else (laws_FnSplitJoin.j0 k t186 t187 bt188.1 bt188.2 true))))))) = some r := H
    have A4 := Aside0.mk A40
    clear A40
    replace H := Option.bind_eq_some_iff.mp H
    obtain ⟨⟨t188, t189⟩, A50, H⟩ := H
    replace H : ((spec_DrawJoinStrings.f k l0).bind fun bt192 => ((impl_JoinStrings.f k bt192.1 bt192.2).bind fun bt196 => ((spec_JoinStrings.f k bt192.1 bt192.2).bind fun bt198 => ((spec_DrawLessString.f l0).bind fun bt200 => (if bt196.1.toList = bt198.1.toList then (if (bt196.2 != bt198.2) = true then (laws_FnSplitJoin.j0 k t186 t187 t188 t189 true) else ((impl_LessString.f bt200.1 bt200.2).bind fun t202 => ((spec_LessString.f bt200.1 bt200.2).bind fun t203 => (if (t202 != t203) = true then (laws_FnSplitJoin.j0 k t186 t187 t188 t189 true) else ((impl_LessString.f bt200.1 bt200.2).bind fun t204 => (if t204 = true then ((impl_LessString.f bt200.2 bt200.1).bind fun t205 => (laws_FnSplitJoin.j0 k t186 t187 t188 t189 t205)) else (laws_FnSplitJoin.j0 k t186 t187 t188 t189 false))))))) else (laws_FnSplitJoin.j0 k t186 t187 t188 t189 true)))))) = some r := H
    have A5 := Aside0.mk A50
    clear A50
    replace H := Option.bind_eq_some_iff.mp H
    obtain ⟨⟨t192, t193⟩, A60, H⟩ := H
    replace H : ((impl_JoinStrings.f k t192 t193).bind fun bt196 => ((spec_JoinStrings.f k t192 t193).bind fun bt198 => ((spec_DrawLessString.f l0).bind fun bt200 => (if bt196.1.toList = bt198.1.toList then (if (bt196.2 != bt198.2) = true then (laws_FnSplitJoin.j0 k t186 t187 t188 t189 true) else ((impl_LessString.f bt200.1 bt200.2).bind fun t202 => ((spec_LessString.f bt200.1 bt200.2).bind fun t203 => (if (t202 != t203) = true then (laws_FnSplitJoin.j0 k t186 t187 t188 t189 true) else ((impl_LessString.f bt200.1 bt200.2).bind fun t204 => (if t204 = true then ((impl_LessString.f bt200.2 bt200.1).bind fun t205 => (laws_FnSplitJoin.j0 k t186 t187 t188 t189 t205)) else (laws_FnSplitJoin.j0 k t186 t187 t188 t189 false))))))) else (laws_FnSplitJoin.j0 k t186 t187 t188 t189 true))))) = some r := H
    have A6 := Aside0.mk A60
    clear A60
    replace H := Option.bind_eq_some_iff.mp H
    obtain ⟨⟨t196, t197⟩, A70, H⟩ := H
    replace H : ((spec_JoinStrings.f k t192 t193).bind fun bt198 => ((spec_DrawLessString.f l0).bind fun bt200 => (if t196.toList = bt198.1.toList then (if (t197 != bt198.2) = true then (laws_FnSplitJoin.j0 k t186 t187 t188 t189 true) else ((impl_LessString.f bt200.1 bt200.2).bind fun t202 => ((spec_LessString.f bt200.1 bt200.2).bind fun t203 => (if (t202 != t203) = true then (laws_FnSplitJoin.j0 k t186 t187 t188 t189 true) else ((impl_LessString.f bt200.1 bt200.2).bind fun t204 => (if t204 = true then ((impl_LessString.f bt200.2 bt200.1).bind fun t205 => (laws_FnSplitJoin.j0 k t186 t187 t188 t189 t205)) else (laws_FnSplitJoin.j0 k t186 t187 t188 t189 false))))))) else (laws_FnSplitJoin.j0 k t186 t187 t188 t189 true)))) = some r := H
    have A7 := Aside0.mk A70
    clear A70
    replace H := Option.bind_eq_some_iff.mp H
    obtain ⟨⟨t198, t199⟩, A80, H⟩ := H
    replace H : ((spec_DrawLessString.f l0).bind fun bt200 => (if t196.toList = t198.toList then (if (t197 != t199) = true then (laws_FnSplitJoin.j0 k t186 t187 t188 t189 true) else ((impl_LessString.f bt200.1 bt200.2).bind fun t202 => ((spec_LessString.f bt200.1 bt200.2).bind fun t203 => (if (t202 != t203) = true then (laws_FnSplitJoin.j0 k t186 t187 t188 t189 true) else ((impl_LessString.f bt200.1 bt200.2).bind fun t204 => (if t204 = true then ((impl_LessString.f bt200.2 bt200.1).bind fun t205 => (laws_FnSplitJoin.j0 k t186 t187 t188 t189 t205)) else (laws_FnSplitJoin.j0 k t186 t187 t188 t189 false))))))) else (laws_FnSplitJoin.j0 k t186 t187 t188 t189 true))) = some r := H
    have A8 := Aside0.mk A80
    clear A80
    replace H := Option.bind_eq_some_iff.mp H
    obtain ⟨⟨t200, t201⟩, A90, H⟩ := H
    replace H : (if t196.toList = t198.toList then (if (t197 != t199) = true then (laws_FnSplitJoin.j0 k t186 t187 t188 t189 true) else ((impl_LessString.f t200 t201).bind fun t202 => ((spec_LessString.f t200 t201).bind fun t203 => (if (t202 != t203) = true then (laws_FnSplitJoin.j0 k t186 t187 t188 t189 true) else ((impl_LessString.f t200 t201).bind fun t204 => (if t204 = true then ((impl_LessString.f t201 t200).bind fun t205 => (laws_FnSplitJoin.j0 k t186 t187 t188 t189 t205)) else (laws_FnSplitJoin.j0 k t186 t187 t188 t189 false))))))) else (laws_FnSplitJoin.j0 k t186 t187 t188 t189 true)) = some r := H
    have A9 := Aside0.mk A90
    clear A90
    have HC10 := Aside0.mk H
    clear H
    go_enter Tryd.func3, Tryd.ntmps3
    go_upto_region 9 with (first | ((with_reducible refine gate_callee (f := 14) rfl ?_); refine goesL_ (some 18) rfl rfl Tryd.func14 (by kernel_rfl) rfl #[.slice A0 l0.length c0] rfl z6_1 ?_; (with_reducible refine (laws_vBig.calls _ _ l0 false _ ?side1 ?side2 A2.out).mono ?_); (case side1 => repeat (first | exact HR0.out | (with_reducible refine Kd.C_alloc ?_ _) | (with_reducible refine Kd.C_drewN ?_ _) | (with_reducible refine Kd.C_drew ?_))); (case side2 => exact HC0.out); rintro e w' ⟨rfl, ⟨nd, rfl⟩⟩; refine ⟨_, rfl, ?_⟩) | ((with_reducible refine gate_callee (f := 15) rfl ?_); refine goesL_ (some 21) rfl rfl Tryd.func15 (by kernel_rfl) rfl #[.slice A0 l0.length c0] rfl z6_1 ?_; (with_reducible refine (spec_DrawSplitString.calls _ _ l0 t186 t187 _ ?side1 ?side2 A4.out).mono ?_); (case side1 => repeat (first | exact HR0.out | (with_reducible refine Kd.C_alloc ?_ _) | (with_reducible refine Kd.C_drewN ?_ _) | (with_reducible refine Kd.C_drew ?_))); (case side2 => exact HC0.out); rintro e w11 ⟨rfl, hb⟩; refine ⟨_, rfl, ?_⟩; have n0_ := Aside0.mk (below_step z6_0 hb); clear HB; have HB := n0_; clear n0_; (try clear hb); (try clear hb2); (try clear hk); (try clear hi)) | ((with_reducible refine gate_callee (f := 16) rfl ?_); refine goesL_ (some 27) rfl rfl Tryd.func16 (by kernel_rfl) rfl #[.string t186, .string t187] rfl z6_1 ?_; (with_reducible refine (impl_SplitString.calls t186 t187 t188 t189 _ ?side1 A5.out).mono ?_); (case side1 => exact Glob.below HGL.out z6_0); rintro e w12 ⟨v190, rfl, ho0, hb⟩; refine ⟨_, rfl, ?_⟩; have n0_ := Aside0.mk (Kd.R_lower ho0 (below_size z6_0)); have n1_ := Aside0.mk (below_step z6_0 hb); clear HB; have HO191 := n0_; have HB := n1_; clear n0_ n1_; (try clear hb); (try clear hb2); (try clear hk); (try clear hi); (try clear ho0)) | ((with_reducible refine gate_callee (f := 17) rfl ?_); refine goesL_ (some 32) rfl rfl Tryd.func17 (by kernel_rfl) rfl #[.slice A0 l0.length c0] rfl z6_1 ?_; (with_reducible refine (spec_DrawJoinStrings.calls k _ _ l0 t192 t193 _ ?side1 ?side2 A6.out).mono ?_); (case side1 => repeat (first | exact (Kd.C_below HR0.out HB.out) | (with_reducible refine Kd.C_alloc ?_ _) | (with_reducible refine Kd.C_drewN ?_ _) | (with_reducible refine Kd.C_drew ?_))); (case side2 => exact HC0.out); rintro e w13 ⟨v194, rfl, ho0, hb⟩; refine ⟨_, rfl, ?_⟩; have n0_ := Aside0.mk (Kd.R_elder' z6_4 (Kd.R_base ho0) hb); have n1_ := Aside0.mk (Kd.R_lower (Kd.R_new' ho0 (Kd.R_lt z6_4)) (below_size z6_0)); have n2_ := Aside0.mk (below_step z6_0 hb); clear HO191; clear HB; have HO191 := n0_; have HO195 := n1_; have HB := n2_; clear n0_ n1_ n2_; (try clear hb); (try clear hb2); (try clear hk); (try clear hi); (try clear ho0); obtain ⟨Ao14, co14, eo14⟩ := Kd.R_slice HO195.out; subst eo14) | ((with_reducible refine gate_callee (f := 18) rfl ?_); refine goesL_ (some 38) rfl rfl Tryd.func18 (by kernel_rfl) rfl #[.slice Ao14 t192.length co14, .string t193] rfl z6_1 ?_; (with_reducible refine (impl_JoinStrings.calls k _ _ t192 t193 t196 t197 _ ?side1 ?side2 A7.out).mono ?_); (case side1 => repeat (first | exact (Kd.R_reads' HO195.out).2.2 | (with_reducible refine Kd.C_alloc ?_ _) | (with_reducible refine Kd.C_drewN ?_ _) | (with_reducible refine Kd.C_drew ?_))); (case side2 => exact (Kd.R_reads' HO195.out).2.1); rintro e w15 ⟨rfl, hb⟩; refine ⟨_, rfl, ?_⟩; have n0_ := Aside0.mk (Kd.R_below z6_4 hb); have n1_ := Aside0.mk (Kd.R_below (by (with_reducible repeat (first | apply Kd.R_alloc | apply Kd.R_drewN | apply Kd.R_drew)); exact HO195.out) hb); have n2_ := Aside0.mk (below_step z6_0 hb); clear HO191; clear HO195; clear HB; have HO191 := n0_; have HO195 := n1_; have HB := n2_; clear n0_ n1_ n2_; (try clear hb); (try clear hb2); (try clear hk); (try clear hi)) | ((with_reducible refine gate_callee (f := 19) rfl ?_); refine goesL_ (some 44) rfl rfl Tryd.func19 (by kernel_rfl) rfl #[.slice Ao14 t192.length co14, .string t193] rfl z6_1 ?_; (with_reducible refine (spec_JoinStrings.calls k _ _ t192 t193 t198 t199 _ ?side1 ?side2 A8.out).mono ?_); (case side1 => repeat (first | exact (Kd.R_reads' HO195.out).2.2 | (with_reducible refine Kd.C_alloc ?_ _) | (with_reducible refine Kd.C_drewN ?_ _) | (with_reducible refine Kd.C_drew ?_))); (case side2 => exact (Kd.R_reads' HO195.out).2.1); rintro e w' ⟨rfl, ⟨nd, rfl⟩⟩; refine ⟨_, rfl, ?_⟩) | ((with_reducible refine gate_callee (f := 20) rfl ?_); refine goesL_ (some 49) rfl rfl Tryd.func20 (by kernel_rfl) rfl #[.slice A0 l0.length c0] rfl z6_1 ?_; (with_reducible refine (spec_DrawLessString.calls _ _ l0 t200 t201 _ ?side1 ?side2 A9.out).mono ?_); (case side1 => repeat (first | exact (Kd.C_below HR0.out z6_0) | (with_reducible refine Kd.C_alloc ?_ _) | (with_reducible refine Kd.C_drewN ?_ _) | (with_reducible refine Kd.C_drew ?_))); (case side2 => exact HC0.out); rintro e w16 ⟨rfl, hb⟩; refine ⟨_, rfl, ?_⟩; have n0_ := Aside0.mk (Kd.R_below z6_4 hb); have n1_ := Aside0.mk (Kd.R_below (by (with_reducible repeat (first | apply Kd.R_alloc | apply Kd.R_drewN | apply Kd.R_drew)); exact HO195.out) hb); have n2_ := Aside0.mk (below_step z6_0 hb); clear HO191; clear HO195; clear HB; have HO191 := n0_; have HO195 := n1_; have HB := n2_; clear n0_ n1_ n2_; (try clear hb); (try clear hb2); (try clear hk); (try clear hi)))
    (try simp only [Act.put, List.setIfInBounds_toArray, List.set_cons_zero, List.set_cons_succ])
    go_cut [78] (fun v78 wc => ∃ (kq : Nat) (x78_9 : Bool), v78 = .bool x78_9 ∧ Aside0 (laws_FnSplitJoin.j0 kq t186 t187 t188 t189 x78_9 = some r) ∧ Aside0 (kq ≤ k) ∧ Aside0 (Kd.R Kd.string 9 wc w.heap.size (fun _ => True) v190 t188) ∧ Aside0 (Below w.heap.size w wc))
    case first =>
      have H := HC10.out
      clear HC10
      by_cases c17 : t196.toList = t198.toList
      · rw [if_pos c17] at H
        have c17b0 : (t196.toList == t198.toList) = true := beq_iff_eq.mpr c17
        have c17b1 : (t196.toList != t198.toList) = false := bne_eq_false_iff_eq.mpr c17
        clear c17
        (first | rw [c17b0] | (simp only [i64_w, i32_w]; rw [c17b0]) | skip)
        by_cases c18 : (t197 != t199) = true
        · rw [if_pos c18] at H
          have c18b0 : (t197 != t199) = true := c18
          (try (have c18b1 : decide (t197 = t199) = false := by simpa using c18))
          (try (have c18b2 : (t197 == t199) = false := by simpa using c18))
          (try (have c18b3 : ¬ (t197 = t199) := by simpa using c18))
          clear c18
          have H' := Aside0.mk H
          clear H
          go_wp2
          go_meet
          case rel => exact ⟨_, (true), (by first | rfl | (simp; done) | (simp [*]; done)), H', ⟨by first | omega | exact Nat.le_refl _⟩, ⟨z6_3⟩, ⟨z6_0⟩⟩
        · rw [if_neg c18] at H
          have c18b0 : (t197 != t199) = false := by simpa using c18
          (try (have c18b1 : decide (t197 = t199) = true := by simpa using c18))
          (try (have c18b2 : (t197 == t199) = true := by simpa using c18))
          clear c18
          replace H := Option.bind_eq_some_iff.mp H
          obtain ⟨t202, A190, H⟩ := H
          replace H : ((spec_LessString.f t200 t201).bind fun t203 => (if (t202 != t203) = true then (laws_FnSplitJoin.j0 k t186 t187 t188 t189 true) else ((impl_LessString.f t200 t201).bind fun t204 => (if t204 = true then ((impl_LessString.f t201 t200).bind fun t205 => (laws_FnSplitJoin.j0 k t186 t187 t188 t189 t205)) else (laws_FnSplitJoin.j0 k t186 t187 t188 t189 false))))) = some r := H
          have A19 := Aside0.mk A190
          clear A190
          replace H := Option.bind_eq_some_iff.mp H
          obtain ⟨t203, A200, H⟩ := H
          replace H : (if (t202 != t203) = true then (laws_FnSplitJoin.j0 k t186 t187 t188 t189 true) else ((impl_LessString.f t200 t201).bind fun t204 => (if t204 = true then ((impl_LessString.f t201 t200).bind fun t205 => (laws_FnSplitJoin.j0 k t186 t187 t188 t189 t205)) else (laws_FnSplitJoin.j0 k t186 t187 t188 t189 false)))) = some r := H
          have A20 := Aside0.mk A200
          clear A200
          by_cases c21 : (t202 != t203) = true
          · rw [if_pos c21] at H
            have c21b0 : (t202 != t203) = true := c21
            (try (have c21b1 : decide (t202 = t203) = false := by simpa using c21))
            (try (have c21b2 : (t202 == t203) = false := by simpa using c21))
            (try (have c21b3 : ¬ (t202 = t203) := by simpa using c21))
            clear c21
            have H' := Aside0.mk H
            clear H
            go_wp2_with (first | (go_at_call 21; (with_reducible refine (impl_LessString.calls t200 t201 t202 _ A19.out).mono ?_); rintro e w' ⟨rfl, ⟨nd, rfl⟩⟩) | (go_at_call 22; (with_reducible refine (spec_LessString.calls t200 t201 t203 _ A20.out).mono ?_); rintro e w' ⟨rfl, ⟨nd, rfl⟩⟩))
            go_meet
            case rel => exact ⟨_, (true), (by first | rfl | (simp; done) | (simp [*]; done)), H', ⟨by first | omega | exact Nat.le_refl _⟩, ⟨z6_3⟩, ⟨z6_0⟩⟩
          · rw [if_neg c21] at H
            have c21b0 : (t202 != t203) = false := by simpa using c21
            (try (have c21b1 : decide (t202 = t203) = true := by simpa using c21))
            (try (have c21b2 : (t202 == t203) = true := by simpa using c21))
            clear c21
            replace H := Option.bind_eq_some_iff.mp H
            obtain ⟨t204, A220, H⟩ := H
            replace H : (if t204 = true then ((impl_LessString.f t201 t200).bind fun t205 => (laws_FnSplitJoin.j0 k t186 t187 t188 t189 t205)) else (laws_FnSplitJoin.j0 k t186 t187 t188 t189 false)) = some r := H
            have A22 := Aside0.mk A220
            clear A220
            by_cases c23 : t204 = true
            · subst c23
              have H1 : ((impl_LessString.f t201 t200).bind fun t205 => (laws_FnSplitJoin.j0 k t186 t187 t188 t189 t205)) = some r := by rw [if_pos rfl] at H; exact H
              clear H
              have H := H1
              clear H1
              replace H := Option.bind_eq_some_iff.mp H
              obtain ⟨t205, A240, H⟩ := H
              replace H : (laws_FnSplitJoin.j0 k t186 t187 t188 t189 t205) = some r := H
              have A24 := Aside0.mk A240
              clear A240
              have H' := Aside0.mk H
              clear H
              go_wp2_with (first | (go_at_call 21; (with_reducible refine (impl_LessString.calls t200 t201 t202 _ A19.out).mono ?_); rintro e w' ⟨rfl, ⟨nd, rfl⟩⟩; (try clear A19)) | (go_at_call 22; (with_reducible refine (spec_LessString.calls t200 t201 t203 _ A20.out).mono ?_); rintro e w' ⟨rfl, ⟨nd, rfl⟩⟩) | (go_at_call 21; (with_reducible refine (impl_LessString.calls t200 t201 true _ A22.out).mono ?_); rintro e w' ⟨rfl, ⟨nd, rfl⟩⟩; (try clear A22)) | (go_at_call 21; (with_reducible refine (impl_LessString.calls t201 t200 t205 _ A24.out).mono ?_); rintro e w' ⟨rfl, ⟨nd, rfl⟩⟩))
              go_meet
              case rel => exact ⟨_, (t205), (by first | rfl | (simp; done) | (simp [*]; done)), H', ⟨by first | omega | exact Nat.le_refl _⟩, ⟨z6_3⟩, ⟨z6_0⟩⟩
            · replace c23 := Bool.eq_false_iff.mpr c23
              subst c23
              have H1 : (laws_FnSplitJoin.j0 k t186 t187 t188 t189 false) = some r := by rw [if_neg (show ¬ (false = true) by decide)] at H; exact H
              clear H
              have H := H1
              clear H1
              have H' := Aside0.mk H
              clear H
              go_wp2_with (first | (go_at_call 21; (with_reducible refine (impl_LessString.calls t200 t201 t202 _ A19.out).mono ?_); rintro e w' ⟨rfl, ⟨nd, rfl⟩⟩; (try clear A19)) | (go_at_call 22; (with_reducible refine (spec_LessString.calls t200 t201 t203 _ A20.out).mono ?_); rintro e w' ⟨rfl, ⟨nd, rfl⟩⟩) | (go_at_call 21; (with_reducible refine (impl_LessString.calls t200 t201 false _ A22.out).mono ?_); rintro e w' ⟨rfl, ⟨nd, rfl⟩⟩; (try clear A22)))
              go_meet
              case rel => exact ⟨_, (false), (by first | rfl | (simp; done) | (simp [*]; done)), H', ⟨by first | omega | exact Nat.le_refl _⟩, ⟨z6_3⟩, ⟨z6_0⟩⟩
      · rw [if_neg c17] at H
        have c17b0 : (t196.toList == t198.toList) = false := beq_eq_false_iff_ne.mpr c17
        have c17b1 : (t196.toList != t198.toList) = true := bne_iff_ne.mpr c17
        (first | rw [c17b0] | (simp only [i64_w, i32_w]; rw [c17b0]) | skip)
        have H' := Aside0.mk H
        clear H
        go_wp2
        go_meet
        case rel => exact ⟨_, (true), (by first | rfl | (simp; done) | (simp [*]; done)), H', ⟨by first | omega | exact Nat.le_refl _⟩, ⟨z6_3⟩, ⟨z6_0⟩⟩
    case rest =>
      clear HC10
      try clear c1
      try clear c2
      try clear p2
      try clear c3
      try clear c14
      try clear c15
      try clear c16
      try clear c17
      try clear c17b0
      try clear c17b1
      try clear c18
      try clear c18b0
      try clear c18b1
      try clear c18b2
      try clear c19
      try clear c20
      try clear c21
      try clear c21b0
      try clear c21b1
      try clear c21b2
      try clear c23
      obtain ⟨kq, x78_9, rfl, HA, HJ9, HO_5, HB⟩ := hcut
      cases kq with
      | zero => exact absurd HA.out (by simp [laws_FnSplitJoin.j0])
      | succ kj9 =>
        have H := HA.out
        clear HA
        simp only [laws_FnSplitJoin.j0] at H
        by_cases c25 : x78_9 = true
        · subst c25
          have H1 : (some false) = some r := by rw [if_pos rfl] at H; exact H
          clear H
          have H := H1
          clear H1
          obtain rfl := Option.some.inj H
          go_wp2
          go_ret
          exact ⟨z6_2, z6_0⟩
        · replace c25 := Bool.eq_false_iff.mpr c25
          subst c25
          have H1 : (if (t187.size : Int) = 1 then ((impl_JoinStrings.f kj9 t188 t187).bind fun bt206 => (if t189 = true then (if bt206.2 = true then (some (bt206.1.toList == t186.toList)) else (some false)) else (some false))) else (if t189 = true then (some false) else (some ((t188.length : Int) == 0)))) = some r := by rw [if_neg (show ¬ (false = true) by decide)] at H; exact H
          clear H
          have H := H1
          clear H1
          by_cases c26 : (t187.size : Int) = 1
          · rw [if_pos c26] at H
            have c26b0 : ((t187.size : Int) == 1) = true := beq_iff_eq.mpr c26
            have c26b1 : ((t187.size : Int) != 1) = false := bne_eq_false_iff_eq.mpr c26
            clear c26
            replace H := Option.bind_eq_some_iff.mp H
            obtain ⟨⟨t206, t207⟩, A270, H⟩ := H
            replace H : (if t189 = true then (if t207 = true then (some (t206.toList == t186.toList)) else (some false)) else (some false)) = some r := H
            have A27 := Aside0.mk A270
            clear A270
            by_cases c28 : t189 = true
            · subst c28
              have H1 : (if t207 = true then (some (t206.toList == t186.toList)) else (some false)) = some r := by rw [if_pos rfl] at H; exact H
              clear H
              have H := H1
              clear H1
              by_cases c29 : t207 = true
              · subst c29
                have H1 : (some (t206.toList == t186.toList)) = some r := by rw [if_pos rfl] at H; exact H
                clear H
                have H := H1
                clear H1
                obtain rfl := Option.some.inj H
                obtain ⟨Ao30, co30, eo30⟩ := Kd.R_slice HO_5.out
                subst eo30
                go_wp2_with (first | ((with_reducible refine gate_callee (f := 18) rfl ?_); refine goesL_ (some 92) rfl rfl Tryd.func18 (by kernel_rfl) rfl #[.slice Ao30 t188.length co30, .string t187] rfl z6_1 ?_; (with_reducible refine (impl_JoinStrings.calls kj9 _ _ t188 t187 t206 true _ ?side1 ?side2 A27.out).mono ?_); (case side1 => repeat (first | exact (Kd.R_reads' HO_5.out).2.2 | (with_reducible refine Kd.C_alloc ?_ _) | (with_reducible refine Kd.C_drewN ?_ _) | (with_reducible refine Kd.C_drew ?_))); (case side2 => exact (Kd.R_reads' HO_5.out).2.1); rintro e w31 ⟨rfl, hb⟩; refine ⟨_, rfl, ?_⟩; have n0_ := Aside0.mk (Kd.R_below z6_5 hb); have n1_ := Aside0.mk (below_step z6_0 hb); clear HO_5; clear HB; have HO_5 := n0_; have HB := n1_; clear n0_ n1_; (try clear hb); (try clear hb2); (try clear hk); (try clear hi)))
                go_ret
                exact ⟨z6_2, z6_0⟩
              · replace c29 := Bool.eq_false_iff.mpr c29
                subst c29
                have H1 : (some false) = some r := by rw [if_neg (show ¬ (false = true) by decide)] at H; exact H
                clear H
                have H := H1
                clear H1
                obtain rfl := Option.some.inj H
                obtain ⟨Ao32, co32, eo32⟩ := Kd.R_slice HO_5.out
                subst eo32
                go_wp2_with (first | ((with_reducible refine gate_callee (f := 18) rfl ?_); refine goesL_ (some 92) rfl rfl Tryd.func18 (by kernel_rfl) rfl #[.slice Ao32 t188.length co32, .string t187] rfl z6_1 ?_; (with_reducible refine (impl_JoinStrings.calls kj9 _ _ t188 t187 t206 false _ ?side1 ?side2 A27.out).mono ?_); (case side1 => repeat (first | exact (Kd.R_reads' HO_5.out).2.2 | (with_reducible refine Kd.C_alloc ?_ _) | (with_reducible refine Kd.C_drewN ?_ _) | (with_reducible refine Kd.C_drew ?_))); (case side2 => exact (Kd.R_reads' HO_5.out).2.1); rintro e w33 ⟨rfl, hb⟩; refine ⟨_, rfl, ?_⟩; have n0_ := Aside0.mk (Kd.R_below z6_5 hb); have n1_ := Aside0.mk (below_step z6_0 hb); clear HO_5; clear HB; have HO_5 := n0_; have HB := n1_; clear n0_ n1_; (try clear hb); (try clear hb2); (try clear hk); (try clear hi)))
                go_ret
                exact ⟨z6_2, z6_0⟩
            · replace c28 := Bool.eq_false_iff.mpr c28
              subst c28
              have H1 : (some false) = some r := by rw [if_neg (show ¬ (false = true) by decide)] at H; exact H
              clear H
              have H := H1
              clear H1
              obtain rfl := Option.some.inj H
              obtain ⟨Ao34, co34, eo34⟩ := Kd.R_slice HO_5.out
              subst eo34
              go_wp2_with (first | ((with_reducible refine gate_callee (f := 18) rfl ?_); refine goesL_ (some 92) rfl rfl Tryd.func18 (by kernel_rfl) rfl #[.slice Ao34 t188.length co34, .string t187] rfl z6_1 ?_; (with_reducible refine (impl_JoinStrings.calls kj9 _ _ t188 t187 t206 t207 _ ?side1 ?side2 A27.out).mono ?_); (case side1 => repeat (first | exact (Kd.R_reads' HO_5.out).2.2 | (with_reducible refine Kd.C_alloc ?_ _) | (with_reducible refine Kd.C_drewN ?_ _) | (with_reducible refine Kd.C_drew ?_))); (case side2 => exact (Kd.R_reads' HO_5.out).2.1); rintro e w35 ⟨rfl, hb⟩; refine ⟨_, rfl, ?_⟩; have n0_ := Aside0.mk (Kd.R_below z6_5 hb); have n1_ := Aside0.mk (below_step z6_0 hb); clear HO_5; clear HB; have HO_5 := n0_; have HB := n1_; clear n0_ n1_; (try clear hb); (try clear hb2); (try clear hk); (try clear hi)))
              go_ret
              exact ⟨z6_2, z6_0⟩
          · rw [if_neg c26] at H
            have c26b0 : ((t187.size : Int) == 1) = false := beq_eq_false_iff_ne.mpr c26
            have c26b1 : ((t187.size : Int) != 1) = true := bne_iff_ne.mpr c26
            by_cases c36 : t189 = true
            · subst c36
              have H1 : (some false) = some r := by rw [if_pos rfl] at H; exact H
              clear H
              have H := H1
              clear H1
              obtain rfl := Option.some.inj H
              go_wp2
              go_ret
              exact ⟨z6_2, z6_0⟩
            · replace c36 := Bool.eq_false_iff.mpr c36
              subst c36
              have H1 : (some ((t188.length : Int) == 0)) = some r := by rw [if_neg (show ¬ (false = true) by decide)] at H; exact H
              clear H
              have H := H1
              clear H1
              obtain rfl := Option.some.inj H
              obtain ⟨Ao37, co37, eo37⟩ := Kd.R_slice HO_5.out
              subst eo37
              go_wp2
              go_ret
              exact ⟨z6_2, z6_0⟩
end Go.Proofs.YtgclcjohnnpejaaDoor.Pt
end

section
namespace Go.Proofs.YtgclcjohnnpejaaDoor.PureL
open Go.RowKit Go.Proofs.YtgclcjohnnpejaaDoor.Pt Go.Proofs.YtgclcjohnnpejaaDoorW.PrintWords Go.Proofs.YtgclcjohnnpejaaDoorW.PrintLast
abbrev L (s : ByteArray) : List UInt8 := s.data.toList
theorem ext_L {a b : ByteArray} (h : L a = L b) : a = b := by
  obtain ⟨⟨la⟩⟩ := a
  obtain ⟨⟨lb⟩⟩ := b
  have : la = lb := h
  rw [this]
theorem size_L (s : ByteArray) : s.size = (L s).length := by simp only [L, Array.length_toList]; rfl
theorem L_append (a b : ByteArray) : L (a ++ b) = L a ++ L b := by
  simp [L]
theorem L_toList (s : ByteArray) : s.toList = L s := Lib.toList_data s
theorem wrap_up {i : Int} {n : Nat} (h0 : 0 ≤ i) (h : i < (n : Int)) (hn : n ≤ 9223372036854775807) : wrap64 (i + 1) = i + 1 := by
  unfold wrap64
  omega
theorem wrap_in {i : Int} (h0 : -9223372036854775808 ≤ i) (h : i ≤ 9223372036854775807) : wrap64 i = i := by
  unfold wrap64
  omega
theorem bt_get (s : ByteArray) (i : Nat) (h : i < (L s).length) : bt s (i : Int) = (((L s)[i]'h).toNat : Int) := by
  have h' : i < s.size := by rw [size_L]; exact h
  unfold bt
  simp only [Int.toNat_natCast, h', dif_pos]
  rfl
theorem bt_drop {s : ByteArray} {i : Nat} {b : UInt8} {l : List UInt8} (h : (L s).drop i = b :: l) : bt s (i : Int) = (b.toNat : Int) ∧ (L s).drop (i + 1) = l ∧ i < s.size := by
  have hi : i < (L s).length := by
    apply Decidable.byContradiction
    intro hc
    rw [List.drop_eq_nil_of_le (by omega)] at h
    cases h
  have e := List.drop_eq_getElem_cons hi
  rw [h] at e
  injection e with e1 e2
  refine ⟨by rw [bt_get s i hi, e1], e2.symm, by rw [size_L]; exact hi⟩
theorem drop_nil_iff {s : ByteArray} {i : Nat} : (L s).drop i = [] ↔ s.size ≤ i := by rw [List.drop_eq_nil_iff, size_L]
theorem byte_eq (a b : UInt8) : ((a.toNat : Int) = (b.toNat : Int)) ↔ a = b := by
  constructor
  · intro h; exact UInt8.toNat_inj.1 (by omega)
  · rintro rfl; rfl
theorem stands_l0 (s : ByteArray) (c : UInt8) (hs : s.size ≤ 9223372036854775807) : ∀ (l : List UInt8) (i k : Nat), (L s).drop i = l → i ≤ s.size → l.length < k →
    spec_l1Stands.l0 k s (c.toNat : Int) (i : Int) = some (decide (c ∈ l))
  | [], i, k, h, hi, hk => by
    obtain ⟨k, rfl⟩ : ∃ m, k = m + 1 := ⟨k - 1, by omega⟩
    have := drop_nil_iff.1 h
    simp only [spec_l1Stands.l0]
    rw [if_neg (by omega)]
    simp
  | b :: l, i, k, h, hi, hk => by
    obtain ⟨k, rfl⟩ : ∃ m, k = m + 1 := ⟨k - 1, by omega⟩
    obtain ⟨h1, h2, h3⟩ := bt_drop h
    simp only [List.length_cons] at hk
    simp only [spec_l1Stands.l0]
    rw [if_pos (by omega), if_pos (by omega), h1]
    by_cases e : b = c
    · subst e; simp
    · rw [if_neg (fun h => e ((byte_eq _ _).1 h)), wrap_up (n := s.size) (by omega) (by omega) hs]
      have := stands_l0 s c hs l (i + 1) k h2 (by omega) (by omega)
      rw [show ((i : Int) + 1) = ((i + 1 : Nat) : Int) from by omega, this]
      simp [Ne.symm e]
theorem stands (s : ByteArray) (c : UInt8) (k : Nat) (hs : s.size ≤ 9223372036854775807) (hk : s.size < k) : spec_l1Stands.f k s (c.toNat : Int) = some (decide (c ∈ L s)) := by
  unfold spec_l1Stands.f
  exact stands_l0 s c hs (L s) 0 k rfl (by omega) (by rw [← size_L]; exact hk)
end Go.Proofs.YtgclcjohnnpejaaDoor.PureL
end

section
namespace Go.Proofs.YtgclcjohnnpejaaDoor.PureL
open Go.RowKit Go.Proofs.YtgclcjohnnpejaaDoor.Pt Go.Proofs.YtgclcjohnnpejaaDoorW.PrintWords Go.Proofs.YtgclcjohnnpejaaDoorW.PrintLast
def Code (l : List Int) : Prop := ∀ x ∈ l, 0 ≤ x ∧ x ≤ 255
theorem Code.of_wf {l : List Int} (h : ∀ x ∈ l, (Lit.int .u8 x).wf = true) : Code l := fun x hx => by
  have := h x hx
  simp [Lit.wf, IntKind.min, IntKind.max, IntKind.signed, IntKind.bits] at this
  omega
theorem Code.rd_in {l : List Int} (h : Code l) (i : Int) : 0 ≤ rd l i ∧ rd l i ≤ 255 := by
  unfold rd
  rw [List.getD_eq_getElem?_getD]
  cases e : l[i.toNat]? with
  | none => simp
  | some x => exact h x (List.mem_of_getElem? e)
theorem u64_range (x : Int) : 0 ≤ IntKind.u64.wrap x ∧ IntKind.u64.wrap x < 18446744073709551616 := by
  rw [show IntKind.u64.wrap x = x % 18446744073709551616 from IntKind.wrap_u64 x]
  omega
theorem low_byte (x : Int) (h0 : 0 ≤ x) (h1 : x < 18446744073709551616) : 0 ≤ wrap64 (Go.bits .and .u64 (x / 1099511627776) 255) ∧ wrap64 (Go.bits .and .u64 (x / 1099511627776) 255) ≤ 255 := by
  have h := bits_mask .u64 64 (by decide) wraps_u64 8 (by decide) (x / 1099511627776) (by omega) (by omega)
  have h2 : Go.bits .and .u64 (x / 1099511627776) 255 = (x / 1099511627776) % 256 := by simpa using h
  rw [h2, wrap_in (by omega) (by omega)]
  omega
theorem next_ok (l : List Int) (hl : Code l) (a s : Int) (h0 : 0 ≤ a) (h1 : a ≤ 1000000000000000) : ∃ x s', spec_l1Cur_next.f l a s = some (x, a + 1, s') ∧ 0 ≤ x ∧ x ≤ 255 := by
  unfold spec_l1Cur_next.f
  obtain ⟨r0, r1⟩ := hl.rd_in a
  rw [wrap_in (i := a + 1) (by omega) (by omega), wrap_in (i := rd l a) (by omega) (by omega)]
  split
  · split
    · exact ⟨_, _, rfl, r0, r1⟩
    · exact ⟨_, _, rfl, low_byte _ (u64_range _).1 (u64_range _).2⟩
  · split
    · exact ⟨_, _, rfl, by omega, by omega⟩
    · exact ⟨_, _, rfl, low_byte _ (u64_range _).1 (u64_range _).2⟩
theorem pick_ok (l : List Int) (hl : Code l) (a s n : Int) (h0 : 0 ≤ a) (h1 : a ≤ 100000000000000) : ∃ x a' s', spec_l1Cur_pick.f l a s n = some (x, a', s') ∧ 0 ≤ x ∧ (x = 0 ∨ x < n) ∧ a ≤ a' ∧ a' ≤ a + 2 := by
  unfold spec_l1Cur_pick.f
  by_cases hn : n ≤ 1
  · rw [if_pos hn]; exact ⟨_, _, _, rfl, by omega, .inl rfl, by omega, by omega⟩
  · rw [if_neg hn]
    obtain ⟨x, s1, e, x0, x1⟩ := next_ok l hl a s h0 (by omega)
    rw [e, Option.bind_some]
    dsimp only
    by_cases hm : n > 200
    · rw [if_pos hm]
      obtain ⟨y, s2, e2, y0, y1⟩ := next_ok l hl (a + 1) s1 (by omega) (by omega)
      rw [e2, Option.bind_some, if_neg (by omega)]
      dsimp only
      rw [wrap_in (i := x * 256) (by omega) (by omega), wrap_in (by omega) (by omega), Int.tmod_eq_emod_of_nonneg (by omega)]
      exact ⟨_, _, _, rfl, Int.emod_nonneg _ (by omega), .inr (Int.emod_lt_of_pos _ (by omega)), by omega, by omega⟩
    · rw [if_neg hm, if_neg (by omega), Int.tmod_eq_emod_of_nonneg x0]
      exact ⟨_, _, _, rfl, Int.emod_nonneg _ (by omega), .inr (Int.emod_lt_of_pos _ (by omega)), by omega, by omega⟩
theorem of_ok (l : List Int) (hl : Code l) (a s : Int) (t : List ByteArray) (ht : t ≠ []) (h0 : 0 ≤ a) (h1 : a ≤ 100000000000000) : ∃ x a' s', spec_l1Cur_of.f l a s t = some (x, a', s') ∧ x ∈ t ∧ a ≤ a' ∧ a' ≤ a + 2 := by
  unfold spec_l1Cur_of.f
  obtain ⟨x, a', s', e, x0, x1, b0, b1⟩ := pick_ok l hl a s (t.length : Int) h0 h1
  have hp : 0 < t.length := List.length_pos_iff.2 ht
  rw [e, Option.bind_some]
  dsimp only
  rw [if_pos x0, if_pos (by omega)]
  refine ⟨_, _, _, rfl, ?_, b0, b1⟩
  unfold rdOf
  have hx : x.toNat < t.length := by omega
  rw [List.getD_eq_getElem?_getD, List.getElem?_eq_getElem hx]
  exact List.getElem_mem hx
theorem one_ok (l : List Int) (hl : Code l) (a s n : Int) (h0 : 0 ≤ a) (h1 : a ≤ 100000000000000) : ∃ b a' s', spec_l1Cur_one.f l a s n = some (b, a', s') ∧ a ≤ a' ∧ a' ≤ a + 2 := by
  unfold spec_l1Cur_one.f
  obtain ⟨x, a', s', e, x0, x1, b0, b1⟩ := pick_ok l hl a s n h0 h1
  rw [e, Option.bind_some]
  exact ⟨_, _, _, rfl, b0, b1⟩
end Go.Proofs.YtgclcjohnnpejaaDoor.PureL
end

section
set_option linter.unusedVariables false
set_option linter.unusedSimpArgs false
namespace Go.Proofs.YtgclcjohnnpejaaDoor.PureL
open Go.RowKit Go.Proofs.YtgclcjohnnpejaaDoor.Pt Go.Proofs.YtgclcjohnnpejaaDoorW.PrintWords Go.Proofs.YtgclcjohnnpejaaDoorW.PrintLast
def sizes (l : List ByteArray) : Nat := (l.map ByteArray.size).sum
def some9 : List ByteArray := [(⟨#[]⟩ : ByteArray), (⟨#[97]⟩ : ByteArray), (⟨#[97, 44, 98]⟩ : ByteArray), (⟨#[115, 111, 109, 101, 32, 119, 111, 114, 100, 115]⟩ : ByteArray), (⟨#[120, 35, 121]⟩ : ByteArray), (⟨#[45, 49, 50]⟩ : ByteArray), (⟨#[0, 255]⟩ : ByteArray), (⟨#[44, 44]⟩ : ByteArray), (⟨#[48]⟩ : ByteArray)]
theorem any1_ok (l : List Int) (hl : Code l) (a s : Int) (h0 : 0 ≤ a) (h1 : a ≤ 100000000000000) : ∃ x a' s', spec_l1Cur_any1.f l a s = some (x, a', s') ∧ x ∈ some9 ∧ a ≤ a' ∧ a' ≤ a + 2 := by
  obtain ⟨x, a', s', e, hx, b0, b1⟩ := of_ok l hl a s some9 (by simp [some9]) h0 h1
  refine ⟨x, a', s', ?_, hx, b0, b1⟩
  show (spec_l1Cur_of.f l a s some9).bind _ = _
  rw [e]; rfl
theorem some9_size : ∀ x ∈ some9, x.size ≤ 10 := by decide
theorem drawSplit (l : List Int) (hl : Code l) : ∃ s p, spec_DrawSplitString.f l = some (s, p) ∧ s ∈ some9 ∧ p ∈ [(⟨#[44]⟩ : ByteArray), (⟨#[44]⟩ : ByteArray), (⟨#[32]⟩ : ByteArray), (⟨#[]⟩ : ByteArray), (⟨#[44, 44]⟩ : ByteArray)] := by
  unfold spec_DrawSplitString.f
  obtain ⟨x, a, s, e, hx, b0, b1⟩ := any1_ok l hl 0 0 (by omega) (by omega)
  rw [e, Option.bind_some]
  dsimp only
  obtain ⟨y, a, s, e, hy, _, _⟩ := of_ok l hl a s [(⟨#[44]⟩ : ByteArray), (⟨#[44]⟩ : ByteArray), (⟨#[32]⟩ : ByteArray), (⟨#[]⟩ : ByteArray), (⟨#[44, 44]⟩ : ByteArray)] (by simp) (by omega) (by omega)
  rw [e, Option.bind_some]
  exact ⟨_, _, rfl, hx, hy⟩
theorem drawLess (l : List Int) (hl : Code l) : ∃ s p, spec_DrawLessString.f l = some (s, p) ∧ s ∈ some9 ∧ p ∈ some9 := by
  unfold spec_DrawLessString.f
  obtain ⟨x, a, s, e, hx, b0, b1⟩ := any1_ok l hl 0 0 (by omega) (by omega)
  rw [e, Option.bind_some]
  dsimp only
  obtain ⟨y, a, s, e, hy, _, _⟩ := any1_ok l hl a s (by omega) (by omega)
  rw [e, Option.bind_some]
  exact ⟨_, _, rfl, hx, hy⟩
theorem marks_size : ∀ m ∈ [(⟨#[44]⟩ : ByteArray), (⟨#[59]⟩ : ByteArray), (⟨#[59]⟩ : ByteArray), (⟨#[]⟩ : ByteArray), (⟨#[97, 98]⟩ : ByteArray)], m.size ≤ 2 := by decide
theorem drawJoin_l (code : List Int) (hl : Code code) (n : Int) (hn : n ≤ 4) : ∀ (d : Nat) (i : Int) (l : List ByteArray) (a s : Int), n - i ≤ d → 0 ≤ i → i ≤ 4 → l.length ≤ 10 → (l.length : Int) ≤ i → (∀ x ∈ l, x.size ≤ 4100) → 0 ≤ a → a ≤ 1000 + 2 * i →
    ∃ l' m, l'.length ≤ 11 ∧ (∀ x ∈ l', x.size ≤ 4100) ∧ m.size ≤ 2 ∧ ∀ k, d < k → spec_DrawJoinStrings.l0 k l n i code a s = some (l', m) := by
  intro d
  induction d with
  | zero =>
    intro i l a s hd hi0 hi4 hl10 hli hx ha0 ha1
    obtain ⟨b, a1, s1, e1, b0, b1⟩ := one_ok code hl a s 20 ha0 (by omega)
    cases b with
    | true =>
      obtain ⟨z, a2, s2, e2, z0, z1, c0, c1⟩ := pick_ok code hl a1 s1 20 (by omega) (by omega)
      obtain ⟨m, a3, s3, e3, hm, _, _⟩ := of_ok code hl a2 s2 [(⟨#[44]⟩ : ByteArray), (⟨#[59]⟩ : ByteArray), (⟨#[59]⟩ : ByteArray), (⟨#[]⟩ : ByteArray), (⟨#[97, 98]⟩ : ByteArray)] (by simp) (by omega) (by omega)
      refine ⟨l ++ [strOfNums (List.replicate (3990 + z).toNat 0)], m, by simp; omega, ?_, marks_size m hm, fun k hk => ?_⟩
      · intro x hm
        rcases List.mem_append.1 hm with h | h
        · exact hx x h
        · rw [List.mem_singleton.1 h, Go.strOfNums_size, List.length_replicate]; omega
      · obtain ⟨k, rfl⟩ : ∃ n, k = n + 1 := ⟨k - 1, by omega⟩
        unfold spec_DrawJoinStrings.l0
        rw [if_neg (by omega), e1, Option.bind_some]
        dsimp only
        rw [if_pos rfl, e2, Option.bind_some]
        dsimp only
        rw [wrap_in (i := 3990 + z) (by omega) (by omega), if_pos (by omega), if_pos (by omega), if_pos (by omega), e3]
        rfl
    | false =>
      obtain ⟨m, a3, s3, e3, hm, _, _⟩ := of_ok code hl a1 s1 [(⟨#[44]⟩ : ByteArray), (⟨#[59]⟩ : ByteArray), (⟨#[59]⟩ : ByteArray), (⟨#[]⟩ : ByteArray), (⟨#[97, 98]⟩ : ByteArray)] (by simp) (by omega) (by omega)
      refine ⟨l, m, by omega, hx, marks_size m hm, fun k hk => ?_⟩
      obtain ⟨k, rfl⟩ : ∃ n, k = n + 1 := ⟨k - 1, by omega⟩
      unfold spec_DrawJoinStrings.l0
      rw [if_neg (by omega), e1, Option.bind_some]
      dsimp only
      rw [if_neg (by simp), e3]
      rfl
  | succ d ih =>
    intro i l a s hd hi0 hi4 hl10 hli hx ha0 ha1
    by_cases h : i < n
    · obtain ⟨x, a', s', e, hx9, b0, b1⟩ := any1_ok code hl a s ha0 (by omega)
      obtain ⟨l', m, q1, q2, q3, q4⟩ := ih (i + 1) (l ++ [x]) a' s' (by omega) (by omega) (by omega) (by simp; omega) (by simp; omega) (by
        intro y hy
        rcases List.mem_append.1 hy with h | h
        · exact hx y h
        · rw [List.mem_singleton.1 h]; have := some9_size x hx9; omega) (by omega) (by omega)
      refine ⟨l', m, q1, q2, q3, fun k hk => ?_⟩
      obtain ⟨k, rfl⟩ : ∃ n, k = n + 1 := ⟨k - 1, by omega⟩
      unfold spec_DrawJoinStrings.l0
      rw [if_pos h, e, Option.bind_some, if_pos (by omega), wrap_in (by omega) (by omega)]
      exact q4 k (by omega)
    · obtain ⟨l', m, q1, q2, q3, q4⟩ := ih i l a s (by omega) hi0 hi4 hl10 hli hx ha0 ha1
      exact ⟨l', m, q1, q2, q3, fun k hk => q4 k (by omega)⟩
theorem drawJoin (code : List Int) (hl : Code code) : ∃ l m, l.length ≤ 11 ∧ (∀ x ∈ l, x.size ≤ 4100) ∧ m.size ≤ 2 ∧ ∀ k, 10 < k → spec_DrawJoinStrings.f k code = some (l, m) := by
  obtain ⟨n, a, s, e, n0, n1, b0, b1⟩ := pick_ok code hl 0 0 4 (by omega) (by omega)
  obtain ⟨l, m, h1, h2, h3, h4⟩ := drawJoin_l code hl n (by omega) 4 0 [] a s (by omega) (by omega) (by omega) (by simp) (by simp) (by simp) (by omega) (by omega)
  refine ⟨l, m, h1, h2, h3, fun k hk => ?_⟩
  unfold spec_DrawJoinStrings.f
  rw [e, Option.bind_some]
  exact h4 k (by omega)
def joinR (l : List ByteArray) (c : UInt8) : ByteArray × Bool := if (∀ p ∈ l, c ∉ L p) ∧ l.length - 1 + sizes l ≤ 4000 then (⟨(Lib.join (l.map (·.data.toList)) [c]).toArray⟩, true) else (⟨#[]⟩, false)
theorem sizes_cons (x : ByteArray) (l : List ByteArray) : sizes (x :: l) = x.size + sizes l := by simp [sizes]
theorem sizes_append (l m : List ByteArray) : sizes (l ++ m) = sizes l + sizes m := by simp [sizes]
theorem join_len (l : List ByteArray) (c : UInt8) (h : l ≠ []) : (Lib.join (l.map (·.data.toList)) [c]).length = l.length - 1 + sizes l := by
  cases l with
  | nil => exact absurd rfl h
  | cons x l =>
    rw [List.map_cons, Lib.join_cons, List.length_append, sizes_cons]
    have : (Lib.joinTail [c] (l.map (·.data.toList))).length = l.length + sizes l := by
      induction l with
      | nil => rfl
      | cons y l ih =>
        have ih := ih (by simp)
        unfold Lib.joinTail at ih ⊢
        rw [List.map_cons, List.map_cons, List.flatten_cons, List.length_append, ih, sizes_cons, List.length_append, List.length_singleton, List.length_cons]
        have : y.data.toList.length = y.size := by rw [Array.length_toList]; rfl
        omega
    rw [this]
    have : x.data.toList.length = x.size := by rw [Array.length_toList]; rfl
    simp only [List.length_cons]
    omega
theorem impl_join_l (l : List ByteArray) (c : UInt8) (hn : l.length ≤ 1000) (hl : ∀ x ∈ l, x.size ≤ 100000) (hne : l ≠ []) : ∀ (r p : List ByteArray), l = p ++ r → (∀ q ∈ p, c ∉ L q) → sizes p + (l.length - 1) ≤ 4000 + 0 ∨ p = [] → ∀ k, r.length < k →
    impl_JoinStrings.l0 k l ⟨#[c]⟩ ((l.length - 1 : Nat) + (sizes p : Nat)) l l.length p.length = some (joinR l c) := by
  intro r
  induction r with
  | nil =>
    intro p hp hc hs k hk
    obtain ⟨k, rfl⟩ : ∃ n, k = n + 1 := ⟨k - 1, by simp at hk; omega⟩
    rw [List.append_nil] at hp
    subst hp
    unfold impl_JoinStrings.l0
    rw [if_neg (by omega)]
    have hs' : sizes l + (l.length - 1) ≤ 4000 := by
      rcases hs with h | h
      · omega
      · exact absurd h hne
    have hj := join_len l c hne
    unfold strings_Join.f joinR
    rw [if_pos ⟨by omega, by show (Lib.join _ [c]).length ≤ _; omega⟩, if_pos ⟨hc, by omega⟩, Option.bind_some]
  | cons x r ih =>
    intro p hp hc hs k hk
    obtain ⟨k, rfl⟩ : ∃ n, k = n + 1 := ⟨k - 1, by simp at hk; omega⟩
    have hlen : l.length = p.length + (r.length + 1) := by rw [hp, List.length_append, List.length_cons]
    have hx : rdOf ByteArray.empty l (p.length : Int) = x := by
      unfold rdOf
      rw [Int.toNat_natCast, List.getD_eq_getElem?_getD, hp, List.getElem?_append_right (Nat.le_refl _)]
      simp
    have hxm : x ∈ l := by rw [hp]; simp
    have hxs := hl x hxm
    have hps : sizes p ≤ 4000 := by
      rcases hs with h | h
      · omega
      · subst h; decide
    have htot : sizes l = sizes p + (x.size + sizes r) := by rw [hp, sizes_append, sizes_cons]
    unfold impl_JoinStrings.l0
    rw [if_pos (by omega), if_pos (by omega), if_pos (by omega), hx, wrap_in (by omega) (by omega)]
    by_cases h4 : ((l.length - 1 : Nat) : Int) + (sizes p : Nat) + (x.size : Int) > 4000
    · rw [if_pos h4]
      unfold joinR
      rw [if_neg (fun h => by omega)]
    · rw [if_neg h4]
      unfold strings_Contains.f
      rw [if_pos (show (⟨#[c]⟩ : ByteArray).size = 1 from rfl), Option.bind_some]
      show (if decide (c ∈ L x) = true then _ else _) = _
      by_cases hcx : c ∈ L x
      · rw [if_pos (by simpa using hcx)]
        unfold joinR
        rw [if_neg (fun h => h.1 x hxm hcx)]
      · rw [if_neg (by simpa using hcx), wrap_in (by omega) (by omega)]
        have := ih (p ++ [x]) (by rw [hp]; simp) (by
          intro q hq
          rcases List.mem_append.1 hq with h | h
          · exact hc q h
          · rw [List.mem_singleton.1 h]; exact hcx) (.inl (by rw [sizes_append, sizes_cons]; simp only [sizes, List.map_nil, List.sum_nil] at *; omega)) k (by simp at hk; omega)
        rw [sizes_append, sizes_cons] at this
        rw [show (l.length - 1 : Nat) + (sizes p : Nat) + (x.size : Int) = ((l.length - 1 : Nat) : Int) + ((sizes p + (x.size + sizes []) : Nat) : Int) from by simp only [sizes, List.map_nil, List.sum_nil]; omega, show (p.length : Int) + 1 = ((p ++ [x]).length : Int) from by simp]
        exact this
theorem impl_join (l : List ByteArray) (c : UInt8) (hn : l.length ≤ 1000) (hl : ∀ x ∈ l, x.size ≤ 100000) (hne : l ≠ []) (k : Nat) (hk : l.length + 1 < k) : impl_JoinStrings.f k l ⟨#[c]⟩ = some (joinR l c) := by
  obtain ⟨k, rfl⟩ : ∃ n, k = n + 1 := ⟨k - 1, by omega⟩
  have hp : 0 < l.length := List.length_pos_iff.2 hne
  unfold impl_JoinStrings.f
  rw [if_neg (by omega), impl_JoinStrings.j0, if_neg (show ¬ (((⟨#[c]⟩ : ByteArray).size : Int) != 1) = true from by show ¬ ((1 : Int) != 1) = true; decide), wrap_in (by omega) (by omega)]
  have := impl_join_l l c hn hl hne l [] (by simp) (by simp) (.inr rfl) k (by omega)
  rw [show (l.length : Int) - 1 = ((l.length - 1 : Nat) : Int) + ((sizes [] : Nat) : Int) from by simp only [sizes, List.map_nil, List.sum_nil]; omega]
  exact this
theorem spec_join_l (l : List ByteArray) (c : UInt8) (hn : l.length ≤ 1000) (hl : ∀ x ∈ l, x.size ≤ 100000) (hne : l ≠ []) : ∀ (r p : List ByteArray), l = p ++ r → (∀ q ∈ p, c ∉ L q) → (p.length - 1) + sizes p ≤ 4000 → ∀ k, r.length + 100000 < k →
    spec_JoinStrings.l0 k l ⟨#[c]⟩ ⟨(Lib.join (p.map (·.data.toList)) [c]).toArray⟩ p.length = some (joinR l c) := by
  intro r
  induction r with
  | nil =>
    intro p hp hc hs k hk
    obtain ⟨k, rfl⟩ : ∃ n, k = n + 1 := ⟨k - 1, by simp at hk; omega⟩
    rw [List.append_nil] at hp
    subst hp
    unfold spec_JoinStrings.l0
    rw [if_neg (by omega)]
    unfold joinR
    rw [if_pos ⟨hc, by omega⟩]
  | cons x r ih =>
    intro p hp hc hs k hk
    obtain ⟨k, rfl⟩ : ∃ n, k = n + 1 := ⟨k - 1, by simp at hk; omega⟩
    have hlen : l.length = p.length + (r.length + 1) := by rw [hp, List.length_append, List.length_cons]
    have hx : rdOf ByteArray.empty l (p.length : Int) = x := by
      unfold rdOf
      rw [Int.toNat_natCast, List.getD_eq_getElem?_getD, hp, List.getElem?_append_right (Nat.le_refl _)]
      simp
    have hxm : x ∈ l := by rw [hp]; simp
    have hxs := hl x hxm
    have htot : sizes l = sizes p + (x.size + sizes r) := by rw [hp, sizes_append, sizes_cons]
    have hone : sizes [x] = x.size := by simp [sizes]
    unfold spec_JoinStrings.l0
    rw [if_pos (by omega), if_pos (by omega), if_pos (show (0 : Int) < ((⟨#[c]⟩ : ByteArray).size : Int) from by show (0 : Int) < 1; decide), hx, show bt (⟨#[c]⟩ : ByteArray) 0 = (c.toNat : Int) from rfl, stands x c k (by omega) (by simp at hk; omega), Option.bind_some]
    by_cases hcx : c ∈ L x
    · rw [if_pos (by simpa using hcx)]
      unfold joinR
      rw [if_neg (fun h => h.1 x hxm hcx)]
    · rw [if_neg (by simpa using hcx)]
      have step : ∀ t : ByteArray, t = ⟨(Lib.join ((p ++ [x]).map (·.data.toList)) [c]).toArray⟩ → ((p ++ [x]).length - 1) + sizes (p ++ [x]) ≤ 4000 → spec_JoinStrings.l0 k l ⟨#[c]⟩ t (wrap64 ((p.length : Int) + 1)) = some (joinR l c) := by
        intro t ht hsz
        rw [ht, wrap_in (by omega) (by omega), show (p.length : Int) + 1 = ((p ++ [x]).length : Int) from by simp]
        exact ih (p ++ [x]) (by rw [hp]; simp) (by
          intro q hq
          rcases List.mem_append.1 hq with h | h
          · exact hc q h
          · rw [List.mem_singleton.1 h]; exact hcx) hsz k (by simp at hk; omega)
      have fail : ¬ ((p ++ [x]).length - 1) + sizes (p ++ [x]) ≤ 4000 → joinR l c = (⟨#[]⟩, false) := by
        intro h
        unfold joinR
        rw [if_neg (fun h2 => h (by rw [List.length_append, List.length_singleton, sizes_append, hone]; omega))]
      rw [List.length_append, List.length_singleton, sizes_append, hone] at fail step
      cases p with
      | nil =>
        rw [if_neg (by simp)]
        have e0 : (⟨(Lib.join (([] : List ByteArray).map (·.data.toList)) [c]).toArray⟩ : ByteArray) = ⟨#[]⟩ := rfl
        rw [e0, if_pos (by show 0 + x.size ≤ _; omega)]
        by_cases h4 : (((⟨#[]⟩ : ByteArray).size : Int) + (x.size : Int)) > 4000
        · rw [if_pos h4, fail (by have : (⟨#[]⟩ : ByteArray).size = 0 := rfl; simp only [List.length_nil, sizes, List.map_nil, List.sum_nil]; omega)]
        · rw [if_neg h4]
          refine step _ ?_ (by have : (⟨#[]⟩ : ByteArray).size = 0 := rfl; simp only [List.length_nil, sizes, List.map_nil, List.sum_nil]; omega)
          apply ext_L
          rw [L_append]
          show [] ++ L x = _
          simp [Lib.join_one]
      | cons y p =>
        have hj := join_len (y :: p) c (by simp)
        have hjs : (⟨(Lib.join ((y :: p).map (·.data.toList)) [c]).toArray⟩ : ByteArray).size = (y :: p).length - 1 + sizes (y :: p) := by rw [size_L]; exact hj
        have h1 : (⟨#[c]⟩ : ByteArray).size = 1 := rfl
        rw [if_pos (by simp only [List.length_cons]; omega), if_pos (by omega), if_pos (by omega)]
        by_cases h4 : (((⟨(Lib.join ((y :: p).map (·.data.toList)) [c]).toArray⟩ : ByteArray).size : Int) + ((⟨#[c]⟩ : ByteArray).size : Int)) + (x.size : Int) > 4000
        · rw [if_pos h4, fail (by simp only [List.length_cons] at hjs ⊢; omega)]
        · rw [if_neg h4]
          refine step _ ?_ (by simp only [List.length_cons] at hjs ⊢; omega)
          apply ext_L
          rw [L_append, L_append]
          show (Lib.join ((y :: p).map (·.data.toList)) [c] ++ [c]) ++ L x = Lib.join ((y :: p ++ [x]).map (·.data.toList)) [c]
          rw [List.map_append, List.map_cons, List.cons_append, Lib.join_cons, Lib.join_cons]
          unfold Lib.joinTail
          rw [List.map_append, List.flatten_append]
          simp
theorem spec_join (l : List ByteArray) (c : UInt8) (hn : l.length ≤ 1000) (hl : ∀ x ∈ l, x.size ≤ 100000) (hne : l ≠ []) (k : Nat) (hk : l.length + 100001 < k) : spec_JoinStrings.f k l ⟨#[c]⟩ = some (joinR l c) := by
  obtain ⟨k, rfl⟩ : ∃ n, k = n + 1 := ⟨k - 1, by omega⟩
  have hp : 0 < l.length := List.length_pos_iff.2 hne
  unfold spec_JoinStrings.f
  rw [if_pos (show ((⟨#[c]⟩ : ByteArray).size : Int) = 1 from rfl), spec_JoinStrings.j0, if_neg (by simp; exact hne)]
  exact spec_join_l l c hn hl hne l [] (by simp) (by simp) (by simp [sizes]) k (by omega)
theorem join_eq (l : List ByteArray) (m : ByteArray) (hn : l.length ≤ 1000) (hl : ∀ x ∈ l, x.size ≤ 100000) : ∃ r, ∀ k, l.length + 100001 < k → impl_JoinStrings.f k l m = some r ∧ spec_JoinStrings.f k l m = some r := by
  by_cases hm : m.size = 1
  · rw [one_byte hm]
    by_cases hne : l = []
    · subst hne
      refine ⟨(⟨#[]⟩, false), fun k hk => ?_⟩
      obtain ⟨k, rfl⟩ : ∃ n, k = n + 1 := ⟨k - 1, by omega⟩
      unfold impl_JoinStrings.f spec_JoinStrings.f
      exact ⟨rfl, rfl⟩
    · exact ⟨_, fun k hk => ⟨impl_join l _ hn hl hne k (by omega), spec_join l _ hn hl hne k hk⟩⟩
  · refine ⟨(⟨#[]⟩, false), fun k hk => ?_⟩
    obtain ⟨k, rfl⟩ : ∃ n, k = n + 1 := ⟨k - 1, by omega⟩
    unfold impl_JoinStrings.f spec_JoinStrings.f
    rw [if_neg (c := (m.size : Int) = 1) (by omega), spec_JoinStrings.j0, if_pos rfl]
    refine ⟨?_, rfl⟩
    split
    · rw [impl_JoinStrings.j0]; rfl
    · rw [impl_JoinStrings.j0, if_pos (by simp; omega)]
theorem less_asym : ∀ a ∈ some9, ∀ b ∈ some9, Op.bytesLess a.toList b.toList = true → Op.bytesLess b.toList a.toList = false := by
  have h : ∀ a ∈ some9, ∀ b ∈ some9, Op.bytesLess (L a) (L b) = true → Op.bytesLess (L b) (L a) = false := by decide
  intro a ha b hb
  rw [L_toList, L_toList]
  exact h a ha b hb
theorem split_back : ∀ s ∈ some9, ∀ c ∈ [(44 : UInt8), 32], joinR (Lib.splitB ⟨#[c]⟩ 0 (Lib.countB s ⟨#[c]⟩) s) c = (s, true) ∧ (Lib.splitB ⟨#[c]⟩ 0 (Lib.countB s ⟨#[c]⟩) s).length ≤ 20 ∧ (∀ x ∈ Lib.splitB ⟨#[c]⟩ 0 (Lib.countB s ⟨#[c]⟩) s, x.size ≤ 100) ∧ Lib.splitB ⟨#[c]⟩ 0 (Lib.countB s ⟨#[c]⟩) s ≠ [] := by
  decide +kernel
theorem FnSplitJoin (l0 : List Int) (hw : ∀ x ∈ l0, (Lit.int .u8 x).wf = true) : ∃ k, laws_FnSplitJoin.f k l0 = some true := by
  have hl := Code.of_wf hw
  obtain ⟨s, p, e1, hs, hp⟩ := drawSplit l0 hl
  obtain ⟨l, m, hln, hlx, hm, hJ⟩ := drawJoin l0 hl
  obtain ⟨a, b, e2, ha, hb⟩ := drawLess l0 hl
  obtain ⟨r, hr⟩ := join_eq l m (by omega) (fun x hx => by have := hlx x hx; omega)
  have hss := some9_size s hs
  have hsp : ∃ L6 ok, impl_SplitString.f s p = some (L6, ok) ∧ laws_FnSplitJoin.j0 300000 s p L6 ok false = some true := by
    unfold impl_SplitString.f
    rw [if_neg (by omega)]
    by_cases h1 : (p.size : Int) = 1
    · have hpc : ∃ c ∈ [(44 : UInt8), 32], p = ⟨#[c]⟩ := by
        simp only [List.mem_cons, List.not_mem_nil, or_false] at hp
        rcases hp with rfl | rfl | rfl | rfl | rfl
        · exact ⟨44, by simp, rfl⟩
        · exact ⟨44, by simp, rfl⟩
        · exact ⟨32, by simp, rfl⟩
        · exact absurd h1 (by show ¬ (0 : Int) = 1; decide)
        · exact absurd h1 (by show ¬ (2 : Int) = 1; decide)
      obtain ⟨c, hc, rfl⟩ := hpc
      obtain ⟨b1, b2, b3, b4⟩ := split_back s hs c hc
      rw [if_pos h1]
      unfold strings_Split.f
      rw [if_pos ⟨rfl, by omega⟩, Option.bind_some]
      refine ⟨_, _, rfl, ?_⟩
      rw [laws_FnSplitJoin.j0, if_neg (by decide), if_pos h1, impl_join _ c (by omega) (fun x hx => by have := b3 x hx; omega) b4 _ (by omega), b1, Option.bind_some]
      simp
    · rw [if_neg h1]
      refine ⟨_, _, rfl, ?_⟩
      rw [laws_FnSplitJoin.j0, if_neg (by decide), if_neg h1, if_neg (by decide)]
      rfl
  obtain ⟨L6, ok, e3, hj⟩ := hsp
  refine ⟨300000, ?_⟩
  unfold laws_FnSplitJoin.f
  obtain ⟨v, hv⟩ : ∃ v, laws_vBig.f l0 = some v := by unfold laws_vBig.f; exact ⟨_, rfl⟩
  rw [hv, Option.bind_some]
  cases v with
  | true => rw [if_pos rfl]
  | false =>
    rw [if_neg (by decide), e1, Option.bind_some]
    dsimp only
    rw [e3, Option.bind_some]
    dsimp only
    obtain ⟨r1, r2⟩ := hr 300000 (by omega)
    rw [hJ 300000 (by omega), Option.bind_some]
    dsimp only
    rw [r1, r2, Option.bind_some, Option.bind_some, e2, Option.bind_some, if_pos rfl, if_neg (by simp)]
    dsimp only
    unfold impl_LessString.f spec_LessString.f
    rw [Option.bind_some, Option.bind_some, if_neg (by simp), Option.bind_some]
    cases hab : Op.bytesLess a.toList b.toList with
    | true => rw [if_pos rfl, Option.bind_some, less_asym a ha b hb hab]; exact hj
    | false => rw [if_neg (by decide)]; exact hj
end Go.Proofs.YtgclcjohnnpejaaDoor.PureL
end
