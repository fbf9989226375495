/- LogRecords. No program, no memory. -/
import Derived.Test.YtgclcjohnnpejaaDoorPureE
import Derived.Test.YtgclcjohnnpejaaDoorLawFnExactLogRecords
import Derived.Test.YtgclcjohnnpejaaDoorPrx19
import Derived.Test.YtgclcjohnnpejaaDoorPrx20
import Derived.Test.YtgclcjohnnpejaaDoorPrx21
import Derived.Test.YtgclcjohnnpejaaDoorPrx22
import Derived.Test.YtgclcjohnnpejaaDoorPrx23
namespace Go.Proofs.YtgclcjohnnpejaaDoor.PureL
open Go.RowKit Go.Proofs.YtgclcjohnnpejaaDoor.Pr Go.Proofs.YtgclcjohnnpejaaDoorW.PrintWords Go.Proofs.YtgclcjohnnpejaaDoorW.PrintLast

theorem markText_l (j : Nat) : ∀ (a : Int) (x : ByteArray), a < (10 : Int) ^ j → a ≤ 1000000 → x.size + j ≤ 1000 → ∃ t, ∀ k, j < k → laws_markText.l0 k a x = some t := by
  induction j with
  | zero =>
    intro a x ha hb hx
    refine ⟨(⟨#[109]⟩ : ByteArray) ++ x, fun k hk => ?_⟩
    obtain ⟨k, rfl⟩ : ∃ n, k = n + 1 := ⟨k - 1, by omega⟩
    unfold laws_markText.l0
    rw [if_neg (by omega), if_pos (by omega)]
  | succ j ih =>
    intro a x ha hb hx
    by_cases h0 : a > 0
    · obtain ⟨t, ht⟩ := ih (a / 10) (strOfNums [(wrap64 (48 + (Int.tmod a 10))) % 256] ++ x) (by rw [Int.pow_succ] at ha; omega) (by omega) (by rw [size_app, Go.strOfNums_size, List.length_singleton]; omega)
      refine ⟨t, fun k hk => ?_⟩
      obtain ⟨k, rfl⟩ : ∃ n, k = n + 1 := ⟨k - 1, by omega⟩
      unfold laws_markText.l0
      rw [if_pos h0, Option.bind_some, if_pos (by rw [Go.strOfNums_size, List.length_singleton]; omega)]
      rw [show wrap64 (Int.tdiv a 10) = a / 10 by rw [Int.tdiv_eq_ediv_of_nonneg (by omega)]; exact wrap_in (by omega) (by omega)]
      exact ht k (by omega)
    · refine ⟨(⟨#[109]⟩ : ByteArray) ++ x, fun k hk => ?_⟩
      obtain ⟨k, rfl⟩ : ∃ n, k = n + 1 := ⟨k - 1, by omega⟩
      unfold laws_markText.l0
      rw [if_neg (by omega), if_pos (by omega)]

theorem markText_ex (a : Int) (h1 : a < 10000) : ∃ t, ∀ k, 10 < k → laws_markText.f k a = some t := by
  by_cases h : a ≤ 0
  · exact ⟨⟨#[109, 48]⟩, fun k _ => by unfold laws_markText.f; rw [if_pos h]⟩
  · obtain ⟨t, ht⟩ := markText_l 4 a ⟨#[]⟩ (by omega) (by omega) (by decide)
    exact ⟨t, fun k hk => by unfold laws_markText.f; rw [if_neg h]; exact ht k (by omega)⟩

noncomputable def tx (a : Int) : ByteArray := (laws_markText.f 11 a).getD ⟨#[]⟩
theorem tx_eq (a : Int) (h1 : a < 10000) (k : Nat) (hk : 10 < k) : laws_markText.f k a = some (tx a) := by
  obtain ⟨t, ht⟩ := markText_ex a h1
  unfold tx
  rw [ht k hk, ht 11 (by omega)]; rfl

noncomputable def mk (j : Nat) : S38 := ⟨tx (2 * j + 1), tx (2 * j + 2)⟩

theorem rd_at (l : List S38) (i : Nat) (h : i < l.length) : rd_T38 l (i : Int) = l[i] := by
  unfold rd_T38
  rw [Int.toNat_natCast, List.getD_eq_getElem?_getD, List.getElem?_eq_getElem h]; rfl

theorem mark_l (n : Nat) (hn : n ≤ 60) : ∀ (d i : Nat) (l : List S38), d + i = n → l.length = n → (∀ j (h : j < l.length), j < i → l[j] = mk j) → ∃ l' : List S38, l'.length = n ∧ (∀ j (h : j < l'.length), l'[j] = mk j) ∧ ∀ k, d + 20 < k → laws_markLogRecordS.l0 k l (2 * i + 1) i = some (2 * (n : Int) + 1, l') := by
  intro d
  induction d with
  | zero =>
    intro i l hd hl hm
    refine ⟨l, hl, fun j h => hm j h (by omega), fun k hk => ?_⟩
    obtain ⟨k, rfl⟩ : ∃ n, k = n + 1 := ⟨k - 1, by omega⟩
    unfold laws_markLogRecordS.l0
    rw [if_neg (by omega), show i = n by omega]
  | succ d ih =>
    intro i l hd hl hm
    have hi : i < l.length := by omega
    obtain ⟨l', e1, e2, e3⟩ := ih (i + 1) ((l.set i ⟨tx (2 * i + 1), l[i].f1⟩).set i (mk i)) (by omega) (by rw [List.length_set, List.length_set]; omega) (fun j h hj => by
      by_cases c : j = i
      · subst c; rw [List.getElem_set_self]
      · rw [List.getElem_set_ne (by omega), List.getElem_set_ne (by omega)]
        exact hm j (by rw [List.length_set, List.length_set] at h; exact h) (by omega))
    refine ⟨l', e1, e2, fun k hk => ?_⟩
    obtain ⟨k, rfl⟩ : ∃ n, k = n + 1 := ⟨k - 1, by omega⟩
    unfold laws_markLogRecordS.l0
    rw [if_pos (by omega), tx_eq _ (by omega) k (by omega), Option.bind_some, if_pos (by omega), Option.bind_some, wrap_in (by omega) (by omega), tx_eq _ (by omega) k (by omega), Option.bind_some, wrap_in (by omega) (by omega), wrap_in (by omega) (by omega), Int.toNat_natCast, rd_at l i hi, rd_at _ i (by rw [List.length_set]; exact hi), List.getElem_set_self]
    have := e3 k (by omega)
    rw [show (2 * ((i + 1 : Nat) : Int) + 1) = 2 * (i : Int) + 1 + 1 + 1 by omega, show ((i + 1 : Nat) : Int) = (i : Int) + 1 by omega] at this
    rw [show (2 * (i : Int) + 1 + 1) = 2 * (i : Int) + 2 by omega] at this ⊢
    exact this

theorem held_l (n : Nat) (hn : n ≤ 60) (l : List S38) (hl : l.length = n) (hm : ∀ j (h : j < l.length), l[j] = mk j) : ∀ (d i : Nat), d + i = n → ∀ k, d + 20 < k → laws_heldLogRecordS.l0 k l (2 * i + 1) i = some (2 * (n : Int) + 1) := by
  intro d
  induction d with
  | zero =>
    intro i hd k hk
    obtain ⟨k, rfl⟩ : ∃ n, k = n + 1 := ⟨k - 1, by omega⟩
    unfold laws_heldLogRecordS.l0
    rw [if_neg (by omega), show i = n by omega]
  | succ d ih =>
    intro i hd k hk
    have hi : i < l.length := by omega
    obtain ⟨k, rfl⟩ : ∃ n, k = n + 1 := ⟨k - 1, by omega⟩
    unfold laws_heldLogRecordS.l0
    have e0 : rd_T38 l i = mk i := by rw [rd_at l i hi, hm i hi]
    rw [if_pos (by omega), if_pos (by omega), tx_eq _ (by omega) k (by omega), Option.bind_some, e0, if_pos (by rfl), wrap_in (by omega) (by omega), tx_eq _ (by omega) k (by omega), Option.bind_some, if_pos (by show (tx (2 * i + 2)).toList = _; rw [show (2 * (i : Int) + 1 + 1) = 2 * (i : Int) + 2 by omega]), wrap_in (by omega) (by omega), wrap_in (by omega) (by omega)]
    have := ih (i + 1) (by omega) k (by omega)
    rw [show (2 * ((i + 1 : Nat) : Int) + 1) = 2 * (i : Int) + 1 + 1 + 1 by omega, show ((i + 1 : Nat) : Int) = (i : Int) + 1 by omega] at this
    exact this

theorem eqRec_same (a b : ByteArray) : laws_eqLogRecord.f a b a b = some true := by unfold laws_eqLogRecord.f; rw [if_pos rfl, if_pos rfl]

theorem eqRecs_l (l : List S38) (hl : l.length ≤ 60) : ∀ (d i : Nat), d + i = l.length → ∀ k, d < k → laws_eqLogRecordS.l0 k l l i = some true := by
  intro d
  induction d with
  | zero =>
    intro i hd k hk
    obtain ⟨k, rfl⟩ : ∃ n, k = n + 1 := ⟨k - 1, by omega⟩
    unfold laws_eqLogRecordS.l0
    rw [if_neg (by omega)]
  | succ d ih =>
    intro i hd k hk
    obtain ⟨k, rfl⟩ : ∃ n, k = n + 1 := ⟨k - 1, by omega⟩
    unfold laws_eqLogRecordS.l0
    rw [if_pos (by omega), if_pos (by omega), if_pos (by omega), eqRec_same, Option.bind_some, if_pos rfl, wrap_in (by omega) (by omega)]
    exact ih (i + 1) (by omega) k (by omega)

theorem eqRecs_same (l : List S38) (hl : l.length ≤ 60) (k : Nat) (hk : 60 < k) : laws_eqLogRecordS.f k l l = some true := by
  unfold laws_eqLogRecordS.f
  rw [if_pos rfl]
  exact eqRecs_l l hl l.length 0 (by omega) k (by omega)

/-- marking a row of the machine's: it holds what was written -/
theorem mark_held (l : List S38) (hl : l.length ≤ 60) : ∃ l' m, 0 ≤ m ∧ ∀ k, 100 < k → laws_markLogRecordS.f k l 1 = some (m, l') ∧ laws_heldLogRecordS.f k l' 1 = some m := by
  obtain ⟨l', e1, e2, e3⟩ := mark_l l.length hl l.length 0 l (by omega) rfl (fun j h hj => absurd hj (by omega))
  refine ⟨l', 2 * (l.length : Int) + 1, by omega, fun k hk => ⟨?_, ?_⟩⟩
  · exact e3 k (by omega)
  · exact held_l l.length hl l' e1 e2 l.length 0 (by omega) k (by omega)

theorem logRecords_eq (a b : ByteArray) (n : Int) (ha : a.size ≤ 1048576) (hb : b.size ≤ 1048576) : ∃ (l : List S38) (v : Bool), l.length ≤ 60 ∧ ∀ k, 30000000 < k → spec_LogRecords.f k a b n = some (l, v) ∧ impl_LogRecords.f k a b n = some (l, v) := by
  obtain ⟨l, v, hl, hv, h⟩ := records_eq a b n ha hb
  refine ⟨if v = true then l else [], v, by split <;> simp_all, fun k hk => ?_⟩
  obtain ⟨h1, h2, h3⟩ := h k hk
  unfold spec_LogRecords.f impl_LogRecords.f
  rw [h1, h2, Option.bind_some, Option.bind_some]
  dsimp only
  cases v with
  | true =>
    obtain ⟨m, hm⟩ := h3 rfl
    rw [if_pos rfl, if_pos rfl, if_pos rfl, if_pos (by have := hv rfl; omega), hm, Option.bind_some]
    exact ⟨rfl, rfl⟩
  | false => exact ⟨rfl, rfl⟩

theorem FnExactLogRecords (a b : ByteArray) (n : Int) (ha : a.size ≤ 140737488351232) (hb : b.size ≤ 140737488351232) : ∃ k, laws_FnExactLogRecords.f k a b n = some true := by
  obtain ⟨z, hz, hs⟩ := sz_log a b n ha hb
  by_cases h : z < 0
  · refine ⟨0, ?_⟩
    unfold laws_FnExactLogRecords.f
    rw [hz, Option.bind_some, if_pos h]
  · obtain ⟨h1, h2, _⟩ := hs h
    obtain ⟨l, v, hl, hr⟩ := logRecords_eq a b n h1 h2
    obtain ⟨l', m, hm, hk⟩ := mark_held l hl
    obtain ⟨k, hK⟩ : ∃ k, 30000000 < k := ⟨_, Nat.lt_succ_self _⟩
    have j1 : laws_FnExactLogRecords.j1 (k + 1) l' m (v != v) = some true := by
      rw [laws_FnExactLogRecords.j1, if_neg (by simp), (hk k (by omega)).2, Option.bind_some, if_neg (by omega), if_pos rfl]
    have j0 : laws_FnExactLogRecords.j0 (k + 1 + 1) l v l (v != v) a b n = some true := by
      obtain ⟨e1, e2⟩ := hr (k + 1) (by omega)
      obtain ⟨m1, m2⟩ := hk (k + 1) (by omega)
      rw [laws_FnExactLogRecords.j0, if_neg (by simp), m1, Option.bind_some]
      dsimp only
      rw [m2, Option.bind_some, if_neg (by omega), if_pos rfl]
      unfold laws_toLog.f
      rw [Option.bind_some]
      dsimp only
      rw [e2, Option.bind_some]
      dsimp only
      rw [eqRecs_same l hl _ (by omega), Option.bind_some, if_pos rfl]
      exact j1
    refine ⟨k + 1 + 1, ?_⟩
    obtain ⟨e1, e2⟩ := hr (k + 1 + 1) (by omega)
    unfold laws_FnExactLogRecords.f
    rw [hz, Option.bind_some, if_neg h]
    unfold laws_toLog.f
    rw [Option.bind_some]
    dsimp only
    rw [e1, Option.bind_some, Option.bind_some]
    dsimp only
    rw [e2, Option.bind_some, eqRecs_same l hl _ (by omega), Option.bind_some, if_pos rfl]
    exact j0
end Go.Proofs.YtgclcjohnnpejaaDoor.PureL
