/- FnSplitJoin. No program, no memory. -/
import Derived.Test.YtgclcjohnnpejaaDoorPureTK
import Derived.Test.YtgclcjohnnpejaaDoorPtx2
import Derived.Test.YtgclcjohnnpejaaDoorPtx3
import Derived.Test.YtgclcjohnnpejaaDoorPtx4
import Derived.Test.YtgclcjohnnpejaaDoorPtx5
import Derived.Test.YtgclcjohnnpejaaDoorPtx6
import Derived.Test.YtgclcjohnnpejaaDoorHLibT
set_option linter.unusedVariables false
set_option linter.unusedSimpArgs false
namespace Go.Proofs.YtgclcjohnnpejaaDoor.PureL
open Go.RowKit Go.Proofs.YtgclcjohnnpejaaDoor.Pt Go.Proofs.YtgclcjohnnpejaaDoorW.PrintWords Go.Proofs.YtgclcjohnnpejaaDoorW.PrintLast

/-- the sizes of some texts, added -/
def sizes (l : List ByteArray) : Nat := (l.map ByteArray.size).sum
def some9 : List ByteArray := [(⟨#[]⟩ : ByteArray), (⟨#[97]⟩ : ByteArray), (⟨#[97, 44, 98]⟩ : ByteArray), (⟨#[115, 111, 109, 101, 32, 119, 111, 114, 100, 115]⟩ : ByteArray), (⟨#[120, 35, 121]⟩ : ByteArray), (⟨#[45, 49, 50]⟩ : ByteArray), (⟨#[0, 255]⟩ : ByteArray), (⟨#[44, 44]⟩ : ByteArray), (⟨#[48]⟩ : ByteArray)]

theorem any1_ok (l : List Int) (hl : Code l) (a s : Int) (h0 : 0 ≤ a) (h1 : a ≤ 100000000000000) : ∃ x a' s', spec_l1Cur_any1.f l a s = some (x, a', s') ∧ x ∈ some9 ∧ a ≤ a' ∧ a' ≤ a + 2 := by
  obtain ⟨x, a', s', e, hx, b0, b1⟩ := of_ok l hl a s some9 (by simp [some9]) h0 h1
  refine ⟨x, a', s', ?_, hx, b0, b1⟩
  show (spec_l1Cur_of.f l a s some9).bind _ = _
  rw [e]; rfl

theorem some9_size : ∀ x ∈ some9, x.size ≤ 10 := by decide

theorem drawSplit (l : List Int) (hl : Code l) : ∃ s p, spec_DrawSplitString.f l = some (s, p) ∧ s ∈ some9 ∧ p ∈ [(⟨#[44]⟩ : ByteArray), (⟨#[44]⟩ : ByteArray), (⟨#[32]⟩ : ByteArray), (⟨#[]⟩ : ByteArray), (⟨#[44, 44]⟩ : ByteArray)] := by
  unfold spec_DrawSplitString.f
  obtain ⟨x, a, s, e, hx, b0, b1⟩ := any1_ok l hl 0 0 (by omega) (by omega)
  rw [e, Option.bind_some]
  dsimp only
  obtain ⟨y, a, s, e, hy, _, _⟩ := of_ok l hl a s [(⟨#[44]⟩ : ByteArray), (⟨#[44]⟩ : ByteArray), (⟨#[32]⟩ : ByteArray), (⟨#[]⟩ : ByteArray), (⟨#[44, 44]⟩ : ByteArray)] (by simp) (by omega) (by omega)
  rw [e, Option.bind_some]
  exact ⟨_, _, rfl, hx, hy⟩

theorem drawLess (l : List Int) (hl : Code l) : ∃ s p, spec_DrawLessString.f l = some (s, p) ∧ s ∈ some9 ∧ p ∈ some9 := by
  unfold spec_DrawLessString.f
  obtain ⟨x, a, s, e, hx, b0, b1⟩ := any1_ok l hl 0 0 (by omega) (by omega)
  rw [e, Option.bind_some]
  dsimp only
  obtain ⟨y, a, s, e, hy, _, _⟩ := any1_ok l hl a s (by omega) (by omega)
  rw [e, Option.bind_some]
  exact ⟨_, _, rfl, hx, hy⟩

theorem marks_size : ∀ m ∈ [(⟨#[44]⟩ : ByteArray), (⟨#[59]⟩ : ByteArray), (⟨#[59]⟩ : ByteArray), (⟨#[]⟩ : ByteArray), (⟨#[97, 98]⟩ : ByteArray)], m.size ≤ 2 := by decide

theorem drawJoin_l (code : List Int) (hl : Code code) (n : Int) (hn : n ≤ 4) : ∀ (d : Nat) (i : Int) (l : List ByteArray) (a s : Int), n - i ≤ d → 0 ≤ i → i ≤ 4 → l.length ≤ 10 → (l.length : Int) ≤ i → (∀ x ∈ l, x.size ≤ 4100) → 0 ≤ a → a ≤ 1000 + 2 * i →
    ∃ l' m, l'.length ≤ 11 ∧ (∀ x ∈ l', x.size ≤ 4100) ∧ m.size ≤ 2 ∧ ∀ k, d < k → spec_DrawJoinStrings.l0 k l n i code a s = some (l', m) := by
  intro d
  induction d with
  | zero =>
    intro i l a s hd hi0 hi4 hl10 hli hx ha0 ha1
    obtain ⟨b, a1, s1, e1, b0, b1⟩ := one_ok code hl a s 20 ha0 (by omega)
    cases b with
    | true =>
      obtain ⟨z, a2, s2, e2, z0, z1, c0, c1⟩ := pick_ok code hl a1 s1 20 (by omega) (by omega)
      obtain ⟨m, a3, s3, e3, hm, _, _⟩ := of_ok code hl a2 s2 [(⟨#[44]⟩ : ByteArray), (⟨#[59]⟩ : ByteArray), (⟨#[59]⟩ : ByteArray), (⟨#[]⟩ : ByteArray), (⟨#[97, 98]⟩ : ByteArray)] (by simp) (by omega) (by omega)
      refine ⟨l ++ [strOfNums (List.replicate (3990 + z).toNat 0)], m, by simp; omega, ?_, marks_size m hm, fun k hk => ?_⟩
      · intro x hm
        rcases List.mem_append.1 hm with h | h
        · exact hx x h
        · rw [List.mem_singleton.1 h, Go.strOfNums_size, List.length_replicate]; omega
      · obtain ⟨k, rfl⟩ : ∃ n, k = n + 1 := ⟨k - 1, by omega⟩
        unfold spec_DrawJoinStrings.l0
        rw [if_neg (by omega), e1, Option.bind_some]
        dsimp only
        rw [if_pos rfl, e2, Option.bind_some]
        dsimp only
        rw [wrap_in (i := 3990 + z) (by omega) (by omega), if_pos (by omega), if_pos (by omega), if_pos (by omega), e3]
        rfl
    | false =>
      obtain ⟨m, a3, s3, e3, hm, _, _⟩ := of_ok code hl a1 s1 [(⟨#[44]⟩ : ByteArray), (⟨#[59]⟩ : ByteArray), (⟨#[59]⟩ : ByteArray), (⟨#[]⟩ : ByteArray), (⟨#[97, 98]⟩ : ByteArray)] (by simp) (by omega) (by omega)
      refine ⟨l, m, by omega, hx, marks_size m hm, fun k hk => ?_⟩
      obtain ⟨k, rfl⟩ : ∃ n, k = n + 1 := ⟨k - 1, by omega⟩
      unfold spec_DrawJoinStrings.l0
      rw [if_neg (by omega), e1, Option.bind_some]
      dsimp only
      rw [if_neg (by simp), e3]
      rfl
  | succ d ih =>
    intro i l a s hd hi0 hi4 hl10 hli hx ha0 ha1
    by_cases h : i < n
    · obtain ⟨x, a', s', e, hx9, b0, b1⟩ := any1_ok code hl a s ha0 (by omega)
      obtain ⟨l', m, q1, q2, q3, q4⟩ := ih (i + 1) (l ++ [x]) a' s' (by omega) (by omega) (by omega) (by simp; omega) (by simp; omega) (by
        intro y hy
        rcases List.mem_append.1 hy with h | h
        · exact hx y h
        · rw [List.mem_singleton.1 h]; have := some9_size x hx9; omega) (by omega) (by omega)
      refine ⟨l', m, q1, q2, q3, fun k hk => ?_⟩
      obtain ⟨k, rfl⟩ : ∃ n, k = n + 1 := ⟨k - 1, by omega⟩
      unfold spec_DrawJoinStrings.l0
      rw [if_pos h, e, Option.bind_some, if_pos (by omega), wrap_in (by omega) (by omega)]
      exact q4 k (by omega)
    · obtain ⟨l', m, q1, q2, q3, q4⟩ := ih i l a s (by omega) hi0 hi4 hl10 hli hx ha0 ha1
      exact ⟨l', m, q1, q2, q3, fun k hk => q4 k (by omega)⟩

theorem drawJoin (code : List Int) (hl : Code code) : ∃ l m, l.length ≤ 11 ∧ (∀ x ∈ l, x.size ≤ 4100) ∧ m.size ≤ 2 ∧ ∀ k, 10 < k → spec_DrawJoinStrings.f k code = some (l, m) := by
  obtain ⟨n, a, s, e, n0, n1, b0, b1⟩ := pick_ok code hl 0 0 4 (by omega) (by omega)
  obtain ⟨l, m, h1, h2, h3, h4⟩ := drawJoin_l code hl n (by omega) 4 0 [] a s (by omega) (by omega) (by omega) (by simp) (by simp) (by simp) (by omega) (by omega)
  refine ⟨l, m, h1, h2, h3, fun k hk => ?_⟩
  unfold spec_DrawJoinStrings.f
  rw [e, Option.bind_some]
  exact h4 k (by omega)

/-! ### joining -/
/-- what both joins answer at a sign of one byte -/
def joinR (l : List ByteArray) (c : UInt8) : ByteArray × Bool := if (∀ p ∈ l, c ∉ L p) ∧ l.length - 1 + sizes l ≤ 4000 then (⟨(Lib.join (l.map (·.data.toList)) [c]).toArray⟩, true) else (⟨#[]⟩, false)

theorem sizes_cons (x : ByteArray) (l : List ByteArray) : sizes (x :: l) = x.size + sizes l := by simp [sizes]
theorem sizes_append (l m : List ByteArray) : sizes (l ++ m) = sizes l + sizes m := by simp [sizes]

theorem join_len (l : List ByteArray) (c : UInt8) (h : l ≠ []) : (Lib.join (l.map (·.data.toList)) [c]).length = l.length - 1 + sizes l := by
  cases l with
  | nil => exact absurd rfl h
  | cons x l =>
    rw [List.map_cons, Lib.join_cons, List.length_append, sizes_cons]
    have : (Lib.joinTail [c] (l.map (·.data.toList))).length = l.length + sizes l := by
      induction l with
      | nil => rfl
      | cons y l ih =>
        have ih := ih (by simp)
        unfold Lib.joinTail at ih ⊢
        rw [List.map_cons, List.map_cons, List.flatten_cons, List.length_append, ih, sizes_cons, List.length_append, List.length_singleton, List.length_cons]
        have : y.data.toList.length = y.size := by rw [Array.length_toList]; rfl
        omega
    rw [this]
    have : x.data.toList.length = x.size := by rw [Array.length_toList]; rfl
    simp only [List.length_cons]
    omega

theorem impl_join_l (l : List ByteArray) (c : UInt8) (hn : l.length ≤ 1000) (hl : ∀ x ∈ l, x.size ≤ 100000) (hne : l ≠ []) : ∀ (r p : List ByteArray), l = p ++ r → (∀ q ∈ p, c ∉ L q) → sizes p + (l.length - 1) ≤ 4000 + 0 ∨ p = [] → ∀ k, r.length < k →
    impl_JoinStrings.l0 k l ⟨#[c]⟩ ((l.length - 1 : Nat) + (sizes p : Nat)) l l.length p.length = some (joinR l c) := by
  intro r
  induction r with
  | nil =>
    intro p hp hc hs k hk
    obtain ⟨k, rfl⟩ : ∃ n, k = n + 1 := ⟨k - 1, by simp at hk; omega⟩
    rw [List.append_nil] at hp
    subst hp
    unfold impl_JoinStrings.l0
    rw [if_neg (by omega)]
    have hs' : sizes l + (l.length - 1) ≤ 4000 := by
      rcases hs with h | h
      · omega
      · exact absurd h hne
    have hj := join_len l c hne
    unfold strings_Join.f joinR
    rw [if_pos ⟨by omega, by show (Lib.join _ [c]).length ≤ _; omega⟩, if_pos ⟨hc, by omega⟩, Option.bind_some]
  | cons x r ih =>
    intro p hp hc hs k hk
    obtain ⟨k, rfl⟩ : ∃ n, k = n + 1 := ⟨k - 1, by simp at hk; omega⟩
    have hlen : l.length = p.length + (r.length + 1) := by rw [hp, List.length_append, List.length_cons]
    have hx : rdOf ByteArray.empty l (p.length : Int) = x := by
      unfold rdOf
      rw [Int.toNat_natCast, List.getD_eq_getElem?_getD, hp, List.getElem?_append_right (Nat.le_refl _)]
      simp
    have hxm : x ∈ l := by rw [hp]; simp
    have hxs := hl x hxm
    have hps : sizes p ≤ 4000 := by
      rcases hs with h | h
      · omega
      · subst h; decide
    have htot : sizes l = sizes p + (x.size + sizes r) := by rw [hp, sizes_append, sizes_cons]
    unfold impl_JoinStrings.l0
    rw [if_pos (by omega), if_pos (by omega), if_pos (by omega), hx, wrap_in (by omega) (by omega)]
    by_cases h4 : ((l.length - 1 : Nat) : Int) + (sizes p : Nat) + (x.size : Int) > 4000
    · rw [if_pos h4]
      unfold joinR
      rw [if_neg (fun h => by omega)]
    · rw [if_neg h4]
      unfold strings_Contains.f
      rw [if_pos (show (⟨#[c]⟩ : ByteArray).size = 1 from rfl), Option.bind_some]
      show (if decide (c ∈ L x) = true then _ else _) = _
      by_cases hcx : c ∈ L x
      · rw [if_pos (by simpa using hcx)]
        unfold joinR
        rw [if_neg (fun h => h.1 x hxm hcx)]
      · rw [if_neg (by simpa using hcx), wrap_in (by omega) (by omega)]
        have := ih (p ++ [x]) (by rw [hp]; simp) (by
          intro q hq
          rcases List.mem_append.1 hq with h | h
          · exact hc q h
          · rw [List.mem_singleton.1 h]; exact hcx) (.inl (by rw [sizes_append, sizes_cons]; simp only [sizes, List.map_nil, List.sum_nil] at *; omega)) k (by simp at hk; omega)
        rw [sizes_append, sizes_cons] at this
        rw [show (l.length - 1 : Nat) + (sizes p : Nat) + (x.size : Int) = ((l.length - 1 : Nat) : Int) + ((sizes p + (x.size + sizes []) : Nat) : Int) from by simp only [sizes, List.map_nil, List.sum_nil]; omega, show (p.length : Int) + 1 = ((p ++ [x]).length : Int) from by simp]
        exact this

theorem impl_join (l : List ByteArray) (c : UInt8) (hn : l.length ≤ 1000) (hl : ∀ x ∈ l, x.size ≤ 100000) (hne : l ≠ []) (k : Nat) (hk : l.length + 1 < k) : impl_JoinStrings.f k l ⟨#[c]⟩ = some (joinR l c) := by
  obtain ⟨k, rfl⟩ : ∃ n, k = n + 1 := ⟨k - 1, by omega⟩
  have hp : 0 < l.length := List.length_pos_iff.2 hne
  unfold impl_JoinStrings.f
  rw [if_neg (by omega), impl_JoinStrings.j0, if_neg (show ¬ (((⟨#[c]⟩ : ByteArray).size : Int) != 1) = true from by show ¬ ((1 : Int) != 1) = true; decide), wrap_in (by omega) (by omega)]
  have := impl_join_l l c hn hl hne l [] (by simp) (by simp) (.inr rfl) k (by omega)
  rw [show (l.length : Int) - 1 = ((l.length - 1 : Nat) : Int) + ((sizes [] : Nat) : Int) from by simp only [sizes, List.map_nil, List.sum_nil]; omega]
  exact this

theorem spec_join_l (l : List ByteArray) (c : UInt8) (hn : l.length ≤ 1000) (hl : ∀ x ∈ l, x.size ≤ 100000) (hne : l ≠ []) : ∀ (r p : List ByteArray), l = p ++ r → (∀ q ∈ p, c ∉ L q) → (p.length - 1) + sizes p ≤ 4000 → ∀ k, r.length + 100000 < k →
    spec_JoinStrings.l0 k l ⟨#[c]⟩ ⟨(Lib.join (p.map (·.data.toList)) [c]).toArray⟩ p.length = some (joinR l c) := by
  intro r
  induction r with
  | nil =>
    intro p hp hc hs k hk
    obtain ⟨k, rfl⟩ : ∃ n, k = n + 1 := ⟨k - 1, by simp at hk; omega⟩
    rw [List.append_nil] at hp
    subst hp
    unfold spec_JoinStrings.l0
    rw [if_neg (by omega)]
    unfold joinR
    rw [if_pos ⟨hc, by omega⟩]
  | cons x r ih =>
    intro p hp hc hs k hk
    obtain ⟨k, rfl⟩ : ∃ n, k = n + 1 := ⟨k - 1, by simp at hk; omega⟩
    have hlen : l.length = p.length + (r.length + 1) := by rw [hp, List.length_append, List.length_cons]
    have hx : rdOf ByteArray.empty l (p.length : Int) = x := by
      unfold rdOf
      rw [Int.toNat_natCast, List.getD_eq_getElem?_getD, hp, List.getElem?_append_right (Nat.le_refl _)]
      simp
    have hxm : x ∈ l := by rw [hp]; simp
    have hxs := hl x hxm
    have htot : sizes l = sizes p + (x.size + sizes r) := by rw [hp, sizes_append, sizes_cons]
    have hone : sizes [x] = x.size := by simp [sizes]
    unfold spec_JoinStrings.l0
    rw [if_pos (by omega), if_pos (by omega), if_pos (show (0 : Int) < ((⟨#[c]⟩ : ByteArray).size : Int) from by show (0 : Int) < 1; decide), hx, show bt (⟨#[c]⟩ : ByteArray) 0 = (c.toNat : Int) from rfl, stands x c k (by omega) (by simp at hk; omega), Option.bind_some]
    by_cases hcx : c ∈ L x
    · rw [if_pos (by simpa using hcx)]
      unfold joinR
      rw [if_neg (fun h => h.1 x hxm hcx)]
    · rw [if_neg (by simpa using hcx)]
      have step : ∀ t : ByteArray, t = ⟨(Lib.join ((p ++ [x]).map (·.data.toList)) [c]).toArray⟩ → ((p ++ [x]).length - 1) + sizes (p ++ [x]) ≤ 4000 → spec_JoinStrings.l0 k l ⟨#[c]⟩ t (wrap64 ((p.length : Int) + 1)) = some (joinR l c) := by
        intro t ht hsz
        rw [ht, wrap_in (by omega) (by omega), show (p.length : Int) + 1 = ((p ++ [x]).length : Int) from by simp]
        exact ih (p ++ [x]) (by rw [hp]; simp) (by
          intro q hq
          rcases List.mem_append.1 hq with h | h
          · exact hc q h
          · rw [List.mem_singleton.1 h]; exact hcx) hsz k (by simp at hk; omega)
      have fail : ¬ ((p ++ [x]).length - 1) + sizes (p ++ [x]) ≤ 4000 → joinR l c = (⟨#[]⟩, false) := by
        intro h
        unfold joinR
        rw [if_neg (fun h2 => h (by rw [List.length_append, List.length_singleton, sizes_append, hone]; omega))]
      rw [List.length_append, List.length_singleton, sizes_append, hone] at fail step
      cases p with
      | nil =>
        rw [if_neg (by simp)]
        have e0 : (⟨(Lib.join (([] : List ByteArray).map (·.data.toList)) [c]).toArray⟩ : ByteArray) = ⟨#[]⟩ := rfl
        rw [e0, if_pos (by show 0 + x.size ≤ _; omega)]
        by_cases h4 : (((⟨#[]⟩ : ByteArray).size : Int) + (x.size : Int)) > 4000
        · rw [if_pos h4, fail (by have : (⟨#[]⟩ : ByteArray).size = 0 := rfl; simp only [List.length_nil, sizes, List.map_nil, List.sum_nil]; omega)]
        · rw [if_neg h4]
          refine step _ ?_ (by have : (⟨#[]⟩ : ByteArray).size = 0 := rfl; simp only [List.length_nil, sizes, List.map_nil, List.sum_nil]; omega)
          apply ext_L
          rw [L_append]
          show [] ++ L x = _
          simp [Lib.join_one]
      | cons y p =>
        have hj := join_len (y :: p) c (by simp)
        have hjs : (⟨(Lib.join ((y :: p).map (·.data.toList)) [c]).toArray⟩ : ByteArray).size = (y :: p).length - 1 + sizes (y :: p) := by rw [size_L]; exact hj
        have h1 : (⟨#[c]⟩ : ByteArray).size = 1 := rfl
        rw [if_pos (by simp only [List.length_cons]; omega), if_pos (by omega), if_pos (by omega)]
        by_cases h4 : (((⟨(Lib.join ((y :: p).map (·.data.toList)) [c]).toArray⟩ : ByteArray).size : Int) + ((⟨#[c]⟩ : ByteArray).size : Int)) + (x.size : Int) > 4000
        · rw [if_pos h4, fail (by simp only [List.length_cons] at hjs ⊢; omega)]
        · rw [if_neg h4]
          refine step _ ?_ (by simp only [List.length_cons] at hjs ⊢; omega)
          apply ext_L
          rw [L_append, L_append]
          show (Lib.join ((y :: p).map (·.data.toList)) [c] ++ [c]) ++ L x = Lib.join ((y :: p ++ [x]).map (·.data.toList)) [c]
          rw [List.map_append, List.map_cons, List.cons_append, Lib.join_cons, Lib.join_cons]
          unfold Lib.joinTail
          rw [List.map_append, List.flatten_append]
          simp

theorem spec_join (l : List ByteArray) (c : UInt8) (hn : l.length ≤ 1000) (hl : ∀ x ∈ l, x.size ≤ 100000) (hne : l ≠ []) (k : Nat) (hk : l.length + 100001 < k) : spec_JoinStrings.f k l ⟨#[c]⟩ = some (joinR l c) := by
  obtain ⟨k, rfl⟩ : ∃ n, k = n + 1 := ⟨k - 1, by omega⟩
  have hp : 0 < l.length := List.length_pos_iff.2 hne
  unfold spec_JoinStrings.f
  rw [if_pos (show ((⟨#[c]⟩ : ByteArray).size : Int) = 1 from rfl), spec_JoinStrings.j0, if_neg (by simp; exact hne)]
  exact spec_join_l l c hn hl hne l [] (by simp) (by simp) (by simp [sizes]) k (by omega)

theorem join_eq (l : List ByteArray) (m : ByteArray) (hn : l.length ≤ 1000) (hl : ∀ x ∈ l, x.size ≤ 100000) : ∃ r, ∀ k, l.length + 100001 < k → impl_JoinStrings.f k l m = some r ∧ spec_JoinStrings.f k l m = some r := by
  by_cases hm : m.size = 1
  · rw [one_byte hm]
    by_cases hne : l = []
    · subst hne
      refine ⟨(⟨#[]⟩, false), fun k hk => ?_⟩
      obtain ⟨k, rfl⟩ : ∃ n, k = n + 1 := ⟨k - 1, by omega⟩
      unfold impl_JoinStrings.f spec_JoinStrings.f
      exact ⟨rfl, rfl⟩
    · exact ⟨_, fun k hk => ⟨impl_join l _ hn hl hne k (by omega), spec_join l _ hn hl hne k hk⟩⟩
  · refine ⟨(⟨#[]⟩, false), fun k hk => ?_⟩
    obtain ⟨k, rfl⟩ : ∃ n, k = n + 1 := ⟨k - 1, by omega⟩
    unfold impl_JoinStrings.f spec_JoinStrings.f
    rw [if_neg (c := (m.size : Int) = 1) (by omega), spec_JoinStrings.j0, if_pos rfl]
    refine ⟨?_, rfl⟩
    split
    · rw [impl_JoinStrings.j0]; rfl
    · rw [impl_JoinStrings.j0, if_pos (by simp; omega)]

/-! ### the law -/
theorem less_asym : ∀ a ∈ some9, ∀ b ∈ some9, Op.bytesLess a.toList b.toList = true → Op.bytesLess b.toList a.toList = false := by
  have h : ∀ a ∈ some9, ∀ b ∈ some9, Op.bytesLess (L a) (L b) = true → Op.bytesLess (L b) (L a) = false := by decide
  intro a ha b hb
  rw [L_toList, L_toList]
  exact h a ha b hb

theorem split_back : ∀ s ∈ some9, ∀ c ∈ [(44 : UInt8), 32], joinR (Lib.splitB ⟨#[c]⟩ 0 (Lib.countB s ⟨#[c]⟩) s) c = (s, true) ∧ (Lib.splitB ⟨#[c]⟩ 0 (Lib.countB s ⟨#[c]⟩) s).length ≤ 20 ∧ (∀ x ∈ Lib.splitB ⟨#[c]⟩ 0 (Lib.countB s ⟨#[c]⟩) s, x.size ≤ 100) ∧ Lib.splitB ⟨#[c]⟩ 0 (Lib.countB s ⟨#[c]⟩) s ≠ [] := by
  decide +kernel

theorem FnSplitJoin (l0 : List Int) (hw : ∀ x ∈ l0, (Lit.int .u8 x).wf = true) : ∃ k, laws_FnSplitJoin.f k l0 = some true := by
  have hl := Code.of_wf hw
  obtain ⟨s, p, e1, hs, hp⟩ := drawSplit l0 hl
  obtain ⟨l, m, hln, hlx, hm, hJ⟩ := drawJoin l0 hl
  obtain ⟨a, b, e2, ha, hb⟩ := drawLess l0 hl
  obtain ⟨r, hr⟩ := join_eq l m (by omega) (fun x hx => by have := hlx x hx; omega)
  have hss := some9_size s hs
  -- what is split, joined again
  have hsp : ∃ L6 ok, impl_SplitString.f s p = some (L6, ok) ∧ laws_FnSplitJoin.j0 300000 s p L6 ok false = some true := by
    unfold impl_SplitString.f
    rw [if_neg (by omega)]
    by_cases h1 : (p.size : Int) = 1
    · have hpc : ∃ c ∈ [(44 : UInt8), 32], p = ⟨#[c]⟩ := by
        simp only [List.mem_cons, List.not_mem_nil, or_false] at hp
        rcases hp with rfl | rfl | rfl | rfl | rfl
        · exact ⟨44, by simp, rfl⟩
        · exact ⟨44, by simp, rfl⟩
        · exact ⟨32, by simp, rfl⟩
        · exact absurd h1 (by show ¬ (0 : Int) = 1; decide)
        · exact absurd h1 (by show ¬ (2 : Int) = 1; decide)
      obtain ⟨c, hc, rfl⟩ := hpc
      obtain ⟨b1, b2, b3, b4⟩ := split_back s hs c hc
      rw [if_pos h1]
      unfold strings_Split.f
      rw [if_pos ⟨rfl, by omega⟩, Option.bind_some]
      refine ⟨_, _, rfl, ?_⟩
      rw [laws_FnSplitJoin.j0, if_neg (by decide), if_pos h1, impl_join _ c (by omega) (fun x hx => by have := b3 x hx; omega) b4 _ (by omega), b1, Option.bind_some]
      simp
    · rw [if_neg h1]
      refine ⟨_, _, rfl, ?_⟩
      rw [laws_FnSplitJoin.j0, if_neg (by decide), if_neg h1, if_neg (by decide)]
      rfl
  obtain ⟨L6, ok, e3, hj⟩ := hsp
  refine ⟨300000, ?_⟩
  unfold laws_FnSplitJoin.f
  obtain ⟨v, hv⟩ : ∃ v, laws_vBig.f l0 = some v := by unfold laws_vBig.f; exact ⟨_, rfl⟩
  rw [hv, Option.bind_some]
  cases v with
  | true => rw [if_pos rfl]
  | false =>
    rw [if_neg (by decide), e1, Option.bind_some]
    dsimp only
    rw [e3, Option.bind_some]
    dsimp only
    obtain ⟨r1, r2⟩ := hr 300000 (by omega)
    rw [hJ 300000 (by omega), Option.bind_some]
    dsimp only
    rw [r1, r2, Option.bind_some, Option.bind_some, e2, Option.bind_some, if_pos rfl, if_neg (by simp)]
    dsimp only
    unfold impl_LessString.f spec_LessString.f
    rw [Option.bind_some, Option.bind_some, if_neg (by simp), Option.bind_some]
    cases hab : Op.bytesLess a.toList b.toList with
    | true => rw [if_pos rfl, Option.bind_some, less_asym a ha b hb hab]; exact hj
    | false => rw [if_neg (by decide)]; exact hj
end Go.Proofs.YtgclcjohnnpejaaDoor.PureL
