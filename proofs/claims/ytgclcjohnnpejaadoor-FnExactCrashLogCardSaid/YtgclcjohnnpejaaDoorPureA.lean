/- What the printed functions on texts and records tell, in plain words over lists of bytes. No program, no memory. -/
import Derived.Test.YtgclcjohnnpejaaDoorPrx3
import Derived.Test.YtgclcjohnnpejaaDoorPrx4
import Derived.Test.YtgclcjohnnpejaaDoorPrx5
import Derived.Test.YtgclcjohnnpejaaDoorPrx7
import Derived.Test.YtgclcjohnnpejaaDoorPrx8
import Derived.Test.YtgclcjohnnpejaaDoorHLib
namespace Go.Proofs.YtgclcjohnnpejaaDoor.PureL
open Go.RowKit Go.Proofs.YtgclcjohnnpejaaDoor.Pr Go.Proofs.YtgclcjohnnpejaaDoorW.PrintWords Go.Proofs.YtgclcjohnnpejaaDoorW.PrintLast

/-- the bytes of a text -/
abbrev L (s : ByteArray) : List UInt8 := s.data.toList

theorem ext_L {a b : ByteArray} (h : L a = L b) : a = b := by
  obtain ⟨⟨la⟩⟩ := a
  obtain ⟨⟨lb⟩⟩ := b
  have : la = lb := h
  rw [this]
theorem size_L (s : ByteArray) : s.size = (L s).length := by simp only [L, Array.length_toList]; rfl
theorem L_append (a b : ByteArray) : L (a ++ b) = L a ++ L b := by
  simp [L]
theorem L_extract (s : ByteArray) (a b : Nat) : L (s.extract a b) = ((L s).drop a).take (b - a) := Lib.extract_data s a b
theorem L_toList (s : ByteArray) : s.toList = L s := Lib.toList_data s
theorem L_mk (l : List UInt8) : L ⟨l.toArray⟩ = l := rfl
theorem toList_inj {a b : ByteArray} : a.toList = b.toList ↔ a = b := by
  rw [L_toList, L_toList]
  exact ⟨ext_L, fun h => by rw [h]⟩

theorem wrap_up {i : Int} {n : Nat} (h0 : 0 ≤ i) (h : i < (n : Int)) (hn : n ≤ 9223372036854775807) : wrap64 (i + 1) = i + 1 := by
  unfold wrap64
  omega
theorem wrap_in {i : Int} (h0 : -9223372036854775808 ≤ i) (h : i ≤ 9223372036854775807) : wrap64 i = i := by
  unfold wrap64
  omega

/-- a byte of a text -/
theorem bt_get (s : ByteArray) (i : Nat) (h : i < (L s).length) : bt s (i : Int) = (((L s)[i]'h).toNat : Int) := by
  have h' : i < s.size := by rw [size_L]; exact h
  unfold bt
  simp only [Int.toNat_natCast, h', dif_pos]
  rfl
theorem bt_drop {s : ByteArray} {i : Nat} {b : UInt8} {l : List UInt8} (h : (L s).drop i = b :: l) : bt s (i : Int) = (b.toNat : Int) ∧ (L s).drop (i + 1) = l ∧ i < s.size := by
  have hi : i < (L s).length := by
    apply Decidable.byContradiction
    intro hc
    rw [List.drop_eq_nil_of_le (by omega)] at h
    cases h
  have e := List.drop_eq_getElem_cons hi
  rw [h] at e
  injection e with e1 e2
  refine ⟨by rw [bt_get s i hi, e1], e2.symm, by rw [size_L]; exact hi⟩
theorem drop_nil_iff {s : ByteArray} {i : Nat} : (L s).drop i = [] ↔ s.size ≤ i := by rw [List.drop_eq_nil_iff, size_L]

theorem byte_eq (a b : UInt8) : ((a.toNat : Int) = (b.toNat : Int)) ↔ a = b := by
  constructor
  · intro h; exact UInt8.toNat_inj.1 (by omega)
  · rintro rfl; rfl

/-! ### does a byte stand in a text -/
theorem stands_l0 (s : ByteArray) (c : UInt8) (hs : s.size ≤ 9223372036854775807) : ∀ (l : List UInt8) (i k : Nat), (L s).drop i = l → i ≤ s.size → l.length < k →
    spec_l1Stands.l0 k s (c.toNat : Int) (i : Int) = some (decide (c ∈ l))
  | [], i, k, h, hi, hk => by
    obtain ⟨k, rfl⟩ : ∃ m, k = m + 1 := ⟨k - 1, by omega⟩
    have := drop_nil_iff.1 h
    simp only [spec_l1Stands.l0]
    rw [if_neg (by omega)]
    simp
  | b :: l, i, k, h, hi, hk => by
    obtain ⟨k, rfl⟩ : ∃ m, k = m + 1 := ⟨k - 1, by omega⟩
    obtain ⟨h1, h2, h3⟩ := bt_drop h
    simp only [List.length_cons] at hk
    simp only [spec_l1Stands.l0]
    rw [if_pos (by omega), if_pos (by omega), h1]
    by_cases e : b = c
    · subst e; simp
    · rw [if_neg (fun h => e ((byte_eq _ _).1 h)), wrap_up (n := s.size) (by omega) (by omega) hs]
      have := stands_l0 s c hs l (i + 1) k h2 (by omega) (by omega)
      rw [show ((i : Int) + 1) = ((i + 1 : Nat) : Int) from by omega, this]
      simp [Ne.symm e]
theorem stands (s : ByteArray) (c : UInt8) (k : Nat) (hs : s.size ≤ 9223372036854775807) (hk : s.size < k) : spec_l1Stands.f k s (c.toNat : Int) = some (decide (c ∈ L s)) := by
  unfold spec_l1Stands.f
  exact stands_l0 s c hs (L s) 0 k rfl (by omega) (by rw [← size_L]; exact hk)

/-! ### printed texts -/
def okB (b : UInt8) : Bool := 32 ≤ b && b ≤ 126 && b != 35
theorem okB_iff (b : UInt8) : okB b = true ↔ 32 ≤ (b.toNat : Int) ∧ (b.toNat : Int) ≤ 126 ∧ (b.toNat : Int) ≠ 35 := by
  unfold okB
  simp only [Bool.and_eq_true, decide_eq_true_eq, bne_iff_ne, ne_eq, UInt8.le_iff_toNat_le]
  rw [show (35 : Int) = ((35 : UInt8).toNat : Int) from rfl, byte_eq]
  constructor
  · rintro ⟨⟨h1, h2⟩, h3⟩
    exact ⟨by have : (32 : UInt8).toNat = 32 := rfl; omega, by have : (126 : UInt8).toNat = 126 := rfl; omega, h3⟩
  · rintro ⟨h1, h2, h3⟩
    exact ⟨⟨by have : (32 : UInt8).toNat = 32 := rfl; omega, by have : (126 : UInt8).toNat = 126 := rfl; omega⟩, h3⟩

theorem bytes_l0 (s : ByteArray) (m : Int) (hs : s.size ≤ 9223372036854775807) : ∀ (l : List UInt8) (i k : Nat), (L s).drop i = l → i ≤ s.size → l.length < k →
    spec_l12Bytes.l0 k s m (i : Int) = some (l.all okB && decide ((s.size : Int) ≤ m))
  | [], i, k, h, hi, hk => by
    obtain ⟨k, rfl⟩ : ∃ m, k = m + 1 := ⟨k - 1, by omega⟩
    have := drop_nil_iff.1 h
    simp only [spec_l12Bytes.l0]
    rw [if_neg (by omega)]
    simp
  | b :: l, i, k, h, hi, hk => by
    obtain ⟨k, rfl⟩ : ∃ m, k = m + 1 := ⟨k - 1, by omega⟩
    obtain ⟨h1, h2, h3⟩ := bt_drop h
    simp only [List.length_cons] at hk
    have hb : b.toNat < 256 := b.toNat_lt
    simp only [spec_l12Bytes.l0]
    rw [if_pos (by omega), if_pos (by omega), h1, wrap_in (by omega) (by omega)]
    have ih := bytes_l0 s m hs l (i + 1) k h2 (by omega) (by omega)
    unfold spec_l1In.f
    simp only [List.all_cons]
    cases e : okB b with
    | true =>
      obtain ⟨e1, e2, e3⟩ := (okB_iff b).1 e
      rw [if_pos (by omega)]
      simp only [Option.bind_some, decide_eq_true_eq]
      rw [if_pos e2, if_neg e3, wrap_up (n := s.size) (by omega) (by omega) hs, show ((i : Int) + 1) = ((i + 1 : Nat) : Int) from by omega, ih]
      simp
    | false =>
      have e' : ¬ (32 ≤ (b.toNat : Int) ∧ (b.toNat : Int) ≤ 126 ∧ (b.toNat : Int) ≠ 35) := fun h => by rw [(okB_iff b).2 h] at e; cases e
      by_cases c1 : 32 ≤ (b.toNat : Int)
      · rw [if_pos c1]
        simp only [Option.bind_some, decide_eq_true_eq]
        by_cases c2 : (b.toNat : Int) ≤ 126
        · rw [if_pos c2, if_pos (by omega)]; simp
        · rw [if_neg c2]; simp
      · rw [if_neg c1]; simp
def printed (l : List UInt8) (m : Nat) : Bool := l.all okB && decide (l.length ≤ m)
theorem bytes (s : ByteArray) (m k : Nat) (hs : s.size ≤ 9223372036854775807) (hk : s.size < k) : spec_l12Bytes.f k s (m : Int) = some (printed (L s) m) := by
  unfold spec_l12Bytes.f
  rw [show (0 : Int) = ((0 : Nat) : Int) from rfl, bytes_l0 s m hs (L s) 0 k rfl (by omega) (by rw [← size_L]; exact hk)]
  unfold printed
  rw [size_L]
  congr 2
  exact decide_eq_decide.2 (by omega)

theorem isPrinted_l0 (s : ByteArray) (m : Int) (hs : s.size ≤ 9223372036854775807) : ∀ (l : List UInt8) (i k : Nat), (L s).drop i = l → i ≤ s.size → l.length < k →
    impl_isPrinted.l0 k s m (s.size : Int) (i : Int) = some (l.all okB && decide ((s.size : Int) ≤ m))
  | [], i, k, h, hi, hk => by
    obtain ⟨k, rfl⟩ : ∃ m, k = m + 1 := ⟨k - 1, by omega⟩
    have := drop_nil_iff.1 h
    simp only [impl_isPrinted.l0]
    rw [if_neg (by omega)]
    simp
  | b :: l, i, k, h, hi, hk => by
    obtain ⟨k, rfl⟩ : ∃ m, k = m + 1 := ⟨k - 1, by omega⟩
    obtain ⟨h1, h2, h3⟩ := bt_drop h
    simp only [List.length_cons] at hk
    simp only [impl_isPrinted.l0]
    rw [if_pos (by omega), if_pos (by omega), if_pos (by omega), h1]
    have ih := isPrinted_l0 s m hs l (i + 1) k h2 (by omega) (by omega)
    simp only [List.all_cons]
    cases e : okB b with
    | true =>
      obtain ⟨e1, e2, e3⟩ := (okB_iff b).1 e
      rw [if_neg (by omega), if_neg (by omega), if_neg e3, wrap_up (n := s.size) (by omega) (by omega) hs, show ((i : Int) + 1) = ((i + 1 : Nat) : Int) from by omega, ih]
      simp
    | false =>
      have e' : ¬ (32 ≤ (b.toNat : Int) ∧ (b.toNat : Int) ≤ 126 ∧ (b.toNat : Int) ≠ 35) := fun h => by rw [(okB_iff b).2 h] at e; cases e
      by_cases c1 : (b.toNat : Int) < 32
      · rw [if_pos c1]; simp
      · rw [if_neg c1]
        by_cases c2 : (b.toNat : Int) > 126
        · rw [if_pos c2]; simp
        · rw [if_neg c2, if_pos (by omega)]; simp
theorem isPrinted (s : ByteArray) (m k : Nat) (hs : s.size ≤ 9223372036854775807) (hk : s.size < k) : impl_isPrinted.f k s (m : Int) = some (printed (L s) m) := by
  unfold impl_isPrinted.f
  rw [show (0 : Int) = ((0 : Nat) : Int) from rfl, isPrinted_l0 s m hs (L s) 0 k rfl (by omega) (by rw [← size_L]; exact hk)]
  unfold printed
  rw [size_L]
  congr 2
  exact decide_eq_decide.2 (by omega)

/-! ### records -/
def validRec (c r : List UInt8) : Bool := !c.isEmpty && printed c 160 && !decide ((64 : UInt8) ∈ c) && printed r 280
theorem spec_valid (c r : ByteArray) (k : Nat) (hc : c.size ≤ 9223372036854775807) (hr : r.size ≤ 9223372036854775807) (hk : c.size < k) (hk' : r.size < k) :
    spec_l12Record.f k c r = some (validRec (L c) (L r)) := by
  unfold spec_l12Record.f validRec
  rw [L_toList, show (160 : Int) = ((160 : Nat) : Int) from rfl, show (280 : Int) = ((280 : Nat) : Int) from rfl, show (64 : Int) = ((64 : UInt8).toNat : Int) from rfl, bytes c 160 k hc hk, bytes r 280 k hr hk', stands c 64 k hc hk]
  by_cases h0 : L c = []
  · rw [if_pos h0, h0]; simp
  · rw [if_neg h0]
    have h0' : (L c).isEmpty = false := by simpa using h0
    rw [h0']
    cases printed (L c) 160 <;> by_cases h2 : (64 : UInt8) ∈ L c <;> simp [h2]
theorem impl_valid (c r : ByteArray) (k : Nat) (hc : c.size ≤ 9223372036854775807) (hr : r.size ≤ 9223372036854775807) (hk : c.size < k) (hk' : r.size < k) :
    impl_IsValidRecord.f k c r = some (validRec (L c) (L r)) := by
  unfold impl_IsValidRecord.f impl_isCommand.f validRec strings_Contains.f
  rw [L_toList, show (160 : Int) = ((160 : Nat) : Int) from rfl, show (280 : Int) = ((280 : Nat) : Int) from rfl, isPrinted c 160 k hc hk, isPrinted r 280 k hr hk']
  by_cases h0 : L c = []
  · rw [if_pos h0, h0]; simp
  · rw [if_neg h0]
    have h0' : (L c).isEmpty = false := by simpa using h0
    rw [h0', if_pos (by rfl)]
    have h64 : ((⟨#[64]⟩ : ByteArray).data.toList.headD 0) = 64 := rfl
    rw [h64]
    cases printed (L c) 160 <;> by_cases h2 : (64 : UInt8) ∈ L c <;> simp [h2]

/-! ### numerals -/
theorem dig_at (n : Nat) (h : n < 10) : L ((⟨#[48, 49, 50, 51, 52, 53, 54, 55, 56, 57]⟩ : ByteArray).extract n (n + 1)) = [UInt8.ofNat (48 + n)] := by
  rw [L_extract]
  match n, h with
  | 0, _ => rfl | 1, _ => rfl | 2, _ => rfl | 3, _ => rfl | 4, _ => rfl | 5, _ => rfl | 6, _ => rfl | 7, _ => rfl | 8, _ => rfl | 9, _ => rfl

theorem dec_len1 (m : Nat) : (Lib.decDigits m).length ≤ m + 1 := by
  induction m using Nat.strongRecOn with
  | _ m ih =>
    rw [Lib.decDigits]
    by_cases hm : m < 10
    · rw [dif_pos hm]; simp
    · rw [dif_neg hm]
      have := ih (m / 10) (by omega)
      simp only [List.length_append, List.length_cons, List.length_nil]
      omega
theorem num_nat (k : Nat) : ∀ n : Nat, n < k → n ≤ 9000000000000000000 → ∃ s, spec_l1Num.f k (n : Int) = some s ∧ L s = Lib.decDigits n := by
  induction k with
  | zero => intro n h; omega
  | succ k ih =>
    intro n h hn
    simp only [spec_l1Num.f]
    rw [if_neg (by omega)]
    by_cases h10 : n < 10
    · rw [if_pos (by omega), if_pos (by omega), wrap_in (by omega) (by omega), if_pos (by omega), if_pos (by omega)]
      refine ⟨_, rfl, ?_⟩
      rw [show ((n : Int) + 1).toNat = n + 1 from by omega, Int.toNat_natCast, dig_at n h10, Lib.decDigits, dif_pos h10]
    · have e1 : Int.tdiv (n : Int) 10 = ((n / 10 : Nat) : Int) := by
        rw [Int.tdiv_eq_ediv_of_nonneg (by omega)]; omega
      have e2 : Int.tmod (n : Int) 10 = ((n % 10 : Nat) : Int) := by
        rw [Int.tmod_eq_emod_of_nonneg (by omega)]; omega
      obtain ⟨s, hs, hL⟩ := ih (n / 10) (by omega) (by omega)
      have hlen : s.size ≤ n := by
        rw [size_L, hL]
        have := dec_len1 (n / 10)
        omega
      rw [if_neg (by omega), e1, e2, wrap_in (i := ((n / 10 : Nat) : Int)) (by omega) (by omega), hs, Option.bind_some]
      rw [if_pos (by omega), wrap_in (by omega) (by omega), if_pos (by omega), if_pos (by omega)]
      have e3 : (((n % 10 : Nat) : Int) + 1).toNat = n % 10 + 1 := by omega
      have hd := dig_at (n % 10) (by omega)
      rw [e3, Int.toNat_natCast]
      have hsz : ((⟨#[48, 49, 50, 51, 52, 53, 54, 55, 56, 57]⟩ : ByteArray).extract (n % 10) (n % 10 + 1)).size = 1 := by rw [size_L, hd]; rfl
      rw [hsz, if_pos (by omega)]
      refine ⟨_, rfl, ?_⟩
      rw [L_append, hL, hd]
      conv => rhs; rw [Lib.decDigits, dif_neg h10]

theorem num_any (n : Int) (k : Nat) (hk : n.natAbs + 1 < k) (h0 : -9000000000000000000 ≤ n) (h1 : n ≤ 9000000000000000000) : ∃ s, spec_l1Num.f k n = some s ∧ L s = Lib.itoa n := by
  by_cases hn : n < 0
  · obtain ⟨k, rfl⟩ : ∃ m, k = m + 1 := ⟨k - 1, by omega⟩
    obtain ⟨s, hs, hL⟩ := num_nat k n.natAbs (by omega) (by omega)
    simp only [spec_l1Num.f]
    rw [if_pos hn, wrap_in (by omega) (by omega), show -n = (n.natAbs : Int) from by omega, hs, Option.bind_some]
    have hlen : s.size ≤ n.natAbs + 1 ∧ n.natAbs + 1 < 9223372036854775807 := by
      rw [size_L, hL]
      exact ⟨dec_len1 n.natAbs, by omega⟩
    rw [if_pos (by omega)]
    refine ⟨_, rfl, ?_⟩
    rw [L_append, hL]
    unfold Lib.itoa
    rw [if_pos hn]
    rfl
  · obtain ⟨s, hs, hL⟩ := num_nat k n.toNat (by omega) (by omega)
    refine ⟨s, by rw [← hs]; congr 1; omega, ?_⟩
    unfold Lib.itoa
    rw [if_neg hn, hL]

theorem num_eq (n : Int) (k : Nat) (hk : n.natAbs + 1 < k) (h0 : -9000000000000000000 ≤ n) (h1 : n ≤ 9000000000000000000) : spec_l1Num.f k n = some ⟨(Lib.itoa n).toArray⟩ := by
  obtain ⟨s, hs, hL⟩ := num_any n k hk h0 h1
  rw [hs, ext_L (a := s) (b := ⟨(Lib.itoa n).toArray⟩) (by rw [hL])]
theorem itoa_eq (n : Int) (h0 : -9000000000000000000 ≤ n) (h1 : n ≤ 9000000000000000000) : strconv_Itoa.f n = some ⟨(Lib.itoa n).toArray⟩ := by
  unfold strconv_Itoa.f
  rw [if_pos (by omega)]

/-! ### check sums -/
def sumStep (h : Int) (b : UInt8) : Int := (41 * h + (b.toNat : Int) + 1) % 999979
def sumL (l : List UInt8) (h : Int) : Int := l.foldl sumStep h
theorem sumStep_in (h : Int) (b : UInt8) : 0 ≤ sumStep h b ∧ sumStep h b < 999979 := by unfold sumStep; omega
theorem sum_in (l : List UInt8) (h : Int) (h0 : 0 ≤ h) (h1 : h < 999979) : 0 ≤ sumL l h ∧ sumL l h < 999979 := by
  induction l generalizing h with
  | nil => exact ⟨h0, h1⟩
  | cons b l ih => exact ih _ (sumStep_in h b).1 (sumStep_in h b).2
theorem step_wrap (h : Int) (b : UInt8) (h0 : 0 ≤ h) (h1 : h < 999979) : Int.tmod (wrap64 ((wrap64 ((wrap64 (41 * h)) + (wrap64 (b.toNat : Int)))) + 1)) 999979 = sumStep h b := by
  have hb : b.toNat < 256 := b.toNat_lt
  rw [wrap_in (i := 41 * h) (by omega) (by omega), wrap_in (i := (b.toNat : Int)) (by omega) (by omega), wrap_in (i := 41 * h + (b.toNat : Int)) (by omega) (by omega), wrap_in (by omega) (by omega), Int.tmod_eq_emod_of_nonneg (by omega)]
  rfl
theorem sum_l0 (s : ByteArray) (hs : s.size ≤ 9223372036854775807) : ∀ (l : List UInt8) (h : Int) (i k : Nat), (L s).drop i = l → i ≤ s.size → l.length < k → 0 ≤ h → h < 999979 →
    spec_l1Sum.l0 k s h (i : Int) = some (sumL l h)
  | [], h, i, k, hd, hi, hk, _, _ => by
    obtain ⟨k, rfl⟩ : ∃ m, k = m + 1 := ⟨k - 1, by omega⟩
    have := drop_nil_iff.1 hd
    simp only [spec_l1Sum.l0]
    rw [if_neg (by omega)]
    rfl
  | b :: l, h, i, k, hd, hi, hk, h0, h1 => by
    obtain ⟨k, rfl⟩ : ∃ m, k = m + 1 := ⟨k - 1, by omega⟩
    obtain ⟨e1, e2, e3⟩ := bt_drop hd
    simp only [List.length_cons] at hk
    simp only [spec_l1Sum.l0]
    rw [if_pos (by omega), if_pos (by omega), e1, step_wrap h b h0 h1, wrap_up (n := s.size) (by omega) (by omega) hs, show ((i : Int) + 1) = ((i + 1 : Nat) : Int) from by omega,
      sum_l0 s hs l _ (i + 1) k e2 (by omega) (by omega) (sumStep_in h b).1 (sumStep_in h b).2]
    rfl
theorem sum_eq (s : ByteArray) (k : Nat) (hs : s.size ≤ 9223372036854775807) (hk : s.size < k) : spec_l1Sum.f k s = some (sumL (L s) 7) := by
  unfold spec_l1Sum.f
  exact sum_l0 s hs (L s) 7 0 k rfl (by omega) (by rw [← size_L]; exact hk) (by omega) (by omega)
theorem check_l0 (s : ByteArray) (hs : s.size ≤ 9223372036854775807) : ∀ (l : List UInt8) (h : Int) (i k : Nat), (L s).drop i = l → i ≤ s.size → l.length < k → 0 ≤ h → h < 999979 →
    impl_Checksum.l0 k s h (s.size : Int) (i : Int) = some (sumL l h, true)
  | [], h, i, k, hd, hi, hk, _, _ => by
    obtain ⟨k, rfl⟩ : ∃ m, k = m + 1 := ⟨k - 1, by omega⟩
    have := drop_nil_iff.1 hd
    simp only [impl_Checksum.l0]
    rw [if_neg (by omega)]
    rfl
  | b :: l, h, i, k, hd, hi, hk, h0, h1 => by
    obtain ⟨k, rfl⟩ : ∃ m, k = m + 1 := ⟨k - 1, by omega⟩
    obtain ⟨e1, e2, e3⟩ := bt_drop hd
    simp only [List.length_cons] at hk
    simp only [impl_Checksum.l0]
    rw [if_pos (by omega), if_pos (by omega), if_pos (by omega), e1, step_wrap h b h0 h1, wrap_up (n := s.size) (by omega) (by omega) hs, show ((i : Int) + 1) = ((i + 1 : Nat) : Int) from by omega,
      check_l0 s hs l _ (i + 1) k e2 (by omega) (by omega) (sumStep_in h b).1 (sumStep_in h b).2]
    rfl
theorem check_eq (s : ByteArray) (k : Nat) (hk : s.size < k) : impl_Checksum.f k s = some (if s.size ≤ 4000 then (sumL (L s) 7, true) else (0, false)) := by
  unfold impl_Checksum.f
  by_cases h : s.size ≤ 4000
  · rw [if_neg (by omega), if_pos h]
    exact check_l0 s (by omega) (L s) 7 0 k rfl (by omega) (by rw [← size_L]; exact hk) (by omega) (by omega)
  · rw [if_pos (by omega), if_neg h]

/-- a text with its check sum -/
def sealL (l : List UInt8) : List UInt8 := l ++ [35] ++ Lib.itoa (sumL l 7)
theorem decDigits_len (m : Nat) : (Lib.decDigits m).length ≤ m / 10 + 1 := by
  induction m using Nat.strongRecOn with
  | _ m ih =>
    rw [Lib.decDigits]
    by_cases hm : m < 10
    · rw [dif_pos hm]; simp
    · rw [dif_neg hm]
      have := ih (m / 10) (by omega)
      simp only [List.length_append, List.length_cons, List.length_nil]
      omega
theorem itoa_len (n : Int) (h0 : 0 ≤ n) (h1 : n < 999979) : (Lib.itoa n).length ≤ 100000 := by
  unfold Lib.itoa
  rw [if_neg (by omega)]
  have := decDigits_len n.toNat
  omega
theorem seal_eq (s : ByteArray) (k : Nat) (hs : s.size ≤ 9000000000000000000) (hk : s.size < k) (hk2 : 1000000 < k) : spec_l1Seal.f k s = some ⟨(sealL (L s)).toArray⟩ := by
  unfold spec_l1Seal.f
  obtain ⟨h0, h1⟩ := sum_in (L s) 7 (by omega) (by omega)
  have hl := itoa_len _ h0 h1
  rw [if_pos (by omega), sum_eq s k (by omega) hk]
  simp only [Option.bind_some]
  rw [num_eq _ k (by omega) (by omega) (by omega)]
  simp only [Option.bind_some]
  rw [if_pos (by
    have : (⟨(Lib.itoa (sumL (L s) 7)).toArray⟩ : ByteArray).size = (Lib.itoa (sumL (L s) 7)).length := by rw [size_L]
    omega)]
  refine congrArg some (ext_L ?_)
  rw [L_append, L_append]
  rfl
theorem appendChecksum_eq (s : ByteArray) (k : Nat) (hs : s.size ≤ 9000000000000000000) (hk : s.size < k) :
    impl_AppendChecksum.f k s = some (if s.size ≤ 4000 ∧ (35 : UInt8) ∉ L s ∧ (sealL (L s)).length ≤ 4000 then (⟨(sealL (L s)).toArray⟩, true) else (⟨#[]⟩, false)) := by
  unfold impl_AppendChecksum.f
  obtain ⟨h0, h1⟩ := sum_in (L s) 7 (by omega) (by omega)
  have hl := itoa_len _ h0 h1
  rw [check_eq s k hk]
  simp only [Option.bind_some]
  rw [if_pos (by omega)]
  by_cases h4 : s.size ≤ 4000
  · rw [if_pos h4]
    have hz : (⟨(Lib.itoa (sumL (L s) 7)).toArray⟩ : ByteArray).size = (Lib.itoa (sumL (L s) 7)).length := by rw [size_L]
    have hc : strings_Contains.f s (⟨#[35]⟩ : ByteArray) = some (decide ((35 : UInt8) ∈ L s)) := by
      unfold strings_Contains.f
      rw [if_pos (show (⟨#[35]⟩ : ByteArray).size = 1 from rfl)]
      rfl
    have hsl : (sealL (L s)).length = s.size + 1 + (Lib.itoa (sumL (L s) 7)).length := by unfold sealL; rw [size_L]; simp only [List.length_append, List.length_cons, List.length_nil]
    rw [itoa_eq _ (by omega) (by omega)]
    simp only [Option.bind_some]
    rw [if_pos (by omega), if_pos trivial, hc]
    simp only [Option.bind_some, decide_eq_true_eq]
    by_cases h5 : (35 : UInt8) ∈ L s
    · rw [if_pos h5, if_neg (fun h => h.2.1 h5)]
    · rw [if_neg h5]
      by_cases h6 : (sealL (L s)).length ≤ 4000
      · rw [if_neg (by omega), if_pos ⟨h4, h5, h6⟩]
        refine congrArg some (Prod.ext ?_ rfl)
        apply ext_L
        rw [L_append, L_append]
        rfl
      · rw [if_pos (by omega), if_neg (fun h => h6 h.2.2)]
  · rw [if_neg h4, if_neg (fun h => h4 h.1)]
    rw [itoa_eq _ (by omega) (by omega)]
    simp only [Option.bind_some]
    have hz : (⟨(Lib.itoa 0).toArray⟩ : ByteArray).size = 1 := by rw [size_L]; unfold Lib.itoa; rw [if_neg (by omega), Lib.decDigits]; rfl
    rw [if_pos (by omega), if_neg (by simp)]
end Go.Proofs.YtgclcjohnnpejaaDoor.PureL
