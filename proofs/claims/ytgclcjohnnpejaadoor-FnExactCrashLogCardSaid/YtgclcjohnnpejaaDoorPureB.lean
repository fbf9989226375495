/- The encodings of records: the program's and the reference's are one. No program, no memory. -/
import Derived.Test.YtgclcjohnnpejaaDoorPureA
import Derived.Test.YtgclcjohnnpejaaDoorPrx3
import Derived.Test.YtgclcjohnnpejaaDoorPrx6
import Derived.Test.YtgclcjohnnpejaaDoorPrx9
namespace Go.Proofs.YtgclcjohnnpejaaDoor.PureL
open Go.RowKit Go.Proofs.YtgclcjohnnpejaaDoor.Pr Go.Proofs.YtgclcjohnnpejaaDoorW.PrintWords Go.Proofs.YtgclcjohnnpejaaDoorW.PrintLast

theorem decDigits_pow : ∀ (d n : Nat), n < 10 ^ (d + 1) → (Lib.decDigits n).length ≤ d + 1
  | 0, n, h => by
    rw [Lib.decDigits, dif_pos (by omega)]
    simp
  | d + 1, n, h => by
    rw [Lib.decDigits]
    by_cases hn : n < 10
    · rw [dif_pos hn]; simp
    · rw [dif_neg hn]
      have := decDigits_pow d (n / 10) (by rw [Nat.pow_succ] at h; omega)
      simp only [List.length_append, List.length_cons, List.length_nil]
      omega
theorem decDigits_dig (n : Nat) : ∀ b ∈ Lib.decDigits n, 48 ≤ b.toNat ∧ b.toNat ≤ 57 := by
  induction n using Nat.strongRecOn with
  | _ n ih =>
    rw [Lib.decDigits]
    have hd : ∀ m : Nat, m < 10 → ∀ b ∈ [UInt8.ofNat (48 + m)], 48 ≤ b.toNat ∧ b.toNat ≤ 57 := fun m hm b hb => by
      rw [List.mem_singleton.1 hb, UInt8.toNat_ofNat']
      omega
    by_cases hn : n < 10
    · rw [dif_pos hn]; exact hd n hn
    · rw [dif_neg hn]
      intro b hb
      rcases List.mem_append.1 hb with hb | hb
      · exact ih (n / 10) (by omega) b hb
      · exact hd (n % 10) (by omega) b hb
theorem itoa_dig {n : Int} (h0 : 0 ≤ n) : ∀ b ∈ Lib.itoa n, 48 ≤ b.toNat ∧ b.toNat ≤ 57 := by
  unfold Lib.itoa
  rw [if_neg (by omega)]
  exact decDigits_dig _
theorem itoa_small {n : Int} (h0 : 0 ≤ n) (h1 : n < 1000000) : (Lib.itoa n).length ≤ 6 := by
  unfold Lib.itoa
  rw [if_neg (by omega)]
  exact decDigits_pow 5 n.toNat (by omega)
theorem sum_small (l : List UInt8) : (Lib.itoa (sumL l 7)).length ≤ 6 := by
  obtain ⟨h0, h1⟩ := sum_in l 7 (by omega) (by omega)
  exact itoa_small h0 (by omega)

/-- what a record's text is before its check sum -/
def textL (n : Int) (c r : List UInt8) : List UInt8 := Lib.itoa n ++ [32] ++ c ++ [64] ++ r
def encL (n : Int) (c r : List UInt8) : List UInt8 := sealL (textL n c r) ++ [10]

theorem all_ok_no35 {l : List UInt8} (h : l.all okB = true) : (35 : UInt8) ∉ l := fun hm => by
  have := List.all_eq_true.1 h 35 hm
  exact absurd this (by decide)
theorem valid_parts {c r : List UInt8} (h : validRec c r = true) : c ≠ [] ∧ c.all okB = true ∧ c.length ≤ 160 ∧ (64 : UInt8) ∉ c ∧ r.all okB = true ∧ r.length ≤ 280 := by
  unfold validRec printed at h
  simp only [Bool.and_eq_true, decide_eq_true_eq, Bool.not_eq_true', decide_eq_false_iff_not] at h
  obtain ⟨⟨⟨h1, h2, h3⟩, h4⟩, h5, h6⟩ := h
  exact ⟨by simpa using h1, h2, h3, h4, h5, h6⟩
theorem text_no35 {n : Int} {c r : List UInt8} (h0 : 0 ≤ n) (h : validRec c r = true) : (35 : UInt8) ∉ textL n c r := by
  obtain ⟨_, h2, _, _, h5, _⟩ := valid_parts h
  unfold textL
  simp only [List.mem_append, List.mem_singleton, not_or]
  exact ⟨⟨⟨⟨fun hm => by have := itoa_dig h0 _ hm; have e : (35 : UInt8).toNat = 35 := rfl; omega, by decide⟩, all_ok_no35 h2⟩, by decide⟩, all_ok_no35 h5⟩
theorem text_len {n : Int} {c r : List UInt8} (h0 : 0 ≤ n) (h1 : n < 1000000) : (textL n c r).length ≤ 8 + c.length + r.length := by
  have := itoa_small h0 h1
  unfold textL
  simp only [List.length_append, List.length_cons, List.length_nil]
  omega
theorem seal_len (l : List UInt8) : (sealL l).length ≤ l.length + 7 := by
  have := sum_small l
  unfold sealL
  simp only [List.length_append, List.length_cons, List.length_nil]
  omega

theorem text_B (n : Int) (c r : ByteArray) : ((((⟨(Lib.itoa n).toArray⟩ : ByteArray) ++ (⟨#[32]⟩ : ByteArray)) ++ c) ++ (⟨#[64]⟩ : ByteArray)) ++ r = ⟨(textL n (L c) (L r)).toArray⟩ := by
  apply ext_L
  simp only [L_append]
  rfl
theorem B_size (l : List UInt8) : (⟨l.toArray⟩ : ByteArray).size = l.length := by rw [size_L]

theorem spec_line (n : Int) (c r : ByteArray) (k : Nat) (h0 : 0 ≤ n) (h1 : n < 1000000) (hc : c.size ≤ 1000000000000) (hr : r.size ≤ 1000000000000) (hk : 1000100 + c.size + r.size < k) :
    spec_l12Line.f k n c r = some ⟨(encL n (L c) (L r)).toArray⟩ := by
  have hi := itoa_small h0 h1
  have ht := text_len (c := L c) (r := L r) h0 h1
  have hs := seal_len (textL n (L c) (L r))
  have hc' := size_L c
  have hr' := size_L r
  unfold spec_l12Line.f
  rw [num_eq n k (by omega) (by omega) (by omega), Option.bind_some, B_size, if_pos (by omega), if_pos (by omega), if_pos (by omega), if_pos (by omega), text_B,
    seal_eq _ k (by rw [B_size]; omega) (by rw [B_size]; omega) (by omega), Option.bind_some, B_size, L_mk (textL n (L c) (L r)), if_pos (by omega)]
  refine congrArg some (ext_L ?_)
  rw [L_append]
  rfl

def encR (n : Int) (c r : ByteArray) : ByteArray × Bool := if 0 ≤ n ∧ n ≤ 59 ∧ validRec (L c) (L r) = true then (⟨(encL n (L c) (L r)).toArray⟩, true) else (⟨#[]⟩, false)

theorem spec_enc (n : Int) (c r : ByteArray) (k : Nat) (hc : c.size ≤ 1000000000000) (hr : r.size ≤ 1000000000000) (hk : 1000100 + c.size + r.size < k) :
    spec_EncodeRecord.f k n c r = some (encR n c r) := by
  unfold spec_EncodeRecord.f spec_l1In.f encR
  by_cases h0 : 0 ≤ n
  · rw [if_pos (by omega), Option.bind_some]
    by_cases h1 : n ≤ 59
    · rw [if_pos (by simpa using h1), spec_valid c r k (by omega) (by omega) (by omega) (by omega), Option.bind_some]
      by_cases hv : validRec (L c) (L r) = true
      · rw [if_pos hv, if_pos ⟨h0, h1, hv⟩, spec_line n c r k h0 (by omega) hc hr hk, Option.bind_some]
      · rw [if_neg hv, if_neg (fun h => hv h.2.2)]
    · rw [if_neg (by simpa using h1), if_neg (fun h => h1 h.2.1)]
  · rw [if_neg (by omega), Option.bind_some, if_neg (by simp), if_neg (fun h => h0 h.1)]

theorem impl_enc (n : Int) (c r : ByteArray) (k : Nat) (hc : c.size ≤ 1000000000000) (hr : r.size ≤ 1000000000000) (hk : 1000100 + c.size + r.size < k) :
    impl_EncodeRecord.f k n c r = some (encR n c r) := by
  obtain ⟨k, rfl⟩ : ∃ m, k = m + 1 := ⟨k - 1, by omega⟩
  unfold impl_EncodeRecord.f impl_in.f encR
  by_cases h0 : 0 ≤ n
  · rw [if_pos (by omega), Option.bind_some]
    by_cases h1 : n ≤ 59
    · rw [if_pos (by simpa using h1), impl_valid c r (k + 1) (by omega) (by omega) (by omega) (by omega), Option.bind_some]
      by_cases hv : validRec (L c) (L r) = true
      · have hi := itoa_small h0 (by omega : n < 1000000)
        have ht := text_len (c := L c) (r := L r) h0 (by omega : n < 1000000)
        have hs := seal_len (textL n (L c) (L r))
        obtain ⟨_, _, v1, _, _, v2⟩ := valid_parts hv
        have hc' := size_L c
        have hr' := size_L r
        rw [hv, if_pos ⟨h0, h1, rfl⟩]
        simp only [impl_EncodeRecord.j0]
        rw [if_neg (by simp), itoa_eq n (by omega) (by omega), Option.bind_some, B_size, if_pos (by omega), if_pos (by omega), if_pos (by omega), if_pos (by omega), text_B,
          appendChecksum_eq _ k (by rw [B_size]; omega) (by rw [B_size]; omega), L_mk (textL n (L c) (L r)), if_pos ⟨by rw [B_size]; omega, text_no35 h0 hv, by omega⟩, Option.bind_some, B_size, if_pos (by omega)]
        refine congrArg some (Prod.ext (ext_L ?_) rfl)
        rw [L_append]
        rfl
      · have hv' : validRec (L c) (L r) = false := by simpa using hv
        rw [hv', if_neg (by simp)]
        simp only [impl_EncodeRecord.j0]
        rw [if_pos (by simp)]
    · rw [if_neg (by simpa using h1), if_neg (fun h => h1 h.2.1)]
      simp only [impl_EncodeRecord.j0]
      rw [if_pos trivial]
  · rw [if_neg (by omega), Option.bind_some, if_neg (by simp), if_neg (fun h => h0 h.1)]
    simp only [impl_EncodeRecord.j0]
    rw [if_pos trivial]

/-- what is left of the bound on sizes -/
theorem sz_rec (a b : ByteArray) (ha : a.size ≤ 140737488351232) (hb : b.size ≤ 140737488351232) : ∃ r, laws_szLogRecord.f a b 1048576 = some r ∧ (¬ r < 0 → a.size ≤ 1048576 ∧ b.size ≤ 1048576) := by
  unfold laws_szLogRecord.f
  rw [wrap_in (by omega) (by omega), wrap_in (by omega) (by omega)]
  by_cases h1 : (1048576 : Int) - (a.size : Int) < 0
  · rw [if_pos h1]; exact ⟨_, rfl, fun h => absurd (by omega) h⟩
  · rw [if_neg h1]
    by_cases h2 : (1048576 : Int) - (a.size : Int) - (b.size : Int) < 0
    · rw [if_pos h2]; exact ⟨_, rfl, fun h => absurd (by omega) h⟩
    · rw [if_neg h2]; exact ⟨_, rfl, fun _ => by omega⟩

end Go.Proofs.YtgclcjohnnpejaaDoor.PureL
