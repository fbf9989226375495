-- texts of this session, and of the kit's print, cut to what the claim leans on
import Derived.Test.YtgclcjohnnpejaaDoorMg7
import Derived.Test.YtgclcjohnnpejaaDoorMg4
import Derived.Test.YtgclcjohnnpejaaDoorMg5
import Derived.Test.YtgclcjohnnpejaaDoorMg2
import Derived.Test.YtgclcjohnnpejaaDoorMg3
import Derived.Lib.Zigzag
import Derived.Lib.VarintBits
import Derived.Test.YtgclcjohnnpejaaDoorMg6
section
set_option linter.unusedVariables false
set_option linter.unusedSimpArgs false
namespace Go.Proofs.YtgclcjohnnpejaaDoor.PureL
open Go.RowKit Go.Proofs.YtgclcjohnnpejaaDoor.Pr Go.Proofs.YtgclcjohnnpejaaDoorW.PrintWords Go.Proofs.YtgclcjohnnpejaaDoorW.PrintLast
theorem up_aft {t : List UInt8} {c : UInt8} (h : c ∈ t) : t = upL t c ++ c :: aftL t c := by
 have h1 := List.takeWhile_append_dropWhile (p := (· != c)) (l := t)
 have h2 : t.dropWhile (· != c) ≠ [] := fun e => by
  have : c ∈ t.takeWhile (· != c) := by rw [e, List.append_nil] at h1; rw [h1]; exact h
  exact no_tw t c this
 unfold upL aftL
 obtain ⟨b, r, hb⟩ := List.exists_cons_of_ne_nil h2
 have hbc : b = c := by
  have := List.head?_dropWhile_not (· != c) t
  rw [hb] at this
  simpa using this
 subst hbc
 rw [hb] at h1 ⊢
 exact h1.symm
theorem up_not (t : List UInt8) (c : UInt8) : c ∉ upL t c := no_tw t c
def rdA (n : Nat) (t : List UInt8) : List S38 × Nat := rdL t.length n t
theorem rdL_fuel : ∀ (d n : Nat) (t : List UInt8), t.length ≤ d → rdL d n t = rdA n t := by
 have main : ∀ (m d e n : Nat) (t : List UInt8), t.length ≤ m → t.length ≤ d → t.length ≤ e → rdL d n t = rdL e n t := by
  intro m
  induction m with
  | zero =>
   intro d e n t h0 h1 h2
   have : t = [] := List.eq_nil_of_length_eq_zero (by omega)
   subst this
   cases d <;> cases e <;> simp [rdL]
  | succ m ih =>
   intro d e n t h0 h1 h2
   by_cases hc : (10 : UInt8) ∈ t
   ·have hl := congrArg List.length (up_aft hc)
    rw [List.length_append, List.length_cons] at hl
    obtain ⟨d, rfl⟩ : ∃ z, d = z + 1 := ⟨d - 1, by omega⟩
    obtain ⟨e, rfl⟩ : ∃ z, e = z + 1 := ⟨e - 1, by omega⟩
    rw [rdL, rdL, ih d e (n + 1) (aftL t 10) (by omega) (by omega) (by omega)]
   ·cases d <;> cases e <;> simp [rdL, hc]
 intro d n t h
 exact main d d t.length n t h h (Nat.le_refl _)
theorem rdA_eq (n : Nat) (t : List UInt8) : rdA n t = if n < 60 ∧ (10 : UInt8) ∈ t ∧ goodI n (upL t 10) = true then (⟨⟨(decI n (upL t 10)).1.toArray⟩, ⟨(decI n (upL t 10)).2.toArray⟩⟩ :: (rdA (n + 1) (aftL t 10)).1, (upL t 10).length + 1 + (rdA (n + 1) (aftL t 10)).2) else ([], 0) := by
 by_cases hc : (10 : UInt8) ∈ t
 ·have hl := congrArg List.length (up_aft hc)
  rw [List.length_append, List.length_cons] at hl
  rw [← rdL_fuel (t.length + 1) n t (by omega), rdL, rdL_fuel t.length (n + 1) (aftL t 10) (by omega)]
 ·rw [← rdL_fuel (t.length + 1) n t (by omega), rdL, if_neg (fun h => hc h.2.1), if_neg (fun h => hc h.2.1)]
theorem rdA_le (n : Nat) (t : List UInt8) : (rdA n t).2 ≤ t.length := by
 have main : ∀ (m n : Nat) (t : List UInt8), t.length ≤ m → (rdA n t).2 ≤ t.length := by
  intro m
  induction m with
  | zero =>
   intro n t h
   have : t = [] := List.eq_nil_of_length_eq_zero (by omega)
   subst this
   rw [rdA_eq, if_neg (by simp)]
   simp
  | succ m ih =>
   intro n t h
   rw [rdA_eq]
   split
   ·rename_i h1
    have hl := congrArg List.length (up_aft h1.2.1)
    rw [List.length_append, List.length_cons] at hl
    have := ih (n + 1) (aftL t 10) (by omega)
    dsimp only
    omega
   ·simp
 exact main t.length n t (Nat.le_refl _)
theorem rdA_append : ∀ (m n : Nat) (t u : List UInt8), t.length ≤ m → (rdA n t).2 = t.length → rdA n (t ++ u) = ((rdA n t).1 ++ (rdA (n + (rdA n t).1.length) u).1, t.length + (rdA (n + (rdA n t).1.length) u).2) := by
 intro m
 induction m with
 | zero =>
  intro n t u h hf
  have : t = [] := List.eq_nil_of_length_eq_zero (by omega)
  subst this
  have e : rdA n [] = ([], 0) := by rw [rdA_eq, if_neg (by simp)]
  rw [e]
  simp
 | succ m ih =>
  intro n t u h hf
  by_cases hn : t = []
  ·subst hn
   have e : rdA n [] = ([], 0) := by rw [rdA_eq, if_neg (by simp)]
   rw [e]
   simp
  ·have hpos : 0 < t.length := List.length_pos_iff.2 hn
   by_cases hg : n < 60 ∧ (10 : UInt8) ∈ t ∧ goodI n (upL t 10) = true
   ·have ht := up_aft hg.2.1
    have hl := congrArg List.length ht
    rw [List.length_append, List.length_cons] at hl
    have hu : upL (t ++ u) 10 = upL t 10 := by
     conv => lhs; rw [ht, List.append_assoc, List.cons_append]
     exact up_mid (up_not t 10)
    have ha : aftL (t ++ u) 10 = aftL t 10 ++ u := by
     conv => lhs; rw [ht, List.append_assoc, List.cons_append]
     exact aft_mid (up_not t 10)
    have e := rdA_eq n t
    rw [if_pos hg] at e
    rw [e] at hf
    dsimp only at hf
    have hle := rdA_le (n + 1) (aftL t 10)
    have hi := ih (n + 1) (aftL t 10) u (by omega) (by omega)
    rw [rdA_eq n (t ++ u), hu, ha, if_pos ⟨hg.1, List.mem_append_left _ hg.2.1, hg.2.2⟩, hi, e]
    dsimp only
    rw [List.length_cons, show n + 1 + (rdA (n + 1) (aftL t 10)).1.length = n + ((rdA (n + 1) (aftL t 10)).1.length + 1) by omega]
    refine Prod.ext rfl ?_
    dsimp only
    omega
   ·rw [rdA_eq, if_neg hg] at hf
    dsimp only at hf
    omega
theorem ok_small (b : UInt8) (h : okB b = true) : 32 ≤ b.toNat ∧ b.toNat < 127 := by
 have := (okB_iff b).1 h
 omega
theorem line_bytes {n : Nat} {line : List UInt8} (h : goodI n line = true) : ∀ b ∈ line, 32 ≤ b.toNat ∧ b.toNat < 127 := by
 unfold goodI at h
 simp only [Bool.and_eq_true, decide_eq_true_eq] at h
 obtain ⟨hv, he⟩ := h
 have hl : line = sealL (textL n (decI n line).1 (decI n line).2) := by
  have := he
  unfold encL at this
  exact ((List.append_inj' this rfl).1).symm
 obtain ⟨_, h2, _, _, h5, _⟩ := valid_parts hv
 have hd : ∀ m : Int, 0 ≤ m → ∀ b ∈ Lib.itoa m, 32 ≤ b.toNat ∧ b.toNat < 127 := fun m hm b hb => by have := itoa_dig hm b hb; omega
 intro b hb
 rw [hl] at hb
 unfold sealL textL at hb
 simp only [List.mem_append, List.mem_singleton] at hb
 rcases hb with ((((((hb | hb) | hb) | hb) | hb) | hb) | hb)
 ·exact hd _ (by omega) b hb
 ·subst hb; decide
 ·exact ok_small b (List.all_eq_true.1 h2 b hb)
 ·subst hb; decide
 ·exact ok_small b (List.all_eq_true.1 h5 b hb)
 ·subst hb; decide
 ·exact hd _ (sum_in _ 7 (by omega) (by omega)).1 b hb
theorem enc_ends {n : Int} {c r : List UInt8} : ∃ line, encL n c r = line ++ [10] := ⟨_, rfl⟩
theorem rdA_line (n : Nat) (c r : List UInt8) (hn : n < 60) (hv : validRec c r = true) : rdA n (encL n c r) = ([⟨⟨c.toArray⟩, ⟨r.toArray⟩⟩], (encL n c r).length) := by
 obtain ⟨line, hl⟩ : ∃ line, encL n c r = line ++ [10] := enc_ends
 obtain ⟨hg, hd⟩ := goodI_of hv hl
 have hno : (10 : UInt8) ∉ line := fun hm => by have := line_bytes hg 10 hm; simp at this
 rw [hl, rdA_eq, show line ++ [10] = line ++ 10 :: [] from rfl, up_mid hno, aft_mid hno, if_pos ⟨hn, by simp, hg⟩, hd]
 have e : rdA (n + 1) [] = ([], 0) := by rw [rdA_eq, if_neg (by simp)]
 rw [e]
 simp
end Go.Proofs.YtgclcjohnnpejaaDoor.PureL
end

section
set_option linter.unusedVariables false
set_option linter.unusedSimpArgs false
namespace Go.Proofs.YtgclcjohnnpejaaDoor.PureL
open Go.RowKit Go.Proofs.YtgclcjohnnpejaaDoor.Pr Go.Proofs.YtgclcjohnnpejaaDoorW.PrintWords Go.Proofs.YtgclcjohnnpejaaDoorW.PrintLast
theorem rdA_none (n : Nat) (t : List UInt8) (h : (10 : UInt8) ∉ t) : rdA n t = ([], 0) := by rw [rdA_eq, if_neg (fun h2 => h h2.2.1)]
end Go.Proofs.YtgclcjohnnpejaaDoor.PureL
end

section
set_option linter.unusedVariables false
set_option linter.unusedSimpArgs false
namespace Go.Proofs.YtgclcjohnnpejaaDoor.PureL
open Go.RowKit Go.Proofs.YtgclcjohnnpejaaDoor.Pr Go.Proofs.YtgclcjohnnpejaaDoorW.PrintWords Go.Proofs.YtgclcjohnnpejaaDoorW.PrintLast
theorem size_add (a b : ByteArray) : (a ++ b).size = a.size + b.size := by rw [size_L, L_append, List.length_append, ← size_L, ← size_L]
def Valid (a b : ByteArray) (n : Int) : Prop := a.size + b.size ≤ 30000 ∧ (rdA 0 (L (a ++ b))).2 = a.size + b.size ∧ (rdA 0 (L a)).2 = a.size ∧ ((rdA 0 (L (a ++ b))).1.length : Int) = n
instance (a b : ByteArray) (n : Int) : Decidable (Valid a b n) := by unfold Valid; infer_instance
theorem read_A (s : ByteArray) (hs : s.size ≤ 2000000) : (rdA 0 (L s)).2 ≤ s.size ∧ (rdA 0 (L s)).1.length ≤ 60 ∧ ∀ k, 20000000 < k → impl_readRecords.f k s = some ((rdA 0 (L s)).1, ((rdA 0 (L s)).2 : Int)) ∧ spec_l12Open.f k s = some ((rdA 0 (L s)).1, ((rdA 0 (L s)).2 : Int)) := by
 have h := read_eq2 s hs
 rw [show rdL s.size 0 (L s) = rdA 0 (L s) from rdL_fuel _ _ _ (by rw [size_L]; exact Nat.le_refl _)] at h
 exact h
theorem valid_A (a b : ByteArray) (n : Int) (ha : a.size ≤ 1048576) (hb : b.size ≤ 1048576) (k : Nat) (hk : 30000000 < k) :
  spec_l12Valid.f k a b n = some (decide (Valid a b n)) ∧ impl_Log_records.f k a b n = some (if a.size + b.size ≤ 30000 then (rdA 0 (L (a ++ b))).1 else [], decide (Valid a b n)) := by
 by_cases h : a.size + b.size ≤ 30000
 ·obtain ⟨hn1, hl1, h1⟩ := read_A (a ++ b) (by rw [size_add]; omega)
  obtain ⟨hn2, hl2, h2⟩ := read_A a (by omega)
  obtain ⟨i1, s1⟩ := h1 k (by omega)
  obtain ⟨i2, s2⟩ := h2 k (by omega)
  have hd : decide (Valid a b n) = (decide (((rdA 0 (L (a ++ b))).2 : Int) = (a.size : Int) + (b.size : Int)) && decide (((rdA 0 (L a)).2 : Int) = (a.size : Int)) && decide (((rdA 0 (L (a ++ b))).1.length : Int) = n)) := by
   rw [← Bool.decide_and, ← Bool.decide_and]
   refine decide_eq_decide.2 ?_
   unfold Valid
   constructor
   ·rintro ⟨_, q1, q2, q3⟩; exact ⟨⟨by omega, by omega⟩, q3⟩
   ·rintro ⟨⟨q1, q2⟩, q3⟩; exact ⟨h, by omega, by omega, q3⟩
  rw [if_pos h, hd]
  generalize (rdA 0 (L (a ++ b))).1 = l1 at *
  generalize (rdA 0 (L (a ++ b))).2 = n1 at *
  generalize (rdA 0 (L a)).1 = l2 at *
  generalize (rdA 0 (L a)).2 = n2 at *
  unfold spec_l12Valid.f impl_Log_records.f
  rw [i1, i2, s1, s2, wrap_in (by omega) (by omega), if_neg (by omega), if_pos (by omega), Option.bind_some]
  dsimp only
  rw [Option.bind_some, Option.bind_some]
  dsimp only
  refine ⟨?_, ?_⟩
  ·by_cases c1 : (n1 : Int) = (a.size : Int) + (b.size : Int)
   ·rw [if_pos c1, decide_eq_true c1]
    by_cases c2 : (n2 : Int) = (a.size : Int)
    ·rw [if_pos c2, decide_eq_true c2]; rfl
    ·rw [if_neg c2, decide_eq_false c2]; rfl
   ·rw [if_neg c1, decide_eq_false c1]; rfl
  ·rw [if_neg (by omega), if_pos (by omega), Option.bind_some]
   dsimp only
   by_cases c1 : (n1 : Int) = (a.size : Int) + (b.size : Int)
   ·rw [if_pos c1, decide_eq_true c1]
    by_cases c2 : (n2 : Int) = (a.size : Int)
    ·rw [if_pos c2, decide_eq_true c2]; rfl
    ·rw [if_neg c2, decide_eq_false c2]; rfl
   ·rw [if_neg c1, decide_eq_false c1]; rfl
 ·have hd : decide (Valid a b n) = false := decide_eq_false (fun hv => h hv.1)
  rw [hd, if_neg h]
  unfold spec_l12Valid.f impl_Log_records.f
  rw [wrap_in (by omega) (by omega), if_pos (by omega), if_pos (by omega)]
  exact ⟨rfl, rfl⟩
theorem isValid_A (a b : ByteArray) (n : Int) (ha : a.size ≤ 1048576) (hb : b.size ≤ 1048576) (k : Nat) (hk : 30000000 < k) :
  spec_IsValidLog.f k a b n = some (decide (Valid a b n)) ∧ impl_IsValidLog.f k a b n = some (decide (Valid a b n)) := by
 obtain ⟨h1, h2⟩ := valid_A a b n ha hb k hk
 unfold spec_IsValidLog.f impl_IsValidLog.f
 rw [h1, h2]
 exact ⟨rfl, rfl⟩
theorem sync_A (a b : ByteArray) (n : Int) (ha : a.size ≤ 1048576) (hb : b.size ≤ 1048576) (k : Nat) (hk : 30000000 < k) :
  spec_SyncLog.f k a b n = some (if Valid a b n then (a ++ b, ⟨#[]⟩, n, true) else (⟨#[]⟩, ⟨#[]⟩, 0, false)) ∧ impl_SyncLog.f k a b n = some (if Valid a b n then (a ++ b, ⟨#[]⟩, n, true) else (⟨#[]⟩, ⟨#[]⟩, 0, false)) := by
 obtain ⟨h1, _⟩ := valid_A a b n ha hb k hk
 obtain ⟨_, h2⟩ := isValid_A a b n ha hb k hk
 unfold spec_SyncLog.f impl_SyncLog.f
 rw [h1, h2, Option.bind_some]
 by_cases hv : Valid a b n
 ·rw [decide_eq_true hv, if_pos rfl, if_pos hv, if_pos (by omega)]; exact ⟨rfl, rfl⟩
 ·rw [decide_eq_false hv, if_neg hv]; exact ⟨rfl, rfl⟩
theorem logRecords_A (a b : ByteArray) (n : Int) (ha : a.size ≤ 1048576) (hb : b.size ≤ 1048576) (k : Nat) (hk : 30000000 < k) :
  spec_LogRecords.f k a b n = some (if Valid a b n then ((rdA 0 (L (a ++ b))).1, true) else ([], false)) ∧ impl_LogRecords.f k a b n = some (if Valid a b n then ((rdA 0 (L (a ++ b))).1, true) else ([], false)) := by
 obtain ⟨h1, h2⟩ := valid_A a b n ha hb k hk
 unfold spec_LogRecords.f impl_LogRecords.f
 rw [h1, h2, Option.bind_some, Option.bind_some]
 by_cases hv : Valid a b n
 ·obtain ⟨_, _, h3⟩ := read_A (a ++ b) (by rw [size_add]; have := hv.1; omega)
  rw [decide_eq_true hv, if_pos rfl, if_pos hv, if_pos (by omega), (h3 k (by omega)).2, Option.bind_some, if_pos rfl, if_pos hv.1]
  exact ⟨rfl, rfl⟩
 ·rw [decide_eq_false hv, if_neg hv]; exact ⟨rfl, rfl⟩
def AppR (a b : ByteArray) (n : Int) (c r : ByteArray) : ByteArray × ByteArray × Int × Int :=
 if Valid a b n ∧ validRec (L c) (L r) = true then (if n = 60 then (a, b, n, 2) else (a, b ++ ⟨(encL n (L c) (L r)).toArray⟩, n + 1, 0)) else (a, b, n, 1)
theorem Valid.count {a b : ByteArray} {n : Int} (h : Valid a b n) : 0 ≤ n ∧ n ≤ 60 := by
 have h60 := (read_A (a ++ b) (by rw [size_add]; have := h.1; omega)).2.1
 have := h.2.2.2
 omega
theorem append_A (a b : ByteArray) (n : Int) (c r : ByteArray) (ha : a.size ≤ 1048576) (hb : b.size ≤ 1048576) (hc : c.size ≤ 1048576) (hr : r.size ≤ 1048576) (k : Nat) (hk : 50000000 < k) :
  spec_AppendRecord.f k a b n c r = some (AppR a b n c r) ∧ impl_AppendRecord.f k a b n c r = some (AppR a b n c r) := by
 have hrec : spec_l12Record.f k c r = some (validRec (L c) (L r)) ∧ impl_IsValidRecord.f k c r = some (validRec (L c) (L r)) := ⟨spec_valid c r k (by omega) (by omega) (by omega) (by omega), impl_valid c r k (by omega) (by omega) (by omega) (by omega)⟩
 have hS : spec_AppendRecord.f k a b n c r = spec_AppendRecord.j0 k (!(decide (Valid a b n) && validRec (L c) (L r))) a b n c r ∧ impl_AppendRecord.f k a b n c r = impl_AppendRecord.j0 k (!(decide (Valid a b n) && validRec (L c) (L r))) a b n c r := by
  obtain ⟨h1, _⟩ := valid_A a b n ha hb k (by omega)
  obtain ⟨_, h2⟩ := isValid_A a b n ha hb k (by omega)
  unfold spec_AppendRecord.f impl_AppendRecord.f
  rw [h1, h2, hrec.1, hrec.2]
  cases decide (Valid a b n) <;> exact ⟨rfl, rfl⟩
 rw [hS.1, hS.2]
 obtain ⟨k, rfl⟩ : ∃ z, k = z + 1 := ⟨k - 1, by omega⟩
 have nt : ¬ (!true) = true := by simp
 unfold AppR
 by_cases hv : Valid a b n ∧ validRec (L c) (L r) = true
 ·obtain ⟨n0, n1⟩ := hv.1.count
  rw [if_pos hv, decide_eq_true hv.1, hv.2, Bool.and_true, spec_AppendRecord.j0, impl_AppendRecord.j0, if_neg nt, if_neg nt]
  by_cases h60 : n = 60
  ·rw [if_pos h60, if_pos h60, if_pos h60]; exact ⟨rfl, rfl⟩
  ·have l1 := spec_line n c r k (by omega) (by omega) (by omega) (by omega) (by omega)
   have l2 := impl_enc n c r k (by omega) (by omega) (by omega)
   have l3 : encR n c r = (⟨(encL n (L c) (L r)).toArray⟩, true) := by
    unfold encR
    rw [if_pos ⟨n0, by omega, hv.2⟩]
   have hz : (encL n (L c) (L r)).length ≤ 3000000 := by
    have a1 := text_len (n := n) (c := L c) (r := L r) n0 (by omega)
    have a2 := seal_len (textL n (L c) (L r))
    rw [← size_L, ← size_L] at a1
    unfold encL
    rw [List.length_append, List.length_singleton]
    omega
   rw [if_neg h60, if_neg h60, if_neg h60, l1, l2, l3, Option.bind_some, Option.bind_some]
   dsimp only
   have hz2 : (⟨(encL n (L c) (L r)).toArray⟩ : ByteArray).size ≤ 3000000 := by rw [B_size]; exact hz
   rw [if_pos (by omega), wrap_in (by omega) (by omega)]
   exact ⟨rfl, rfl⟩
 ·rw [if_neg hv]
  have hf : (decide (Valid a b n) && validRec (L c) (L r)) = false := by
   cases h : (decide (Valid a b n) && validRec (L c) (L r)) with
   | false => rfl
   | true => exact absurd ⟨of_decide_eq_true (Bool.and_eq_true _ _ ▸ h).1, (Bool.and_eq_true _ _ ▸ h).2⟩ hv
  rw [hf, spec_AppendRecord.j0, impl_AppendRecord.j0]
  exact ⟨rfl, rfl⟩
theorem enc_small (n : Int) (c r : List UInt8) (h0 : 0 ≤ n) (h1 : n < 1000000) (hv : validRec c r = true) : (encL n c r).length ≤ 500 := by
 obtain ⟨_, _, h3, _, _, h6⟩ := valid_parts hv
 have a1 := text_len (n := n) (c := c) (r := r) h0 h1
 have a2 := seal_len (textL n c r)
 unfold encL
 rw [List.length_append, List.length_singleton]
 omega
theorem appR_small (a b : ByteArray) (n : Int) (c r : ByteArray) (h : a.size + b.size ≤ 40000) (hn : 0 ≤ n ∧ n ≤ 1000) :
  (AppR a b n c r).1.size + (AppR a b n c r).2.1.size ≤ 40000 ∧ 0 ≤ (AppR a b n c r).2.2.1 ∧ (AppR a b n c r).2.2.1 ≤ 1000 := by
 unfold AppR
 split
 ·rename_i hv
  split
  ·exact ⟨h, hn⟩
  ·have := enc_small n (L c) (L r) (by omega) (by omega) hv.2
   obtain ⟨n0, n1⟩ := hv.1.count
   have h3 := hv.1.1
   dsimp only
   have hz : (⟨(encL n (L c) (L r)).toArray⟩ : ByteArray).size = (encL n (L c) (L r)).length := B_size _
   rw [size_add, hz]
   omega
 ·exact ⟨h, hn⟩
theorem append_valid (a b : ByteArray) (n : Int) (c r : ByteArray) (hv : Valid a b n) (hr : validRec (L c) (L r) = true) (h60 : n ≠ 60) (hs : a.size + b.size + (encL n (L c) (L r)).length ≤ 30000) :
  Valid a (b ++ ⟨(encL n (L c) (L r)).toArray⟩) (n + 1) ∧ (rdA 0 (L (a ++ (b ++ ⟨(encL n (L c) (L r)).toArray⟩)))).1 = (rdA 0 (L (a ++ b))).1 ++ [⟨c, r⟩] := by
 obtain ⟨n0, n1⟩ := hv.count
 obtain ⟨v1, v2, v3, v4⟩ := hv
 obtain ⟨m, rfl⟩ : ∃ m : Nat, n = m := ⟨n.toNat, by omega⟩
 have hm : (rdA 0 (L (a ++ b))).1.length = m := by omega
 have hL : L (a ++ (b ++ ⟨(encL (m : Int) (L c) (L r)).toArray⟩)) = L (a ++ b) ++ encL (m : Int) (L c) (L r) := by
  rw [L_append, L_append, L_append, List.append_assoc]
 have hfull : (rdA 0 (L (a ++ b))).2 = (L (a ++ b)).length := by rw [v2, ← size_L, size_add]
 have hap := rdA_append _ 0 (L (a ++ b)) (encL (m : Int) (L c) (L r)) (Nat.le_refl _) hfull
 rw [Nat.zero_add, hm, rdA_line m (L c) (L r) (by omega) hr] at hap
 have hcr : (⟨⟨(L c).toArray⟩, ⟨(L r).toArray⟩⟩ : S38) = ⟨c, r⟩ := rfl
 rw [hcr] at hap
 have hz : (⟨(encL (m : Int) (L c) (L r)).toArray⟩ : ByteArray).size = (encL (m : Int) (L c) (L r)).length := B_size _
 refine ⟨⟨by rw [size_add, hz]; omega, ?_, v3, ?_⟩, ?_⟩
 ·rw [hL, hap, size_add, hz, ← size_L, size_add]
  dsimp only
  omega
 ·rw [hL, hap]
  dsimp only
  rw [List.length_append, List.length_singleton, hm]
  omega
 ·rw [hL, hap]
end Go.Proofs.YtgclcjohnnpejaaDoor.PureL
end

section

end

section
set_option linter.unusedVariables false
set_option linter.unusedSimpArgs false
end

section
namespace Go.Proofs.YtgclcjohnnpejaaDoor.PureL
open Go.RowKit Go.Proofs.YtgclcjohnnpejaaDoor.Pr Go.Proofs.YtgclcjohnnpejaaDoorW.PrintWords Go.Proofs.YtgclcjohnnpejaaDoorW.PrintLast
def Code (l : List Int) : Prop := ∀ x ∈ l, 0 ≤ x ∧ x ≤ 255
theorem Code.of_wf {l : List Int} (h : ∀ x ∈ l, (Lit.int .u8 x).wf = true) : Code l := fun x hx => by
 have := h x hx
 simp [Lit.wf, IntKind.min, IntKind.max, IntKind.signed, IntKind.bits] at this
 omega
theorem Code.rd_in {l : List Int} (h : Code l) (i : Int) : 0 ≤ rd l i ∧ rd l i ≤ 255 := by
 unfold rd
 rw [List.getD_eq_getElem?_getD]
 cases e : l[i.toNat]? with
 | none => simp
 | some x => exact h x (List.mem_of_getElem? e)
theorem u64_range (x : Int) : 0 ≤ IntKind.u64.wrap x ∧ IntKind.u64.wrap x < 18446744073709551616 := by
 rw [show IntKind.u64.wrap x = x % 18446744073709551616 from IntKind.wrap_u64 x]
 omega
theorem low_byte (x : Int) (h0 : 0 ≤ x) (h1 : x < 18446744073709551616) : 0 ≤ wrap64 (Go.bits .and .u64 (x / 1099511627776) 255) ∧ wrap64 (Go.bits .and .u64 (x / 1099511627776) 255) ≤ 255 := by
 have h := bits_mask .u64 64 (by decide) wraps_u64 8 (by decide) (x / 1099511627776) (by omega) (by omega)
 have h2 : Go.bits .and .u64 (x / 1099511627776) 255 = (x / 1099511627776) % 256 := by simpa using h
 rw [h2, wrap_in (by omega) (by omega)]
 omega
theorem next_ok (l : List Int) (hl : Code l) (a s : Int) (h0 : 0 ≤ a) (h1 : a ≤ 1000000000000000) : ∃ x s', spec_l1Cur_next.f l a s = some (x, a + 1, s') ∧ 0 ≤ x ∧ x ≤ 255 := by
 unfold spec_l1Cur_next.f
 obtain ⟨r0, r1⟩ := hl.rd_in a
 rw [wrap_in (i := a + 1) (by omega) (by omega), wrap_in (i := rd l a) (by omega) (by omega)]
 split
 ·split
  ·exact ⟨_, _, rfl, r0, r1⟩
  ·exact ⟨_, _, rfl, low_byte _ (u64_range _).1 (u64_range _).2⟩
 ·split
  ·exact ⟨_, _, rfl, by omega, by omega⟩
  ·exact ⟨_, _, rfl, low_byte _ (u64_range _).1 (u64_range _).2⟩
theorem pick_ok (l : List Int) (hl : Code l) (a s n : Int) (h0 : 0 ≤ a) (h1 : a ≤ 100000000000000) : ∃ x a' s', spec_l1Cur_pick.f l a s n = some (x, a', s') ∧ 0 ≤ x ∧ (x = 0 ∨ x < n) ∧ a ≤ a' ∧ a' ≤ a + 2 := by
 unfold spec_l1Cur_pick.f
 by_cases hn : n ≤ 1
 ·rw [if_pos hn]; exact ⟨_, _, _, rfl, by omega, .inl rfl, by omega, by omega⟩
 ·rw [if_neg hn]
  obtain ⟨x, s1, e, x0, x1⟩ := next_ok l hl a s h0 (by omega)
  rw [e, Option.bind_some]
  dsimp only
  by_cases hm : n > 200
  ·rw [if_pos hm]
   obtain ⟨y, s2, e2, y0, y1⟩ := next_ok l hl (a + 1) s1 (by omega) (by omega)
   rw [e2, Option.bind_some, if_neg (by omega)]
   dsimp only
   rw [wrap_in (i := x * 256) (by omega) (by omega), wrap_in (by omega) (by omega), Int.tmod_eq_emod_of_nonneg (by omega)]
   exact ⟨_, _, _, rfl, Int.emod_nonneg _ (by omega), .inr (Int.emod_lt_of_pos _ (by omega)), by omega, by omega⟩
  ·rw [if_neg hm, if_neg (by omega), Int.tmod_eq_emod_of_nonneg x0]
   exact ⟨_, _, _, rfl, Int.emod_nonneg _ (by omega), .inr (Int.emod_lt_of_pos _ (by omega)), by omega, by omega⟩
theorem of_ok (l : List Int) (hl : Code l) (a s : Int) (t : List ByteArray) (ht : t ≠ []) (h0 : 0 ≤ a) (h1 : a ≤ 100000000000000) : ∃ x a' s', spec_l1Cur_of.f l a s t = some (x, a', s') ∧ x ∈ t ∧ a ≤ a' ∧ a' ≤ a + 2 := by
 unfold spec_l1Cur_of.f
 obtain ⟨x, a', s', e, x0, x1, b0, b1⟩ := pick_ok l hl a s (t.length : Int) h0 h1
 have hp : 0 < t.length := List.length_pos_iff.2 ht
 rw [e, Option.bind_some]
 dsimp only
 rw [if_pos x0, if_pos (by omega)]
 refine ⟨_, _, _, rfl, ?_, b0, b1⟩
 unfold rdOf
 have hx : x.toNat < t.length := by omega
 rw [List.getD_eq_getElem?_getD, List.getElem?_eq_getElem hx]
 exact List.getElem_mem hx
theorem one_ok (l : List Int) (hl : Code l) (a s n : Int) (h0 : 0 ≤ a) (h1 : a ≤ 100000000000000) : ∃ b a' s', spec_l1Cur_one.f l a s n = some (b, a', s') ∧ a ≤ a' ∧ a' ≤ a + 2 := by
 unfold spec_l1Cur_one.f
 obtain ⟨x, a', s', e, x0, x1, b0, b1⟩ := pick_ok l hl a s n h0 h1
 rw [e, Option.bind_some]
 exact ⟨_, _, _, rfl, b0, b1⟩
end Go.Proofs.YtgclcjohnnpejaaDoor.PureL
end

section
set_option linter.unusedVariables false
set_option linter.unusedSimpArgs false
namespace Go.Proofs.YtgclcjohnnpejaaDoor.PureL
open Go.RowKit Go.Proofs.YtgclcjohnnpejaaDoor.Pr Go.Proofs.YtgclcjohnnpejaaDoorW.PrintWords Go.Proofs.YtgclcjohnnpejaaDoorW.PrintLast
theorem rdA_bound : ∀ (m n : Nat) (t : List UInt8), t.length ≤ m → (rdA n t).2 ≤ 500 * (rdA n t).1.length := by
 intro m
 induction m with
 | zero =>
  intro n t h
  have : t = [] := List.eq_nil_of_length_eq_zero (by omega)
  subst this
  rw [rdA_none n [] (by simp)]
  simp
 | succ m ih =>
  intro n t h
  rw [rdA_eq]
  split
  ·rename_i h1
   have ht := up_aft h1.2.1
   have hl := congrArg List.length ht
   rw [List.length_append, List.length_cons] at hl
   have hi := ih (n + 1) (aftL t 10) (by omega)
   have hg := h1.2.2
   unfold goodI at hg
   simp only [Bool.and_eq_true, decide_eq_true_eq] at hg
   have he := enc_small (n : Int) _ _ (by omega) (by omega) hg.1
   rw [hg.2, List.length_append, List.length_singleton] at he
   dsimp only
   rw [List.length_cons]
   omega
  ·simp
theorem Valid.small {a b : ByteArray} {n : Int} (h : Valid a b n) : ((a.size + b.size : Nat) : Int) ≤ 500 * n := by
 obtain ⟨v1, v2, v3, v4⟩ := h
 have := rdA_bound _ 0 (L (a ++ b)) (Nat.le_refl _)
 omega
def cmds : List ByteArray := [(⟨#[114, 117, 110, 32, 48, 32, 49]⟩ : ByteArray), (⟨#[100, 114, 111, 112, 32, 48, 32, 49]⟩ : ByteArray), (⟨#[120]⟩ : ByteArray), (⟨#[102, 117, 101, 108, 32, 57]⟩ : ByteArray), (⟨#[48, 32, 49]⟩ : ByteArray)]
def reps : List ByteArray := [(⟨#[]⟩ : ByteArray), (⟨#[51]⟩ : ByteArray), (⟨#[63]⟩ : ByteArray), (⟨#[97, 64, 98]⟩ : ByteArray), (⟨#[51, 32, 49, 32, 50]⟩ : ByteArray)]
def badc : List ByteArray := [(⟨#[]⟩ : ByteArray), (⟨#[97, 64, 98]⟩ : ByteArray), (⟨#[97, 35]⟩ : ByteArray), (⟨#[10]⟩ : ByteArray), Go.strOfNums (List.replicate 3 0)]
def badr : List ByteArray := [(⟨#[35]⟩ : ByteArray), (⟨#[10]⟩ : ByteArray), (⟨#[127]⟩ : ByteArray)]
theorem cmds_s : ∀ x ∈ cmds, x.size ≤ 20 := by decide
theorem reps_s : ∀ x ∈ reps, x.size ≤ 20 := by decide
theorem badc_s : ∀ x ∈ badc, x.size ≤ 20 := by decide
theorem badr_s : ∀ x ∈ badr, x.size ≤ 20 := by decide
theorem logRecord_ok (l : List Int) (hl : Code l) (a s : Int) (h0 : 0 ≤ a) (h1 : a ≤ 10000000000000) : ∃ c r a' s', spec_l1Cur_logRecord.f l a s = some (c, r, a', s') ∧ c.size ≤ 20 ∧ r.size ≤ 20 ∧ a ≤ a' ∧ a' ≤ a + 8 := by
 unfold spec_l1Cur_logRecord.f
 obtain ⟨c, a1, s1, e1, m1, b1, b2⟩ := of_ok l hl a s cmds (by simp [cmds]) h0 (by omega)
 obtain ⟨r, a2, s2, e2, m2, b3, b4⟩ := of_ok l hl a1 s1 reps (by simp [reps]) (by omega) (by omega)
 obtain ⟨x, a3, s3, e3, x0, x1, b5, b6⟩ := pick_ok l hl a2 s2 24 (by omega) (by omega)
 obtain ⟨c', a4, s4, e4, m4, b7, b8⟩ := of_ok l hl a3 s3 badc (by simp [badc]) (by omega) (by omega)
 obtain ⟨r', a5, s5, e5, m5, b9, b10⟩ := of_ok l hl a3 s3 badr (by simp [badr]) (by omega) (by omega)
 unfold cmds at e1
 unfold reps at e2
 unfold badc at e4
 unfold badr at e5
 have q1 := cmds_s c m1
 have q2 := reps_s r m2
 have q4 := badc_s c' m4
 have q5 := badr_s r' m5
 rw [e1, Option.bind_some]
 dsimp only
 rw [e2, Option.bind_some]
 dsimp only
 rw [e3, Option.bind_some]
 dsimp only
 by_cases c0 : x = 0
 ·rw [if_pos c0, if_pos (by omega), e4, Option.bind_some]
  exact ⟨_, _, _, _, rfl, q4, q2, by dsimp only; omega, by dsimp only; omega⟩
 ·rw [if_neg c0]
  by_cases c1 : x = 1
  ·rw [if_pos c1, e5, Option.bind_some]
   exact ⟨_, _, _, _, rfl, q1, q5, by dsimp only; omega, by dsimp only; omega⟩
  ·rw [if_neg c1]
   exact ⟨_, _, _, _, rfl, q1, q2, by omega, by omega⟩
def Small (a b : ByteArray) (n : Int) : Prop := a.size + b.size ≤ 40000 ∧ 0 ≤ n ∧ n ≤ 1000
theorem log12_l (l : List Int) (hl : Code l) : ∀ (d : Nat) (x a s : Int) (D P : ByteArray) (n : Int), x ≤ d → x ≤ 10 → 0 ≤ a → a ≤ 1000000000000 - 100 * x → Small D P n →
  ∃ D' P' n' a' s', Small D' P' n' ∧ a ≤ a' ∧ a' ≤ a + 20 * d ∧ ∀ k, 60000000 + d < k → spec_l1Cur_log12.l0 k x l a s D P n = some (D', P', n', a', s') := by
 intro d
 induction d with
 | zero =>
  intro x a s D P n hx hx2 h0 h1 hs
  refine ⟨D, P, n, a, s, hs, by omega, by omega, fun k hk => ?_⟩
  obtain ⟨k, rfl⟩ : ∃ z, k = z + 1 := ⟨k - 1, by omega⟩
  unfold spec_l1Cur_log12.l0
  rw [if_neg (by omega)]
 | succ d ih =>
  intro x a s D P n hx hx2 h0 h1 hs
  by_cases hp : x > 0
  ·obtain ⟨c, r, a1, s1, e1, q1, q2, b1, b2⟩ := logRecord_ok l hl a s h0 (by omega)
   have hz1 : D.size ≤ 40000 := by have := hs.1; omega
   have hz2 : P.size ≤ 40000 := by have := hs.1; omega
   have hA := append_A D P n c r (by omega) (by omega) (by omega) (by omega)
   have hsm := appR_small D P n c r hs.1 hs.2
   generalize AppR D P n c r = R at hA hsm
   obtain ⟨p, q, m, e⟩ := R
   dsimp only at hsm
   obtain ⟨o, a2, s2, e2, b3, b4⟩ := one_ok l hl a1 s1 4 (by omega) (by omega)
   have hS := sync_A p q m (by omega) (by omega)
   cases o with
   | true =>
    have hsz : Small (if Valid p q m then (p ++ q, (⟨#[]⟩ : ByteArray), m, true) else (⟨#[]⟩, ⟨#[]⟩, 0, false)).1 (if Valid p q m then (p ++ q, (⟨#[]⟩ : ByteArray), m, true) else (⟨#[]⟩, ⟨#[]⟩, 0, false)).2.1 (if Valid p q m then (p ++ q, (⟨#[]⟩ : ByteArray), m, true) else (⟨#[]⟩, ⟨#[]⟩, 0, false)).2.2.1 := by
     split
     ·refine ⟨?_, hsm.2⟩
      dsimp only
      rw [size_add]
      exact hsm.1
     ·exact ⟨by decide, Int.le_refl 0, by decide⟩
    obtain ⟨D', P', n', a', s', w1, w2, w3, w4⟩ := ih (x - 1) a2 s2 _ _ _ (by omega) (by omega) (by omega) (by omega) hsz
    refine ⟨D', P', n', a', s', w1, by omega, by omega, fun k hk => ?_⟩
    obtain ⟨k, rfl⟩ : ∃ z, k = z + 1 := ⟨k - 1, by omega⟩
    unfold spec_l1Cur_log12.l0
    rw [if_pos hp, e1, Option.bind_some]
    dsimp only
    rw [(hA k (by omega)).1, Option.bind_some]
    dsimp only
    rw [e2, Option.bind_some, if_pos rfl, (hS k (by omega)).1, Option.bind_some, wrap_in (by omega) (by omega)]
    exact w4 k (by omega)
   | false =>
    obtain ⟨D', P', n', a', s', w1, w2, w3, w4⟩ := ih (x - 1) a2 s2 p q m (by omega) (by omega) (by omega) (by omega) hsm
    refine ⟨D', P', n', a', s', w1, by omega, by omega, fun k hk => ?_⟩
    obtain ⟨k, rfl⟩ : ∃ z, k = z + 1 := ⟨k - 1, by omega⟩
    unfold spec_l1Cur_log12.l0
    rw [if_pos hp, e1, Option.bind_some]
    dsimp only
    rw [(hA k (by omega)).1, Option.bind_some]
    dsimp only
    rw [e2, Option.bind_some, if_neg (by simp), wrap_in (by omega) (by omega)]
    exact w4 k (by omega)
  ·refine ⟨D, P, n, a, s, hs, by omega, by omega, fun k hk => ?_⟩
   obtain ⟨k, rfl⟩ : ∃ z, k = z + 1 := ⟨k - 1, by omega⟩
   unfold spec_l1Cur_log12.l0
   rw [if_neg hp]
theorem log12_ok (l : List Int) (hl : Code l) : ∃ D P n a s, Small D P n ∧ 0 ≤ a ∧ a ≤ 1000 ∧ ∀ k, 70000000 < k → spec_l1Cur_log12.f k l 0 0 = some (D, P, n, a, s) := by
 obtain ⟨x, a, s, e, x0, x1, b0, b1⟩ := pick_ok l hl 0 0 7 (by omega) (by omega)
 obtain ⟨D, P, n, a', s', h1, h2, h3, h4⟩ := log12_l l hl 7 x a s ⟨#[]⟩ ⟨#[]⟩ 0 (by omega) (by omega) (by omega) (by omega) ⟨by decide, by omega, by omega⟩
 refine ⟨D, P, n, a', s', h1, by omega, by omega, fun k hk => ?_⟩
 unfold spec_l1Cur_log12.f
 rw [e, Option.bind_some]
 exact h4 k (by omega)
end Go.Proofs.YtgclcjohnnpejaaDoor.PureL
end

section
namespace Go.Proofs.YtgclcjohnnpejaaDoor.Pr
open Go.RowKit Go.Proofs.YtgclcjohnnpejaaDoorW.PrintWords Go.Proofs.YtgclcjohnnpejaaDoorW.PrintLast Go.Proofs.YtgclcjohnnpejaaDoorW.PrintMore
attribute [local go_sem] max2_int min2_int max_two min_two max_three min_three max_four min_four
set_option linter.unusedVariables false
set_option linter.unusedSimpArgs false

end Go.Proofs.YtgclcjohnnpejaaDoor.Pr
end

section
set_option linter.unusedVariables false
set_option linter.unusedSimpArgs false
namespace Go.Proofs.YtgclcjohnnpejaaDoor.PureL
open Go.RowKit Go.Proofs.YtgclcjohnnpejaaDoor.Pr Go.Proofs.YtgclcjohnnpejaaDoorW.PrintWords Go.Proofs.YtgclcjohnnpejaaDoorW.PrintLast
theorem spoilt_ok (l : List Int) (hl : Code l) (a s : Int) (t w : ByteArray) (hw : 0 < w.size) (ht : t.size ≤ 1000000) (hw2 : w.size ≤ 1000) (h0 : 0 ≤ a) (h1 : a ≤ 1000000000000) :
  ∃ r a' s', spec_l1Cur_spoilt.f l a s t w = some (r, a', s') ∧ r.size ≤ t.size + 1 ∧ a ≤ a' ∧ a' ≤ a + 10 := by
 unfold spec_l1Cur_spoilt.f
 by_cases h : t.toList = []
 ·rw [if_pos h, if_pos (by omega), if_pos (by omega)]
  refine ⟨_, _, _, rfl, ?_, by omega, by omega⟩
  rw [ByteArray.size_extract]
  omega
 ·rw [if_neg h]
  have htp : 0 < t.size := by
   rw [size_L]
   rw [L_toList] at h
   exact List.length_pos_iff.2 h
  obtain ⟨i, a1, s1, e1, i0, i1, b1, b2⟩ := pick_ok l hl a s (t.size : Int) h0 (by omega)
  obtain ⟨j, a2, s2, e2, j0, j1, b3, b4⟩ := pick_ok l hl a1 s1 (w.size : Int) (by omega) (by omega)
  obtain ⟨x, a3, s3, e3, x0, x1, b5, b6⟩ := pick_ok l hl a2 s2 3 (by omega) (by omega)
  have hi : i < t.size := by omega
  have hj : j < w.size := by omega
  rw [e1, Option.bind_some]
  dsimp only
  rw [e2, Option.bind_some]
  dsimp only
  rw [if_pos j0, if_pos (by omega), if_pos (by omega), if_pos (by omega), e3, Option.bind_some]
  dsimp only
  have z1 : (t.extract 0 i.toNat).size = i.toNat := by rw [ByteArray.size_extract]; omega
  have z2 : ((w.extract j.toNat w.size).extract 0 1).size = 1 := by rw [ByteArray.size_extract, ByteArray.size_extract]; omega
  have z3 : (t.extract i.toNat t.size).size = t.size - i.toNat := by rw [ByteArray.size_extract]; omega
  have z4 : (t.extract (i + 1).toNat t.size).size = t.size - (i.toNat + 1) := by rw [ByteArray.size_extract]; omega
  by_cases c0 : x = 0
  ·rw [if_pos c0, if_pos i0, if_pos (by omega), z1, z2, if_pos (by omega), if_pos (by omega)]
   refine ⟨_, _, _, rfl, ?_, by omega, by omega⟩
   rw [size_add, size_add, z1, z2, z3]
   omega
  ·rw [if_neg c0]
   by_cases c1 : x = 1
   ·rw [if_pos c1, if_pos i0, if_pos (by omega), z1, z2, if_pos (by omega), wrap_in (by omega) (by omega), if_pos (by omega), if_pos (by omega), if_pos (by omega)]
    refine ⟨_, _, _, rfl, ?_, by omega, by omega⟩
    rw [size_add, size_add, z1, z2, z4]
    omega
   ·rw [if_neg c1, if_pos i0, if_pos (by omega), z1, wrap_in (by omega) (by omega), if_pos (by omega), if_pos (by omega), if_pos (by omega)]
    refine ⟨_, _, _, rfl, ?_, by omega, by omega⟩
    rw [size_add, z1, z4]
    omega
def Small2 (a b : ByteArray) (n : Int) : Prop := a.size ≤ 50000 ∧ b.size ≤ 50000 ∧ 0 ≤ n ∧ n ≤ 1001
theorem marks5 : 0 < (⟨#[35, 64, 10, 48, 49]⟩ : ByteArray).size ∧ (⟨#[35, 64, 10, 48, 49]⟩ : ByteArray).size ≤ 1000 := by decide
theorem anyLog_ok (l : List Int) (hl : Code l) : ∃ D P n a s, Small2 D P n ∧ 0 ≤ a ∧ a ≤ 2000 ∧ ∀ k, 70000000 < k → spec_l1Cur_anyLog.f k l 0 0 = some (D, P, n, a, s) := by
 obtain ⟨D, P, n, a, s, ⟨h1, h2, h3⟩, h4, h5, h6⟩ := log12_ok l hl
 obtain ⟨x, a1, s1, e1, x0, x1, b1, b2⟩ := pick_ok l hl a s 24 h4 (by omega)
 obtain ⟨r, a2, s2, e2, r1, b3, b4⟩ := spoilt_ok l hl a1 s1 P (⟨#[35, 64, 10, 48, 49]⟩ : ByteArray) marks5.1 (by omega) marks5.2 (by omega) (by omega)
 by_cases c0 : x = 0
 ·refine ⟨D, P, n + 1, a1, s1, ⟨by omega, by omega, by omega, by omega⟩, by omega, by omega, fun k hk => ?_⟩
  unfold spec_l1Cur_anyLog.f
  rw [h6 k hk, Option.bind_some]
  dsimp only
  rw [e1, Option.bind_some]
  dsimp only
  rw [if_pos c0, wrap_in (by omega) (by omega)]
 ·by_cases c1 : x = 1
  ·refine ⟨D, r, n, a2, s2, ⟨by omega, by omega, by omega, by omega⟩, by omega, by omega, fun k hk => ?_⟩
   unfold spec_l1Cur_anyLog.f
   rw [h6 k hk, Option.bind_some]
   dsimp only
   rw [e1, Option.bind_some]
   dsimp only
   rw [if_neg c0, if_pos c1, e2, Option.bind_some]
  ·by_cases c2 : x = 2
   ·refine ⟨D ++ P, P, n, a1, s1, ⟨by rw [size_add]; omega, by omega, by omega, by omega⟩, by omega, by omega, fun k hk => ?_⟩
    unfold spec_l1Cur_anyLog.f
    rw [h6 k hk, Option.bind_some]
    dsimp only
    rw [e1, Option.bind_some]
    dsimp only
    rw [if_neg c0, if_neg c1, if_pos c2, if_pos (by omega)]
   ·refine ⟨D, P, n, a1, s1, ⟨by omega, by omega, by omega, by omega⟩, by omega, by omega, fun k hk => ?_⟩
    unfold spec_l1Cur_anyLog.f
    rw [h6 k hk, Option.bind_some]
    dsimp only
    rw [e1, Option.bind_some]
    dsimp only
    rw [if_neg c0, if_neg c1, if_neg c2]
theorem vCut_ok (l : List Int) (hl : Code l) (n : Int) (hn : 0 ≤ n ∧ n ≤ 200) (hlen : l.length ≤ 70000) : ∃ m, Code m ∧ m.length ≤ 70001 ∧ ∀ k, 5 < k → laws_vCut.f k l n = some m := by
 have main : ∀ i : Int, 0 ≤ i → i ≤ (l.length : Int) → i ≤ 70000 → ∃ m, Code m ∧ m.length ≤ 70001 ∧ ∀ k, 4 < k → laws_vCut.j0 k l i = some m := by
  intro i h0 h1 h2
  refine ⟨([] ++ l.drop i.toNat) ++ [i % 256], ?_, by simp; omega, fun k hk => ?_⟩
  ·intro x hx
   simp only [List.nil_append, List.mem_append, List.mem_singleton] at hx
   rcases hx with h | h
   ·exact hl x (List.mem_of_mem_drop h)
   ·omega
  ·obtain ⟨k, rfl⟩ : ∃ z, k = z + 1 := ⟨k - 1, by omega⟩
   rw [laws_vCut.j0, Option.bind_some, if_pos h0, if_pos h1, if_pos (by simp; omega), Option.bind_some, if_pos (by simp; omega)]
 unfold laws_vCut.f
 by_cases c : n > (l.length : Int)
 ·obtain ⟨m, m1, m2, m3⟩ := main (l.length : Int) (by omega) (by omega) (by omega)
  exact ⟨m, m1, m2, fun k hk => by rw [if_pos c]; exact m3 k (by omega)⟩
 ·obtain ⟨m, m1, m2, m3⟩ := main n (by omega) (by omega) (by omega)
  exact ⟨m, m1, m2, fun k hk => by rw [if_neg c]; exact m3 k (by omega)⟩
end Go.Proofs.YtgclcjohnnpejaaDoor.PureL
end

section
set_option linter.unusedVariables false
set_option linter.unusedSimpArgs false
namespace Go.Proofs.YtgclcjohnnpejaaDoor.PureL
open Go.RowKit Go.Proofs.YtgclcjohnnpejaaDoor.Pr Go.Proofs.YtgclcjohnnpejaaDoorW.PrintWords Go.Proofs.YtgclcjohnnpejaaDoorW.PrintLast
theorem vRecords_l (l : List S38) (hl : l.length ≤ 60) : ∀ (d i : Nat), d + i = l.length → ∀ k, d < k → laws_vRecords.l0 k l l i = some true := by
 intro d
 induction d with
 | zero =>
  intro i hd k hk
  obtain ⟨k, rfl⟩ : ∃ n, k = n + 1 := ⟨k - 1, by omega⟩
  unfold laws_vRecords.l0
  rw [if_neg (by omega)]
 | succ d ih =>
  intro i hd k hk
  obtain ⟨k, rfl⟩ : ∃ n, k = n + 1 := ⟨k - 1, by omega⟩
  unfold laws_vRecords.l0
  rw [if_pos (by omega), if_pos (by omega), if_pos (by omega), if_neg (by simp), wrap_in (by omega) (by omega)]
  exact ih (i + 1) (by omega) k (by omega)
theorem vRecords_same (l : List S38) (hl : l.length ≤ 60) (k : Nat) (hk : 60 < k) : laws_vRecords.f k l l = some true := by
 unfold laws_vRecords.f
 rw [if_pos rfl]
 exact vRecords_l l hl l.length 0 (by omega) k (by omega)
end Go.Proofs.YtgclcjohnnpejaaDoor.PureL
end

section
set_option linter.unusedVariables false
set_option linter.unusedSimpArgs false
namespace Go.Proofs.YtgclcjohnnpejaaDoor.PureL
open Go.RowKit Go.Proofs.YtgclcjohnnpejaaDoor.Pr Go.Proofs.YtgclcjohnnpejaaDoorW.PrintWords Go.Proofs.YtgclcjohnnpejaaDoorW.PrintLast
theorem among_ok (l : List Int) (hl : Code l) (a s : Int) (t : List Int) (ht : t ≠ []) (h0 : 0 ≤ a) (h1 : a ≤ 100000000000000) : ∃ x a' s', spec_l1Cur_among.f l a s t = some (x, a', s') ∧ a ≤ a' ∧ a' ≤ a + 2 := by
 unfold spec_l1Cur_among.f
 obtain ⟨x, a', s', e, x0, x1, b0, b1⟩ := pick_ok l hl a s (t.length : Int) h0 h1
 have hp : 0 < t.length := List.length_pos_iff.2 ht
 rw [e, Option.bind_some]
 dsimp only
 rw [if_pos x0, if_pos (by omega)]
 exact ⟨_, _, _, rfl, b0, b1⟩
theorem drawIsValidRecord_ok (l : List Int) (hl : Code l) : ∃ c r, c.size ≤ 20 ∧ r.size ≤ 20 ∧ spec_DrawIsValidRecord.f l = some (c, r) := by
 obtain ⟨c, r, a, s, e, h1, h2, _, _⟩ := logRecord_ok l hl 0 0 (by omega) (by omega)
 refine ⟨c, r, h1, h2, ?_⟩
 unfold spec_DrawIsValidRecord.f
 rw [e, Option.bind_some]
theorem drawEncodeRecord_ok (l : List Int) (hl : Code l) : ∃ n c r, c.size ≤ 20 ∧ r.size ≤ 20 ∧ spec_DrawEncodeRecord.f l = some (n, c, r) := by
 obtain ⟨n, a, s, e, b1, b2⟩ := among_ok l hl 0 0 [0, 1, 12, 59, 60, (-1)] (by simp) (by omega) (by omega)
 obtain ⟨c, r, a2, s2, e2, h1, h2, _, _⟩ := logRecord_ok l hl a s (by omega) (by omega)
 refine ⟨n, c, r, h1, h2, ?_⟩
 unfold spec_DrawEncodeRecord.f
 rw [e, Option.bind_some]
 dsimp only
 rw [e2, Option.bind_some]
theorem drawIsValidLog_ok (l : List Int) (hl : Code l) : ∃ D P n, Small2 D P n ∧ ∀ k, 70000000 < k → spec_DrawIsValidLog.f k l = some (D, P, n) := by
 obtain ⟨D, P, n, a, s, h1, _, _, h4⟩ := anyLog_ok l hl
 refine ⟨D, P, n, h1, fun k hk => ?_⟩
 unfold spec_DrawIsValidLog.f
 rw [h4 k hk, Option.bind_some]
theorem drawAppend_l (l : List Int) (hl : Code l) : ∀ (d : Nat) (x a s : Int) (D P : ByteArray) (n : Int), x ≤ d → x ≤ 1000 → 0 ≤ a → a ≤ 1000000 → Small D P n →
  ∃ D' P' n' c r, Small D' P' n' ∧ c.size ≤ 20 ∧ r.size ≤ 20 ∧ ∀ k, 60000000 + d < k → spec_DrawAppendRecord.l0 k x l a s D P n = some (D', P', n', c, r) := by
 intro d
 have base : ∀ (x a s : Int) (D P : ByteArray) (n : Int), ¬ x > 0 → 0 ≤ a → a ≤ 1000000 → Small D P n →
   ∃ D' P' n' c r, Small D' P' n' ∧ c.size ≤ 20 ∧ r.size ≤ 20 ∧ ∀ k, 60000000 < k → spec_DrawAppendRecord.l0 k x l a s D P n = some (D', P', n', c, r) := by
  intro x a s D P n hx h0 h1 hs
  obtain ⟨c, r, a2, s2, e2, q1, q2, _, _⟩ := logRecord_ok l hl a s h0 (by omega)
  refine ⟨D, P, n, c, r, hs, q1, q2, fun k hk => ?_⟩
  obtain ⟨k, rfl⟩ : ∃ z, k = z + 1 := ⟨k - 1, by omega⟩
  unfold spec_DrawAppendRecord.l0
  rw [if_neg hx, e2, Option.bind_some]
 induction d with
 | zero =>
  intro x a s D P n hx hx2 h0 h1 hs
  obtain ⟨D', P', n', c, r, w1, w2, w3, w4⟩ := base x a s D P n (by omega) h0 h1 hs
  exact ⟨D', P', n', c, r, w1, w2, w3, fun k hk => w4 k (by omega)⟩
 | succ d ih =>
  intro x a s D P n hx hx2 h0 h1 hs
  by_cases hp : x > 0
  ·have hz1 : D.size ≤ 40000 := by have := hs.1; omega
   have hz2 : P.size ≤ 40000 := by have := hs.1; omega
   have hA := append_A D P n (⟨#[120]⟩ : ByteArray) (⟨#[]⟩ : ByteArray) (by omega) (by omega) (by decide) (by decide)
   have hsm := appR_small D P n (⟨#[120]⟩ : ByteArray) (⟨#[]⟩ : ByteArray) hs.1 hs.2
   generalize AppR D P n (⟨#[120]⟩ : ByteArray) (⟨#[]⟩ : ByteArray) = R at hA hsm
   obtain ⟨p, q, m, e⟩ := R
   dsimp only at hsm
   obtain ⟨D', P', n', c, r, w1, w2, w3, w4⟩ := ih (x - 1) a s p q m (by omega) (by omega) h0 h1 hsm
   refine ⟨D', P', n', c, r, w1, w2, w3, fun k hk => ?_⟩
   obtain ⟨k, rfl⟩ : ∃ z, k = z + 1 := ⟨k - 1, by omega⟩
   unfold spec_DrawAppendRecord.l0
   rw [if_pos hp, (hA k (by omega)).1, Option.bind_some, wrap_in (by omega) (by omega)]
   exact w4 k (by omega)
  ·obtain ⟨D', P', n', c, r, w1, w2, w3, w4⟩ := base x a s D P n hp h0 h1 hs
   exact ⟨D', P', n', c, r, w1, w2, w3, fun k hk => w4 k (by omega)⟩
theorem drawAppend_ok (l : List Int) (hl : Code l) : ∃ D P n c r, Small2 D P n ∧ c.size ≤ 20 ∧ r.size ≤ 20 ∧ ∀ k, 70000000 < k → spec_DrawAppendRecord.f k l = some (D, P, n, c, r) := by
 obtain ⟨D, P, n, a, s, h1, h2, h3, h4⟩ := anyLog_ok l hl
 obtain ⟨o, a2, s2, e2, b3, b4⟩ := one_ok l hl a s 40 h2 (by omega)
 obtain ⟨x, a1, s1, e1, x0, x1, b1, b2⟩ := pick_ok l hl a2 s2 2 (by omega) (by omega)
 obtain ⟨c, r, a3, s3, e3, q1, q2, _, _⟩ := logRecord_ok l hl a2 s2 (by omega) (by omega)
 cases o with
 | true =>
  obtain ⟨D', P', n', c', r', ⟨w0, w1⟩, w2, w3, w4⟩ := drawAppend_l l hl 61 (59 + x) a1 s1 ⟨#[]⟩ ⟨#[]⟩ 0 (by omega) (by omega) (by omega) (by omega) ⟨by decide, by omega, by omega⟩
  refine ⟨D', P', n', c', r', ⟨by omega, by omega, by omega, by omega⟩, w2, w3, fun k hk => ?_⟩
  unfold spec_DrawAppendRecord.f
  rw [h4 k hk, Option.bind_some]
  dsimp only
  rw [e2, Option.bind_some, if_pos rfl]
  dsimp only
  rw [e1, Option.bind_some, wrap_in (by omega) (by omega)]
  exact w4 k (by omega)
 | false =>
  refine ⟨D, P, n, c, r, h1, q1, q2, fun k hk => ?_⟩
  unfold spec_DrawAppendRecord.f
  rw [h4 k hk, Option.bind_some]
  dsimp only
  rw [e2, Option.bind_some, if_neg (by simp)]
  dsimp only
  rw [e3, Option.bind_some]
theorem synced_valid (a b : ByteArray) (n : Int) (h : Valid a b n) : Valid (a ++ b) ⟨#[]⟩ n ∧ (rdA 0 (L ((a ++ b) ++ ⟨#[]⟩))).1 = (rdA 0 (L (a ++ b))).1 := by
 obtain ⟨v1, v2, v3, v4⟩ := h
 have hL : L ((a ++ b) ++ ⟨#[]⟩) = L (a ++ b) := by rw [L_append]; exact List.append_nil _
 have e0 : (⟨#[]⟩ : ByteArray).size = 0 := rfl
 refine ⟨⟨?_, ?_, ?_, ?_⟩, ?_⟩
 ·rw [size_add, e0]; omega
 ·rw [hL, v2, size_add, e0, Nat.add_zero]
 ·rw [v2, size_add]
 ·rw [hL]; exact v4
 ·rw [hL]
theorem logs_j2 (D P : ByteArray) (n : Int) (c r : ByteArray) (hs : Small2 D P n) (hc : c.size ≤ 20) (hr : r.size ≤ 20) (k : Nat) (hk : 80000000 < k) :
  laws_FnLogs.j2 (k + 1) (AppR D P n c r).2.2.2 (if Valid D P n then ((rdA 0 (L (D ++ P))).1, true) else ([], false)).1 false D P n c r (AppR D P n c r).1 (AppR D P n c r).2.1 (AppR D P n c r).2.2.1 = some true := by
 obtain ⟨q1, q2, q3, q4⟩ := hs
 have base : ∀ st : Int, st ≠ 0 → laws_FnLogs.j2 (k + 1) st (if Valid D P n then ((rdA 0 (L (D ++ P))).1, true) else ([], false)).1 false D P n c r D P n = some true := by
  intro st hst
  rw [laws_FnLogs.j2, if_neg (by simp), if_neg hst]
  simp
 unfold AppR
 by_cases hv : Valid D P n ∧ validRec (L c) (L r) = true
 ·rw [if_pos hv]
  by_cases h60 : n = 60
  ·rw [if_pos h60]
   exact base 2 (by omega)
  ·rw [if_neg h60, if_pos hv.1]
   obtain ⟨n0, n1⟩ := hv.1.count
   have hsm := hv.1.small
   have hen := enc_small n (L c) (L r) n0 (by omega) hv.2
   obtain ⟨w1, w2⟩ := append_valid D P n c r hv.1 hv.2 h60 (by omega)
   have hez : (⟨(encL n (L c) (L r)).toArray⟩ : ByteArray).size = (encL n (L c) (L r)).length := B_size _
   have hpz : (P ++ ⟨(encL n (L c) (L r)).toArray⟩).size ≤ 1048576 := by rw [size_add, hez]; omega
   have g1 := (logRecords_A D (P ++ ⟨(encL n (L c) (L r)).toArray⟩) (n + 1) (by omega) hpz k (by omega)).2
   have g2 := (isValid_A D (P ++ ⟨(encL n (L c) (L r)).toArray⟩) (n + 1) (by omega) hpz k (by omega)).2
   rw [if_pos w1, w2] at g1
   rw [decide_eq_true w1] at g2
   have hln : (rdA 0 (L (D ++ P))).1.length ≤ 60 := by have := hv.1.2.2.2; omega
   generalize (rdA 0 (L (D ++ P))).1 = l at *
   dsimp only
   rw [laws_FnLogs.j2, if_neg (by simp), if_pos rfl, g1, Option.bind_some, g2, Option.bind_some, if_pos rfl]
   dsimp only
   have e1 : (l ++ [(⟨c, r⟩ : S38)]).length = l.length + 1 := by simp
   have e2 : (l ++ [(⟨c, r⟩ : S38)]).take ((l.length : Int) : Int).toNat = l := by rw [Int.toNat_natCast, List.take_left]
   have e3 : rd_T38 (l ++ [(⟨c, r⟩ : S38)]) (l.length : Int) = ⟨c, r⟩ := by
    unfold rd_T38
    rw [Int.toNat_natCast, List.getD_eq_getElem?_getD]
    simp
   rw [e1, wrap_in (by omega) (by omega), if_pos (by omega), if_pos (by omega), if_pos (by omega), e2, vRecords_same l hln k (by omega), Option.bind_some, if_pos rfl, if_pos (by omega), e3]
   simp
 ·rw [if_neg hv]
  exact base 1 (by omega)
theorem FnLogs (l0 : List Int) (hw : ∀ x ∈ l0, (Lit.int .u8 x).wf = true) : ∃ k, laws_FnLogs.f k l0 = some true := by
 have hl := Code.of_wf hw
 by_cases hbig : (l0.length : Int) > 65536
 ·refine ⟨0, ?_⟩
  unfold laws_FnLogs.f laws_vBig.f
  rw [decide_eq_true hbig, Option.bind_some, if_pos rfl]
 ·obtain ⟨c0, r0, hc0, hr0, hA⟩ := drawIsValidRecord_ok l0 hl
  obtain ⟨m1, hm1, _, hM1⟩ := vCut_ok l0 hl 1 (by omega) (by omega)
  obtain ⟨n1, c1, r1, hc1, hr1, hB⟩ := drawEncodeRecord_ok m1 hm1
  obtain ⟨m2, hm2, _, hM2⟩ := vCut_ok l0 hl 2 (by omega) (by omega)
  obtain ⟨D2, P2, n2, ⟨q1, q2, q3, q4⟩, hC⟩ := drawIsValidLog_ok m2 hm2
  obtain ⟨m3, hm3, _, hM3⟩ := vCut_ok l0 hl 3 (by omega) (by omega)
  obtain ⟨D, P, n, c, r, hs, hc, hr, hD⟩ := drawAppend_ok m3 hm3
  have hs' := hs
  obtain ⟨p1, p2, p3, p4⟩ := hs'
  obtain ⟨k, hk⟩ : ∃ k, 90000000 < k := ⟨_, Nat.lt_succ_self _⟩
  have main : laws_FnLogs.j0 (k + 1 + 1 + 1) (AppR D P n c r).2.2.2 false D P n c r (AppR D P n c r).1 (AppR D P n c r).2.1 (AppR D P n c r).2.2.1 = some true := by
   have s1 := sync_A D P n (by omega) (by omega) (k + 1 + 1) (by omega)
   have g1 := logRecords_A D P n (by omega) (by omega) (k + 1 + 1) (by omega)
   have hz : (if Valid D P n then ((rdA 0 (L (D ++ P))).1, true) else ([], false)).1.length ≤ 60 := by
    split
    ·rename_i h
     have := h.count
     have := h.2.2.2
     dsimp only
     omega
    ·decide
   have hj2 := logs_j2 D P n c r hs hc hr k (by omega)
   have n1 : ∀ x : Int, (x != x) = false := fun x => by simp
   have n2 : ∀ x : Bool, (x != x) = false := fun x => by simp
   rw [laws_FnLogs.j0, if_neg (by simp), s1.2, s1.1, g1.2, g1.1, Option.bind_some, Option.bind_some, Option.bind_some, Option.bind_some]
   rw [if_neg (by simp), if_neg (by simp), if_neg (by simp), vRecords_same _ hz _ (by omega), Option.bind_some]
   rw [laws_FnLogs.j1, if_neg (by simp)]
   by_cases hv : Valid D P n
   ·obtain ⟨u1, u2⟩ := synced_valid D P n hv
    have g2 := (logRecords_A (D ++ P) ⟨#[]⟩ n (by rw [size_add]; omega) (by decide) (k + 1) (by omega)).2
    rw [if_pos u1, u2] at g2
    rw [if_pos hv] at hj2 hz ⊢
    rw [if_pos hv]
    dsimp only at hj2 hz ⊢
    rw [g2, Option.bind_some, if_pos rfl, vRecords_same _ hz _ (by omega), Option.bind_some]
    exact hj2
   ·have g2 := (logRecords_A ⟨#[]⟩ ⟨#[]⟩ 0 (by decide) (by decide) (k + 1) (by omega)).2
    rw [if_neg hv] at hj2 ⊢
    rw [if_neg hv]
    dsimp only at hj2 ⊢
    rw [g2, Option.bind_some, if_neg (by simp)]
    exact hj2
  refine ⟨k + 1 + 1 + 1, ?_⟩
  have v0 : spec_IsValidRecord.f (k + 1 + 1 + 1) c0 r0 = some (validRec (L c0) (L r0)) := by
   unfold spec_IsValidRecord.f
   rw [spec_valid c0 r0 _ (by omega) (by omega) (by omega) (by omega), Option.bind_some]
  have v1 := impl_valid c0 r0 (k + 1 + 1 + 1) (by omega) (by omega) (by omega) (by omega)
  have w1 := spec_enc n1 c1 r1 (k + 1 + 1 + 1) (by omega) (by omega) (by omega)
  have w2 := impl_enc n1 c1 r1 (k + 1 + 1 + 1) (by omega) (by omega) (by omega)
  have i1 := isValid_A D2 P2 n2 (by omega) (by omega) (k + 1 + 1 + 1) (by omega)
  have a1 := append_A D P n c r (by omega) (by omega) (by omega) (by omega) (k + 1 + 1 + 1) (by omega)
  have n1 : ∀ x : Int, (x != x) = false := fun x => by simp
  unfold laws_FnLogs.f laws_vBig.f
  rw [decide_eq_false hbig, Option.bind_some, if_neg (by simp), hA, Option.bind_some, hM1 _ (by omega), Option.bind_some, hB, Option.bind_some]
  dsimp only
  rw [w1, w2, Option.bind_some, Option.bind_some, hM2 _ (by omega), Option.bind_some, hC _ (by omega), Option.bind_some, hM3 _ (by omega), Option.bind_some, hD _ (by omega), Option.bind_some]
  dsimp only
  rw [a1.1, a1.2, Option.bind_some, Option.bind_some, v0, v1, Option.bind_some, Option.bind_some, if_neg (by simp), if_pos rfl, if_neg (by simp), i1.1, i1.2, Option.bind_some, Option.bind_some, if_neg (by simp), if_neg (by simp), n1]
  exact main
end Go.Proofs.YtgclcjohnnpejaaDoor.PureL
end
