-- texts of this session, and of the kit's print, cut to what the claim leans on
import Derived.Test.YtgclcjohnnpejaaDoorMk5
import Derived.Test.YtgclcjohnnpejaaDoorMk4
section
namespace Go.Proofs.YtgclcjohnnpejaaDoor.PureL
open Go.RowKit Go.Proofs.YtgclcjohnnpejaaDoor.Pr Go.Proofs.YtgclcjohnnpejaaDoorW.PrintWords Go.Proofs.YtgclcjohnnpejaaDoorW.PrintLast
set_option linter.unusedSimpArgs false
set_option linter.unusedVariables false
def upL (l : List UInt8) (c : UInt8) : List UInt8 := l.takeWhile (· != c)
def aftL (l : List UInt8) (c : UInt8) : List UInt8 := (l.dropWhile (· != c)).tail
theorem up_no {l : List UInt8} {c : UInt8} (h : c ∉ l) : upL l c = l := by
  unfold upL
  induction l with
  | nil => rfl
  | cons b l ih =>
    have hb : (b != c) = true := by simp only [bne_iff_ne, ne_eq]; rintro rfl; exact h (List.mem_cons_self ..)
    rw [List.takeWhile_cons, if_pos hb, ih (fun hm => h (List.mem_cons_of_mem _ hm))]
theorem drop_no {l : List UInt8} {c : UInt8} (h : c ∉ l) : l.dropWhile (· != c) = [] := by
  induction l with
  | nil => rfl
  | cons b l ih =>
    have hb : (b != c) = true := by simp only [bne_iff_ne, ne_eq]; rintro rfl; exact h (List.mem_cons_self ..)
    rw [List.dropWhile_cons, if_pos hb, ih (fun hm => h (List.mem_cons_of_mem _ hm))]
theorem up_mid {l r : List UInt8} {c : UInt8} (h : c ∉ l) : upL (l ++ c :: r) c = l := by
  unfold upL
  induction l with
  | nil => simp
  | cons b l ih =>
    have hb : (b != c) = true := by simp only [bne_iff_ne, ne_eq]; rintro rfl; exact h (List.mem_cons_self ..)
    rw [List.cons_append, List.takeWhile_cons, if_pos hb, ih (fun hm => h (List.mem_cons_of_mem _ hm))]
theorem aft_mid {l r : List UInt8} {c : UInt8} (h : c ∉ l) : aftL (l ++ c :: r) c = r := by
  unfold aftL
  induction l with
  | nil => simp
  | cons b l ih =>
    have hb : (b != c) = true := by simp only [bne_iff_ne, ne_eq]; rintro rfl; exact h (List.mem_cons_self ..)
    rw [List.cons_append, List.dropWhile_cons, if_pos hb, ih (fun hm => h (List.mem_cons_of_mem _ hm))]
theorem cutAt_eq (l : List UInt8) (c : UInt8) : cutAt l c = (upL l c, aftL l c, decide (c ∈ l)) := by
  unfold cutAt
  by_cases h : c ∈ l
  · rw [if_pos h, decide_eq_true h]; rfl
  · rw [if_neg h, up_no h, decide_eq_false h]
    unfold aftL
    rw [drop_no h]
    rfl
theorem up_len (l : List UInt8) (c : UInt8) : (upL l c).length ≤ l.length := by
  have := (List.takeWhile_prefix (· != c) (l := l)).length_le
  exact this
theorem no_tw : ∀ (l : List UInt8) (c : UInt8), c ∉ l.takeWhile (· != c)
  | [], c => by simp
  | b :: l, c => by
    by_cases hb : (b != c) = true
    · rw [List.takeWhile_cons, if_pos hb, List.mem_cons, not_or]
      exact ⟨fun e => by rw [e] at hb; simp at hb, no_tw l c⟩
    · rw [List.takeWhile_cons, if_neg hb]; simp
theorem up_lt {l : List UInt8} {c : UInt8} (h : c ∈ l) : (upL l c).length < l.length := by
  have h1 := List.takeWhile_append_dropWhile (p := (· != c)) (l := l)
  have h2 : l.dropWhile (· != c) ≠ [] := fun e => by
    have : c ∈ l.takeWhile (· != c) := by rw [e, List.append_nil] at h1; rw [h1]; exact h
    exact no_tw l c this
  have h3 := congrArg List.length h1
  rw [List.length_append] at h3
  have := List.length_pos_iff.2 h2
  unfold upL
  omega
theorem aft_len (l : List UInt8) (c : UInt8) : (aftL l c).length ≤ l.length := by
  unfold aftL
  have h1 := (List.dropWhile_suffix (· != c) (l := l)).length_le
  rw [List.length_tail]
  omega
theorem cut_f (s : ByteArray) (c : UInt8) (hs : s.size < 4294967281) : strings_Cut.f s (⟨#[c]⟩ : ByteArray) = some (⟨(upL (L s) c).toArray⟩, ⟨(aftL (L s) c).toArray⟩, decide (c ∈ L s)) := by
  unfold strings_Cut.f
  rw [if_pos ⟨rfl, hs⟩]
  have e : ((⟨#[c]⟩ : ByteArray).data.toList.headD 0) = c := rfl
  rw [e, cutAt_eq]
theorem split_l0 (s : ByteArray) (c : UInt8) (hs : s.size ≤ 1000000000000) : ∀ (l : List UInt8) (acc : List ByteArray) (fr i k : Nat), (L s).drop i = l → fr ≤ i → i ≤ s.size → acc.length ≤ i → l.length < k →
    ∃ q qs, spec_l1Split.l0 k s (c.toNat : Int) acc (fr : Int) (i : Int) = some (acc ++ q :: qs) ∧ qs.length = l.count c ∧ L q = ((L s).drop fr).take (i - fr) ++ upL l c
  | [], acc, fr, i, k, h, hf, hi, ha, hk => by
    obtain ⟨k, rfl⟩ : ∃ m, k = m + 1 := ⟨k - 1, by omega⟩
    have hsz := drop_nil_iff.1 h
    have hi' : i = s.size := by omega
    simp only [spec_l1Split.l0]
    rw [if_neg (by omega), if_pos (by omega), if_pos (by omega), if_pos (by omega)]
    refine ⟨_, [], rfl, rfl, ?_⟩
    rw [L_extract, Int.toNat_natCast, hi', size_L]
    simp [upL]
  | b :: l, acc, fr, i, k, h, hf, hi, ha, hk => by
    obtain ⟨k, rfl⟩ : ∃ m, k = m + 1 := ⟨k - 1, by omega⟩
    obtain ⟨e1, e2, e3⟩ := bt_drop h
    simp only [List.length_cons] at hk
    simp only [spec_l1Split.l0]
    rw [if_pos (by omega), if_pos (by omega), e1]
    by_cases e : b = c
    · subst e
      rw [if_pos rfl, if_pos (by omega), if_pos (by omega), if_pos (by omega), if_pos (by omega), wrap_up (n := s.size) (by omega) (by omega) (by omega), show ((i : Int) + 1) = ((i + 1 : Nat) : Int) from by omega]
      obtain ⟨q, qs, h1, h2, _⟩ := split_l0 s b hs l (acc ++ [s.extract (fr : Int).toNat (i : Int).toNat]) (i + 1) (i + 1) k e2 (by omega) (by omega) (by simp; omega) (by omega)
      refine ⟨s.extract fr i, q :: qs, ?_, by simp [h2], ?_⟩
      · rw [h1]; simp
      · rw [L_extract]; simp [upL]
    · rw [if_neg (fun hh => e ((byte_eq _ _).1 hh)), wrap_up (n := s.size) (by omega) (by omega) (by omega), show ((i : Int) + 1) = ((i + 1 : Nat) : Int) from by omega]
      obtain ⟨q, qs, h1, h2, h3⟩ := split_l0 s c hs l acc fr (i + 1) k e2 (by omega) (by omega) (by omega) (by omega)
      refine ⟨q, qs, h1, by rw [h2, List.count_cons]; simp [e], ?_⟩
      rw [h3]
      have hb : (b != c) = true := by simpa using e
      have hup : upL (b :: l) c = b :: upL l c := by unfold upL; rw [List.takeWhile_cons, if_pos hb]
      rw [hup]
      have hlen : i - fr < ((L s).drop fr).length := by rw [List.length_drop, ← size_L]; omega
      have hget : ((L s).drop fr)[i - fr]'hlen = b := by
        rw [List.getElem_drop]
        have hi2 : i < (L s).length := by rw [← size_L]; exact e3
        have := List.drop_eq_getElem_cons hi2
        rw [h] at this
        injection this with t1 _
        rw [t1]
        congr 1
        omega
      rw [show i + 1 - fr = (i - fr) + 1 from by omega, List.take_succ_eq_append_getElem hlen, hget]
      simp
theorem split_f (s : ByteArray) (c : UInt8) (k : Nat) (hs : s.size ≤ 1000000000000) (hk : s.size < k) :
    ∃ q qs, spec_l1Split.f k s (c.toNat : Int) = some (q :: qs) ∧ qs.length = (L s).count c ∧ L q = upL (L s) c := by
  obtain ⟨q, qs, h1, h2, h3⟩ := split_l0 s c hs (L s) [] 0 0 k rfl (by omega) (by omega) (by simp) (by rw [← size_L]; exact hk)
  exact ⟨q, qs, h1, h2, by simpa using h3⟩
def decI (_n : Nat) (line : List UInt8) : List UInt8 × List UInt8 := (upL (aftL (upL line 35) 32) 64, aftL (aftL (upL line 35) 32) 64)
def goodI (n : Nat) (line : List UInt8) : Bool := validRec (decI n line).1 (decI n line).2 && decide (encL n (decI n line).1 (decI n line).2 = line ++ [10])
theorem no_in_itoa {n : Nat} {b : UInt8} (h : b.toNat < 48) : b ∉ Lib.itoa (n : Int) := fun hm => by have := itoa_dig (n := (n : Int)) (by omega) b hm; omega
theorem enc_cuts {n : Nat} {c r line : List UInt8} (hv : validRec c r = true) (he : encL n c r = line ++ [10]) :
    upL line 35 = textL n c r ∧ aftL (textL n c r) 32 = c ++ 64 :: r ∧ upL (c ++ 64 :: r) 64 = c ∧ aftL (c ++ 64 :: r) 64 = r := by
  have hl : sealL (textL n c r) = line := by
    unfold encL at he
    exact (List.append_inj' he rfl).1
  have h35 := text_no35 (n := (n : Int)) (by omega) hv
  obtain ⟨_, _, _, h64, _, _⟩ := valid_parts hv
  refine ⟨?_, ?_, up_mid h64, aft_mid h64⟩
  · rw [← hl]
    unfold sealL
    rw [List.append_assoc]
    exact up_mid h35
  · unfold textL
    rw [show Lib.itoa (n : Int) ++ [32] ++ c ++ [64] ++ r = Lib.itoa (n : Int) ++ 32 :: (c ++ 64 :: r) from by simp]
    exact aft_mid (no_in_itoa (by decide))
theorem goodI_of {n : Nat} {c r line : List UInt8} (hv : validRec c r = true) (he : encL n c r = line ++ [10]) : goodI n line = true ∧ decI n line = (c, r) := by
  obtain ⟨h1, h2, h3, h4⟩ := enc_cuts hv he
  have hd : decI n line = (c, r) := by unfold decI; rw [h1, h2, h3, h4]
  refine ⟨?_, hd⟩
  unfold goodI
  rw [hd, hv, decide_eq_true he]
  rfl
theorem decode_f (n : Nat) (line : ByteArray) (k : Nat) (hn : n < 60) (hs : line.size ≤ 100000000000) (hk : 2000100 + 2 * line.size < k) :
    ∃ c r, spec_l12Decode.f k line (n : Int) = some (c, r, goodI n (L line)) ∧ (goodI n (L line) = true → (L c, L r) = decI n (L line)) := by
  obtain ⟨k, rfl⟩ : ∃ m, k = m + 1 := ⟨k - 1, by omega⟩
  have hi := itoa_small (n := (n : Int)) (by omega) (by omega)
  obtain ⟨q, qs, h1, h2, h3⟩ := split_f line 35 (k + 1) (by omega) (by omega)
  have hq : q.size ≤ line.size := by rw [size_L, h3, size_L]; exact up_len _ _
  unfold spec_l12Decode.f
  rw [num_eq (n : Int) (k + 1) (by omega) (by omega) (by omega), Option.bind_some, B_size, if_pos (by omega), show (35 : Int) = ((35 : UInt8).toNat : Int) from rfl, h1, Option.bind_some, if_pos (by simp)]
  have hrd : rdOf ByteArray.empty (q :: qs) 0 = q := rfl
  rw [hrd]
  have bad : goodI n (L line) = false → ∀ c r, validRec c r = true → encL n c r = L line ++ [10] → False := fun hb c r hv he => by rw [(goodI_of hv he).1] at hb; cases hb
  have ahead : ((⟨(Lib.itoa (n : Int)).toArray⟩ : ByteArray) ++ (⟨#[32]⟩ : ByteArray)) = ⟨(Lib.itoa (n : Int) ++ [32]).toArray⟩ := by apply ext_L; rw [L_append]
  have nohead : ¬ (Lib.itoa (n : Int) ++ [32]) <+: L q → goodI n (L line) = false := fun hp => by
    cases hg : goodI n (L line) with
    | false => rfl
    | true =>
      unfold goodI at hg
      simp only [Bool.and_eq_true, decide_eq_true_eq] at hg
      obtain ⟨e1, _⟩ := enc_cuts hg.1 hg.2
      refine absurd ?_ hp
      rw [h3, e1]
      unfold textL
      exact ⟨(decI n (L line)).1 ++ 64 :: (decI n (L line)).2, by simp⟩
  by_cases hlt : ((q.size : Int)) < (((Lib.itoa (n : Int)).length : Int) + 1)
  · rw [if_pos hlt]
    simp only [spec_l12Decode.j0]
    rw [if_pos trivial]
    have hg := nohead (fun hp => by
      have := hp.length_le
      rw [List.length_append, List.length_singleton, ← size_L] at this
      omega)
    exact ⟨_, _, by rw [hg], fun h => by rw [hg] at h; cases h⟩
  · rw [if_neg hlt, if_pos (by omega), if_pos (by omega), ahead]
    have htk : (q.extract 0 ((((Lib.itoa (n : Int)).length : Int) + 1) : Int).toNat).toList = (L q).take ((Lib.itoa (n : Int)).length + 1) := by
      rw [L_toList, L_extract]
      simp only [List.drop_zero, Nat.sub_zero]
      congr 1
    rw [htk, L_toList, L_mk (Lib.itoa (n : Int) ++ [32])]
    by_cases hp : (L q).take ((Lib.itoa (n : Int)).length + 1) = Lib.itoa (n : Int) ++ [32]
    · rw [show ((L q).take ((Lib.itoa (n : Int)).length + 1) != Lib.itoa (n : Int) ++ [32]) = false from by rw [bne_eq_false_iff_eq]; exact hp]
      simp only [spec_l12Decode.j0]
      have hsz : (⟨(Lib.itoa (n : Int) ++ [32]).toArray⟩ : ByteArray).size = (Lib.itoa (n : Int)).length + 1 := by rw [B_size]; simp
      rw [if_neg (by simp), hsz, if_pos (by omega), if_pos (by omega)]
      generalize hrest : q.extract ((Lib.itoa (n : Int)).length + 1) q.size = rest
      have hL : L rest = (L q).drop ((Lib.itoa (n : Int)).length + 1) := by
        rw [← hrest, L_extract, size_L]
        exact List.take_of_length_le (by simp)
      have hrs : rest.size = q.size - ((Lib.itoa (n : Int)).length + 1) := by rw [size_L, hL, List.length_drop, ← size_L]
      have hqq : L q = Lib.itoa (n : Int) ++ 32 :: L rest := by
        have := List.take_append_drop ((Lib.itoa (n : Int)).length + 1) (L q)
        rw [hp, ← hL] at this
        rw [← this]
        simp
      obtain ⟨p, ps, g1, g2, g3⟩ := split_f rest 64 k (by omega) (by omega)
      have hpr : p.size ≤ rest.size := by rw [size_L, g3, size_L]; exact up_len _ _
      rw [show (64 : Int) = ((64 : UInt8).toNat : Int) from rfl, g1, Option.bind_some, if_pos (by simp)]
      have hrd2 : rdOf ByteArray.empty (p :: ps) 0 = p := rfl
      rw [hrd2]
      have hdec : aftL (upL (L line) 35) 32 = L rest := by rw [← h3, hqq]; exact aft_mid (no_in_itoa (by decide))
      have hdI : decI n (L line) = (upL (L rest) 64, aftL (L rest) 64) := by unfold decI; rw [hdec]
      by_cases hm : (64 : UInt8) ∈ L rest
      · have hlt2 : p.size < rest.size := by rw [size_L, g3, size_L]; exact up_lt hm
        rw [if_neg (by omega), wrap_in (by omega) (by omega), if_pos (by omega), if_pos (by omega)]
        have hrest2 : rest.extract (((p.size : Int) + 1) : Int).toNat (q.size - ((Lib.itoa (n : Int)).length + 1)) = ⟨(aftL (L rest) 64).toArray⟩ := by
          apply ext_L
          rw [← hrs, L_extract, size_L rest, List.take_of_length_le (by simp), show (((p.size : Int) + 1) : Int).toNat = p.size + 1 from by omega, size_L p, g3]
          unfold aftL upL
          rw [← drop_takeWhile, List.tail_drop]
        rw [hrest2]
        have hc : L p = (decI n (L line)).1 := by rw [hdI, g3]
        have hr : aftL (L rest) 64 = (decI n (L line)).2 := by rw [hdI]
        have hasz : (⟨(aftL (L rest) 64).toArray⟩ : ByteArray).size ≤ rest.size := by rw [B_size, size_L]; exact aft_len _ _
        rw [spec_valid p _ k (by omega) (by omega) (by omega) (by omega), Option.bind_some, L_mk (aftL (L rest) 64), hc, hr]
        by_cases hv : validRec (decI n (L line)).1 (decI n (L line)).2 = true
        · rw [if_pos hv, spec_line (n : Int) p _ k (by omega) (by omega) (by omega) (by rw [← hr]; omega) (by rw [← hr]; omega), Option.bind_some, if_pos (by omega)]
          refine ⟨p, ⟨(decI n (L line)).2.toArray⟩, ?_, fun _ => Prod.ext hc rfl⟩
          refine congrArg some (Prod.ext rfl (Prod.ext rfl ?_))
          show (_ == _) = goodI n (L line)
          unfold goodI
          rw [hv, Bool.true_and, L_toList, L_toList, L_append, hc, L_mk (decI n (L line)).2, Bool.eq_iff_iff, beq_iff_eq, decide_eq_true_eq]
        · rw [if_neg hv]
          have hg : goodI n (L line) = false := by unfold goodI; rw [show validRec (decI n (L line)).1 (decI n (L line)).2 = false from by simpa using hv]; rfl
          exact ⟨_, _, by rw [hg], fun h => by rw [hg] at h; cases h⟩
      · have hpe : p.size = rest.size := by rw [size_L, g3, up_no hm, size_L]
        rw [if_pos (by omega)]
        have hg : goodI n (L line) = false := by
          cases hg : goodI n (L line) with
          | false => rfl
          | true =>
            unfold goodI at hg
            simp only [Bool.and_eq_true, decide_eq_true_eq] at hg
            obtain ⟨e1, e2, _⟩ := enc_cuts hg.1 hg.2
            rw [e1] at hdec
            rw [e2] at hdec
            refine absurd ?_ hm
            rw [← hdec]
            simp
        exact ⟨_, _, by rw [hg], fun h => by rw [hg] at h; cases h⟩
    · rw [show ((L q).take ((Lib.itoa (n : Int)).length + 1) != Lib.itoa (n : Int) ++ [32]) = true from by rw [bne_iff_ne]; exact hp]
      simp only [spec_l12Decode.j0]
      rw [if_pos trivial]
      have hg := nohead (fun hpre => hp (by
        have := List.prefix_iff_eq_take.1 hpre
        rw [List.length_append, List.length_singleton] at this
        exact this.symm))
      exact ⟨_, _, by rw [hg], fun h => by rw [hg] at h; cases h⟩
theorem open_eq (s : ByteArray) (hs : s.size ≤ 2000000) : ∀ (d i : Nat) (acc : List S38), i ≤ s.size → s.size - i ≤ d →
    ∃ (l : List S38) (n : Nat), n ≤ s.size ∧ (l.length ≤ 60 ∨ l = acc) ∧ ∀ k, 9000000 + 2 * d < k → impl_readRecords.l0 k s acc (i : Int) = some (l, (n : Int)) ∧ spec_l12Open.l0 k s acc (i : Int) = some (l, (n : Int)) := by
  intro d
  induction d with
  | zero =>
    intro i acc hi hd
    have hie : i = s.size := by omega
    refine ⟨acc, i, hi, .inr rfl, fun k hk => ?_⟩
    obtain ⟨k, rfl⟩ : ∃ m, k = m + 2 := ⟨k - 2, by omega⟩
    constructor
    · simp only [impl_readRecords.l0]
      by_cases h60 : (acc.length : Int) < 60
      · have he : L (s.extract i s.size) = [] := by rw [L_extract, hie, size_L]; simp
        have hez : (s.extract i s.size).size = 0 := by rw [size_L, he]; rfl
        rw [if_pos h60, if_pos (by omega), if_pos (by omega), Int.toNat_natCast, cut_f _ 10 (by omega), Option.bind_some, he]
        simp only [upL, aftL, List.takeWhile_nil, List.dropWhile_nil, List.tail_nil]
        rw [cut_f _ 35 (by rw [B_size]; decide), Option.bind_some, L_mk]
        simp only [upL, aftL, List.takeWhile_nil, List.dropWhile_nil, List.tail_nil]
        rw [cut_f _ 32 (by rw [B_size]; decide), Option.bind_some, L_mk]
        simp only [upL, aftL, List.takeWhile_nil, List.dropWhile_nil, List.tail_nil]
        rw [cut_f _ 64 (by rw [B_size]; decide), Option.bind_some, L_mk]
        simp only [upL, aftL, List.takeWhile_nil, List.dropWhile_nil, List.tail_nil]
        rw [impl_enc _ _ _ _ (by rw [B_size]; decide) (by rw [B_size]; decide) (by rw [B_size]; simp; omega), Option.bind_some, if_neg (by simp)]
      · rw [if_neg h60]
    · simp only [spec_l12Open.l0]
      rw [if_neg (by omega)]
      simp only [spec_l12Open.j1]
      rw [if_neg (by simp)]
  | succ d ih =>
    intro i acc hi hd
    by_cases h60 : (acc.length : Int) < 60
    · generalize hx : s.extract i s.size = x
      have hLx : L x = (L s).drop i := by rw [← hx, L_extract, size_L]; exact List.take_of_length_le (by simp)
      have hxs : x.size = s.size - i := by rw [size_L, hLx, List.length_drop, ← size_L]
      generalize hline : (⟨(upL (L x) 10).toArray⟩ : ByteArray) = line
      have hLl : L line = upL (L x) 10 := by rw [← hline]
      have hls : line.size ≤ x.size := by rw [size_L, hLl, size_L]; exact up_len _ _
      have hal : acc.length < 60 := by omega
      have hb : (⟨(upL (L line) 35).toArray⟩ : ByteArray).size ≤ line.size := by rw [B_size, size_L]; exact up_len _ _
      have hr : (⟨(aftL (upL (L line) 35) 32).toArray⟩ : ByteArray).size ≤ line.size := by rw [B_size]; have := aft_len (upL (L line) 35) 32; have h2 := up_len (L line) 35; rw [size_L]; omega
      have hc : (⟨(upL (aftL (upL (L line) 35) 32) 64).toArray⟩ : ByteArray).size ≤ line.size := by rw [B_size] at hr ⊢; have := up_len (aftL (upL (L line) 35) 32) 64; omega
      have hrp : (⟨(aftL (aftL (upL (L line) 35) 32) 64).toArray⟩ : ByteArray).size ≤ line.size := by rw [B_size] at hr ⊢; have := aft_len (aftL (upL (L line) 35) 32) 64; omega
      have impl_step : ∀ k, 9000000 < k → impl_readRecords.l0 (k + 1) s acc (i : Int) =
          if (10 : UInt8) ∈ L x ∧ goodI acc.length (L line) = true then impl_readRecords.l0 k s (acc ++ [⟨⟨(decI acc.length (L line)).1.toArray⟩, ⟨(decI acc.length (L line)).2.toArray⟩⟩]) ((i + line.size + 1 : Nat) : Int) else some (acc, (i : Int)) := by
        intro k hk
        simp only [impl_readRecords.l0]
        rw [if_pos h60, if_pos (by omega), if_pos (by omega), Int.toNat_natCast, hx, cut_f x 10 (by omega), Option.bind_some, hline]
        dsimp only
        rw [cut_f line 35 (by omega), Option.bind_some]
        dsimp only
        rw [cut_f _ 32 (by omega), Option.bind_some, L_mk (upL (L line) 35)]
        dsimp only
        rw [cut_f _ 64 (by omega), Option.bind_some, L_mk (aftL (upL (L line) 35) 32)]
        dsimp only
        rw [impl_enc _ _ _ _ (by omega) (by omega) (by omega), Option.bind_some]
        by_cases hm : (10 : UInt8) ∈ L x
        · rw [if_pos (by simpa using hm)]
          by_cases hv : validRec (upL (aftL (upL (L line) 35) 32) 64) (aftL (aftL (upL (L line) 35) 32) 64) = true
          · have henc : encR (acc.length : Int) ⟨(upL (aftL (upL (L line) 35) 32) 64).toArray⟩ ⟨(aftL (aftL (upL (L line) 35) 32) 64).toArray⟩ = (⟨(encL (acc.length : Int) (upL (aftL (upL (L line) 35) 32) 64) (aftL (aftL (upL (L line) 35) 32) 64)).toArray⟩, true) := by
              unfold encR
              rw [L_mk (upL (aftL (upL (L line) 35) 32) 64), L_mk (aftL (aftL (upL (L line) 35) 32) 64), if_pos ⟨by omega, by omega, hv⟩]
            rw [henc]
            dsimp only
            rw [if_pos rfl, if_pos (by omega), L_toList, L_toList, L_append, L_mk (encL (acc.length : Int) (upL (aftL (upL (L line) 35) 32) 64) (aftL (aftL (upL (L line) 35) 32) 64)), L_mk [10]]
            by_cases he : encL (acc.length : Int) (upL (aftL (upL (L line) 35) 32) 64) (aftL (aftL (upL (L line) 35) 32) 64) = L line ++ [10]
            · rw [if_pos he, if_pos (by omega), if_pos ⟨hm, (goodI_of hv he).1⟩, wrap_in (i := (i : Int) + (line.size : Int)) (by omega) (by omega), wrap_in (by omega) (by omega)]
              rfl
            · rw [if_neg he, if_neg (fun h => he (by
                have h2 := h.2
                unfold goodI decI at h2
                simp only [Bool.and_eq_true, decide_eq_true_eq] at h2
                exact h2.2))]
          · have henc : encR (acc.length : Int) ⟨(upL (aftL (upL (L line) 35) 32) 64).toArray⟩ ⟨(aftL (aftL (upL (L line) 35) 32) 64).toArray⟩ = (⟨#[]⟩, false) := by
              unfold encR
              rw [L_mk (upL (aftL (upL (L line) 35) 32) 64), L_mk (aftL (aftL (upL (L line) 35) 32) 64), if_neg (fun h => hv h.2.2)]
            rw [henc]
            dsimp only
            rw [if_neg (by simp), if_neg (fun h => hv (by
              have h2 := h.2
              unfold goodI decI at h2
              simp only [Bool.and_eq_true, decide_eq_true_eq] at h2
              exact h2.1))]
        · rw [if_neg (by simpa using hm), if_neg (fun h => hm h.1)]
      have spec_step : ∀ k, 9000000 < k → spec_l12Open.l0 (k + 2) s acc (i : Int) =
          if (10 : UInt8) ∈ L x ∧ goodI acc.length (L line) = true then spec_l12Open.l0 k s (acc ++ [⟨⟨(decI acc.length (L line)).1.toArray⟩, ⟨(decI acc.length (L line)).2.toArray⟩⟩]) ((i + line.size + 1 : Nat) : Int) else some (acc, (i : Int)) := by
        intro k hk
        simp only [spec_l12Open.l0]
        by_cases hlt : (i : Int) < (s.size : Int)
        · rw [if_pos hlt]
          simp only [spec_l12Open.j1]
          rw [if_pos (by simpa using h60), if_pos (by omega), if_pos (by omega), Int.toNat_natCast, hx]
          obtain ⟨q, qs, h1, h2, h3⟩ := split_f x 10 k (by omega) (by omega)
          rw [show (10 : Int) = ((10 : UInt8).toNat : Int) from rfl, h1, Option.bind_some, if_pos (by simp)]
          have hq : rdOf ByteArray.empty (q :: qs) 0 = line := by
            show q = line
            apply ext_L
            rw [h3, hLl]
          rw [hq]
          obtain ⟨c, r, g1, g2⟩ := decode_f acc.length line k hal (by omega) (by omega)
          rw [g1, Option.bind_some]
          by_cases hm : (10 : UInt8) ∈ L x
          · have hcnt : 0 < qs.length := by rw [h2]; exact List.count_pos_iff.2 hm
            rw [if_neg (by simp only [List.length_cons]; omega)]
            by_cases hg : goodI acc.length (L line) = true
            · rw [if_pos hg, if_pos (by omega), if_pos ⟨hm, hg⟩, wrap_in (i := (i : Int) + (line.size : Int)) (by omega) (by omega), wrap_in (by omega) (by omega)]
              have h4 := g2 hg
              have e1 : c = ⟨(decI acc.length (L line)).1.toArray⟩ := ext_L (by rw [← h4])
              have e2 : r = ⟨(decI acc.length (L line)).2.toArray⟩ := ext_L (by rw [← h4])
              rw [e1, e2]
              rfl
            · rw [if_neg hg, if_neg (fun h => hg h.2)]
          · have hcnt : qs.length = 0 := by rw [h2]; exact List.count_eq_zero.2 hm
            rw [if_pos (by simp only [List.length_cons]; omega), if_neg (fun h => hm h.1)]
        · rw [if_neg hlt]
          simp only [spec_l12Open.j1]
          have hm : (10 : UInt8) ∉ L x := by
            have : L x = [] := List.eq_nil_of_length_eq_zero (by rw [← size_L]; omega)
            rw [this]; simp
          rw [if_neg (by simp), if_neg (fun h => hm h.1)]
      by_cases hgo : (10 : UInt8) ∈ L x ∧ goodI acc.length (L line) = true
      · have hlt := up_lt hgo.1
        rw [← hLl, ← size_L, ← size_L] at hlt
        obtain ⟨l, n, hn, hll, h⟩ := ih (i + line.size + 1) (acc ++ [⟨⟨(decI acc.length (L line)).1.toArray⟩, ⟨(decI acc.length (L line)).2.toArray⟩⟩]) (by omega) (by omega)
        refine ⟨l, n, hn, .inl (hll.elim id (fun e => by rw [e, List.length_append]; simp; omega)), fun k hk => ?_⟩
        obtain ⟨k, rfl⟩ : ∃ m, k = m + 2 := ⟨k - 2, by omega⟩
        rw [show k + 2 = (k + 1) + 1 from rfl, impl_step (k + 1) (by omega), if_pos hgo]
        refine ⟨(h (k + 1) (by omega)).1, ?_⟩
        rw [show k + 1 + 1 = k + 2 from rfl, spec_step k (by omega), if_pos hgo]
        exact (h k (by omega)).2
      · refine ⟨acc, i, hi, .inr rfl, fun k hk => ?_⟩
        obtain ⟨k, rfl⟩ : ∃ m, k = m + 2 := ⟨k - 2, by omega⟩
        rw [show k + 2 = (k + 1) + 1 from rfl, impl_step (k + 1) (by omega), if_neg hgo]
        refine ⟨rfl, ?_⟩
        rw [show k + 1 + 1 = k + 2 from rfl, spec_step k (by omega), if_neg hgo]
    · refine ⟨acc, i, hi, .inr rfl, fun k hk => ?_⟩
      obtain ⟨k, rfl⟩ : ∃ m, k = m + 2 := ⟨k - 2, by omega⟩
      constructor
      · simp only [impl_readRecords.l0]
        rw [if_neg h60]
      · simp only [spec_l12Open.l0]
        by_cases hlt : (i : Int) < (s.size : Int)
        · rw [if_pos hlt]
          simp only [spec_l12Open.j1]
          rw [if_neg (by simpa using h60)]
        · rw [if_neg hlt]
          simp only [spec_l12Open.j1]
          rw [if_neg (by simp)]
theorem read_eq (s : ByteArray) (hs : s.size ≤ 2000000) : ∃ (l : List S38) (n : Nat), n ≤ s.size ∧ l.length ≤ 60 ∧ ∀ k, 20000000 < k → impl_readRecords.f k s = some (l, (n : Int)) ∧ spec_l12Open.f k s = some (l, (n : Int)) := by
  obtain ⟨l, n, hn, hl, h⟩ := open_eq s hs s.size 0 [] (by omega) (by omega)
  exact ⟨l, n, hn, hl.elim id (fun e => by rw [e]; simp), fun k hk => h k (by omega)⟩
end Go.Proofs.YtgclcjohnnpejaaDoor.PureL
end

section
namespace Go.Proofs.YtgclcjohnnpejaaDoor.PureL
open Go.RowKit Go.Proofs.YtgclcjohnnpejaaDoor.Pr Go.Proofs.YtgclcjohnnpejaaDoorW.PrintWords Go.Proofs.YtgclcjohnnpejaaDoorW.PrintLast
theorem size_app (a b : ByteArray) : (a ++ b).size = a.size + b.size := by rw [size_L, L_append, List.length_append, ← size_L, ← size_L]
theorem records_eq (a b : ByteArray) (n : Int) (ha : a.size ≤ 1048576) (hb : b.size ≤ 1048576) : ∃ (l : List S38) (v : Bool), l.length ≤ 60 ∧ (v = true → a.size + b.size ≤ 30000) ∧ ∀ k, 30000000 < k →
    spec_l12Valid.f k a b n = some v ∧ impl_Log_records.f k a b n = some (l, v) ∧ (v = true → ∃ m, spec_l12Open.f k (a ++ b) = some (l, m)) := by
  by_cases h : a.size + b.size ≤ 30000
  · obtain ⟨l1, n1, hn1, hl1, h1⟩ := read_eq (a ++ b) (by rw [size_app]; omega)
    obtain ⟨l2, n2, hn2, hl2, h2⟩ := read_eq a (by omega)
    refine ⟨l1, decide ((n1 : Int) = (a.size : Int) + (b.size : Int)) && decide ((n2 : Int) = (a.size : Int)) && decide ((l1.length : Int) = n), hl1, fun _ => h, fun k hk => ?_⟩
    obtain ⟨i1, s1⟩ := h1 k (by omega)
    obtain ⟨i2, s2⟩ := h2 k (by omega)
    unfold spec_l12Valid.f impl_Log_records.f
    rw [i1, i2, s1, s2, wrap_in (by omega) (by omega), if_neg (by omega), if_pos (by omega), Option.bind_some]
    dsimp only
    rw [Option.bind_some, Option.bind_some]
    dsimp only
    refine ⟨?_, ?_, fun _ => ⟨_, rfl⟩⟩
    · by_cases c1 : (n1 : Int) = (a.size : Int) + (b.size : Int)
      · rw [if_pos c1, decide_eq_true c1]
        by_cases c2 : (n2 : Int) = (a.size : Int)
        · rw [if_pos c2, decide_eq_true c2]; rfl
        · rw [if_neg c2, decide_eq_false c2]; rfl
      · rw [if_neg c1, decide_eq_false c1]; rfl
    · rw [if_neg (by omega), if_pos (by omega), Option.bind_some]
      dsimp only
      by_cases c1 : (n1 : Int) = (a.size : Int) + (b.size : Int)
      · rw [if_pos c1, decide_eq_true c1]
        by_cases c2 : (n2 : Int) = (a.size : Int)
        · rw [if_pos c2, decide_eq_true c2]; rfl
        · rw [if_neg c2, decide_eq_false c2]; rfl
      · rw [if_neg c1, decide_eq_false c1]; rfl
  · refine ⟨[], false, by simp, (fun h => by cases h), fun k hk => ?_⟩
    unfold spec_l12Valid.f impl_Log_records.f
    rw [wrap_in (by omega) (by omega), if_pos (by omega)]
    rw [if_pos (by omega)]
    exact ⟨rfl, rfl, (fun h => by cases h)⟩
theorem sz_log (a b : ByteArray) (n : Int) (ha : a.size ≤ 140737488351232) (hb : b.size ≤ 140737488351232) : ∃ r, laws_szLog.f a b n 1048576 = some r ∧ (¬ r < 0 → a.size ≤ 1048576 ∧ b.size ≤ 1048576 ∧ 0 ≤ r ∧ r ≤ 1048576) := by
  unfold laws_szLog.f
  rw [wrap_in (by omega) (by omega), wrap_in (by omega) (by omega)]
  by_cases h1 : (1048576 : Int) - (a.size : Int) < 0
  · rw [if_pos h1]; exact ⟨_, rfl, fun h => absurd (by omega) h⟩
  · rw [if_neg h1]
    by_cases h2 : (1048576 : Int) - (a.size : Int) - (b.size : Int) < 0
    · rw [if_pos h2]; exact ⟨_, rfl, fun h => absurd (by omega) h⟩
    · rw [if_neg h2]; exact ⟨_, rfl, fun _ => by omega⟩
theorem valid_eq (a b : ByteArray) (n : Int) (ha : a.size ≤ 1048576) (hb : b.size ≤ 1048576) : ∃ v, (v = true → a.size + b.size ≤ 30000) ∧ ∀ k, 30000000 < k → spec_l12Valid.f k a b n = some v ∧ impl_IsValidLog.f k a b n = some v := by
  obtain ⟨l, v, _, hv, h⟩ := records_eq a b n ha hb
  refine ⟨v, hv, fun k hk => ?_⟩
  obtain ⟨h1, h2, _⟩ := h k hk
  unfold impl_IsValidLog.f
  rw [h2, Option.bind_some]
  exact ⟨h1, rfl⟩
end Go.Proofs.YtgclcjohnnpejaaDoor.PureL
end

section
set_option linter.unusedVariables false
set_option linter.unusedSimpArgs false
namespace Go.Proofs.YtgclcjohnnpejaaDoor.PureL
open Go.RowKit Go.Proofs.YtgclcjohnnpejaaDoor.Pr Go.Proofs.YtgclcjohnnpejaaDoorW.PrintWords Go.Proofs.YtgclcjohnnpejaaDoorW.PrintLast
theorem in_eq (x y : Int) : ∃ b, spec_l1In.f x 0 y = some b ∧ impl_in.f x 0 y = some b ∧ (b = true → 0 ≤ x ∧ x ≤ y) := by
  unfold spec_l1In.f impl_in.f
  by_cases h : 0 ≤ x
  · rw [if_pos (by omega)]
    exact ⟨_, rfl, rfl, fun hb => ⟨h, of_decide_eq_true hb⟩⟩
  · rw [if_neg (by omega)]
    exact ⟨_, rfl, rfl, fun hb => by cases hb⟩
theorem bytesOf_L (s : ByteArray) : bytesOf s = (L s).map fun b => (b.toNat : Int) := rfl
theorem L_strOf (l : List Int) : L (Go.strOfNums l) = l.map fun n => UInt8.ofNat n.toNat := Go.strOfNums_data l
theorem strOf_bytes (s : ByteArray) : Go.strOfNums (bytesOf s) = s := by
  apply ext_L
  rw [L_strOf, bytesOf_L, List.map_map]
  have : ∀ l : List UInt8, l.map ((fun n : Int => UInt8.ofNat n.toNat) ∘ fun b : UInt8 => (b.toNat : Int)) = l := by
    intro l
    induction l with
    | nil => rfl
    | cons b l ih => rw [List.map_cons, ih]; simp
  exact this _
theorem bt_append (a s : ByteArray) (i : Nat) (h : i < s.size) : bt (a ++ s) ((a.size + i : Nat) : Int) = bt s (i : Int) := by
  have h1 : a.size + i < (L (a ++ s)).length := by rw [L_append, List.length_append, ← size_L, ← size_L]; omega
  have h2 : i < (L s).length := by rw [← size_L]; exact h
  rw [bt_get _ _ h1, bt_get _ _ h2]
  congr 2
  simp only [L_append]
  rw [List.getElem_append_right (by rw [← size_L]; omega)]
  congr 1
  rw [← size_L]
  omega
theorem crashed_append (a s : ByteArray) (t m : Bool) (h : m = true → 0 < s.size) : crashed (a ++ s) t m = a ++ crashed s t m := by
  unfold crashed
  cases hb : (t && m) with
  | false => simp only [Bool.false_eq_true, if_false]; rw [strOf_bytes, strOf_bytes]
  | true =>
    have hm : m = true := by cases t <;> cases m <;> simp_all
    have hs := h hm
    simp only [if_true]
    unfold tornL
    have hsz : (a ++ s).size = a.size + s.size := by rw [size_L, L_append, List.length_append, ← size_L, ← size_L]
    rw [hsz, show a.size + s.size - 1 = a.size + (s.size - 1) by omega, bt_append a s (s.size - 1) (by omega)]
    apply ext_L
    rw [L_append, L_strOf, L_strOf, bytesOf_L, L_append, List.map_append, List.set_append_right _ _ (by rw [List.length_map, ← size_L]; omega), List.length_map, ← size_L, show a.size + (s.size - 1) - a.size = s.size - 1 by omega, List.map_append]
    congr 1
    have := congrArg L (strOf_bytes a)
    rw [L_strOf, bytesOf_L] at this
    exact this
theorem crashed_size (s : ByteArray) (t m : Bool) : (crashed s t m).size = s.size := by
  unfold crashed tornL
  split
  · rw [Go.strOfNums_size, List.length_set, bytesOf_length]
  · rw [Go.strOfNums_size, bytesOf_length]
theorem crash_eq (a b : ByteArray) (n keep : Int) (t : Bool) (ha : a.size ≤ 1048576) (hb : b.size ≤ 1048576) : ∃ r v, ∀ k, 40000000 < k → spec_CrashLog.f k a b n keep t = some (r, v) ∧ impl_CrashLog.f k a b n keep t = some (r, v) := by
  obtain ⟨v, hv0, hv⟩ := valid_eq a b n ha hb
  obtain ⟨d, d1, d2, d3⟩ := in_eq keep (b.size : Int)
  have hS : ∀ k, 40000000 < k → spec_CrashLog.f k a b n keep t = spec_CrashLog.j0 k keep (!(v && d)) a b n t ∧ impl_CrashLog.f k a b n keep t = impl_CrashLog.j0 k keep (!(v && d)) a b n t := fun k hk => by
    obtain ⟨e1, e2⟩ := hv k (by omega)
    unfold spec_CrashLog.f impl_CrashLog.f
    rw [e1, e2, d1, d2]
    cases v <;> exact ⟨rfl, rfl⟩
  cases hvd : (v && d) with
  | false =>
    refine ⟨⟨#[]⟩, false, fun k hk => ?_⟩
    rw [(hS k hk).1, (hS k hk).2, hvd]
    obtain ⟨k, rfl⟩ : ∃ z, k = z + 1 := ⟨k - 1, by omega⟩
    rw [spec_CrashLog.j0, impl_CrashLog.j0]
    exact ⟨rfl, rfl⟩
  | true =>
    obtain ⟨q0, q1⟩ := d3 (by cases v <;> cases d <;> simp_all)
    have hx : (b.extract 0 keep.toNat).size = keep.toNat := by rw [ByteArray.size_extract]; omega
    have hc : crashed (a ++ b.extract 0 keep.toNat) t (decide (keep > 0)) = a ++ crashed (b.extract 0 keep.toNat) t (decide (keep > 0)) := crashed_append _ _ _ _ (fun h => by have := of_decide_eq_true h; rw [hx]; omega)
    refine ⟨a ++ crashed (b.extract 0 keep.toNat) t (decide (keep > 0)), true, fun k hk => ?_⟩
    rw [(hS k hk).1, (hS k hk).2, hvd]
    obtain ⟨k, rfl⟩ : ∃ z, k = z + 1 := ⟨k - 1, by omega⟩
    rw [spec_CrashLog.j0, impl_CrashLog.j0]
    have nt : ¬ (!true) = true := by simp
    rw [if_neg nt, if_neg nt, if_pos q0, if_pos q0, if_pos q1, if_pos q1, crashed_size, if_pos (by rw [hx]; omega), hc, if_pos (by rw [hx]; omega)]
    exact ⟨rfl, rfl⟩
theorem FnExactCrashLog (a b : ByteArray) (n keep : Int) (t : Bool) (ha : a.size ≤ 140737488351232) (hb : b.size ≤ 140737488351232) : ∃ k, laws_FnExactCrashLog.f k a b n keep t = some true := by
  refine ⟨50000000, ?_⟩
  obtain ⟨z, hz, hs⟩ := sz_log a b n ha hb
  unfold laws_FnExactCrashLog.f
  rw [hz, Option.bind_some]
  by_cases h : z < 0
  · rw [if_pos h]
  · obtain ⟨h1, h2, _⟩ := hs h
    obtain ⟨r, v, hr⟩ := crash_eq a b n keep t h1 h2
    obtain ⟨e1, e2⟩ := hr 50000000 (by omega)
    rw [if_neg h]
    unfold laws_toLog.f
    rw [Option.bind_some]
    dsimp only
    rw [e1, Option.bind_some, Option.bind_some]
    dsimp only
    rw [e2, Option.bind_some]
    simp
end Go.Proofs.YtgclcjohnnpejaaDoor.PureL
end
