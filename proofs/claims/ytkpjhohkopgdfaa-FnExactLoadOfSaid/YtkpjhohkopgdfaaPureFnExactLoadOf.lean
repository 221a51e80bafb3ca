/- The law FnExactLoadOf, in numbers and lists alone: the program's LoadOf and the reference's give one answer, and the building stays as it was. No condition. -/
import Derived.Test.YtkpjhohkopgdfaaQFnExactLoadOf
import Derived.Test.YtkpjhohkopgdfaaPLib
set_option linter.unusedVariables false
set_option linter.unusedSimpArgs false
namespace Go.Proofs.Ytkpjhohkopgdfaa.PFnExactLoadOf
open Go.RowKit Go.Proofs.YtkpjhohkopgdfaaW.PrintWords Go.Proofs.YtkpjhohkopgdfaaW.PLib

theorem l00In_eq (a b c : Int) : spec_l00In.f a b c = some (decide (b ≤ a) && decide (a ≤ c)) := by
  unfold spec_l00In.f; by_cases h : a ≥ b
  · rw [if_pos h]; simp [show b ≤ a from h]
  · rw [if_neg h]; simp [show ¬ b ≤ a from h]

theorem within_eq (a b c : Int) : impl_within.f a b c = some (decide (b ≤ a) && decide (a ≤ c)) := by
  unfold impl_within.f; by_cases h : a ≥ b
  · rw [if_pos h]; simp [show b ≤ a from h]
  · rw [if_neg h]; simp [show ¬ b ≤ a from h]

/-! names -/
def smallB (c : Int) : Bool := decide (97 ≤ c) && decide (c ≤ 122)
def digitB (c : Int) : Bool := decide (48 ≤ c) && decide (c ≤ 57)
def nameB (s : ByteArray) : Bool := (decide (1 ≤ s.size) && decide (s.size ≤ 10)) && (smallB (bt s 0) && allB (fun i => smallB (bt s i) || digitB (bt s i)) s.size)
theorem small_eq (c : Int) : spec_l01Small.f c = some (smallB c) := by
  unfold spec_l01Small.f smallB; by_cases h : c ≥ 97
  · rw [if_pos h]; simp [show 97 ≤ c from h]
  · rw [if_neg h]; simp [show ¬ 97 ≤ c from h]
theorem digit_eq (c : Int) : spec_l01Digit.f c = some (digitB c) := by
  unfold spec_l01Digit.f digitB; by_cases h : c ≥ 48
  · rw [if_pos h]; simp [show 48 ≤ c from h]
  · rw [if_neg h]; simp [show ¬ 48 ≤ c from h]
theorem specName_loop (s : ByteArray) (hs : s.size < 9223372036854775807) : Ev (fun k => spec_l01Name.l0 k s 0) (allB (fun i => smallB (bt s i) || digitB (bt s i)) s.size && true) := by
  refine all_ev (fun k i => spec_l01Name.l0 k s i) s.size true _ (fun i hi => ⟨0, fun k _ => ?_⟩) ⟨0, fun k _ => ?_⟩
  · simp only [spec_l01Name.l0]
    rw [if_pos (by omega), if_pos (by omega)]
    simp only [small_eq, digit_eq, Option.bind_some, w64s (show i < 9223372036854775807 by omega)]
    by_cases c1 : smallB (bt s i) = true
    · simp [c1]
    · simp only [Bool.not_eq_true] at c1
      by_cases c2 : digitB (bt s i) = true
      · simp [c1, c2]
      · simp only [Bool.not_eq_true] at c2; simp [c1, c2]
  · simp only [spec_l01Name.l0]
    rw [if_neg (by omega)]
theorem specName_ev (s : ByteArray) (hs : s.size < 9223372036854775807) : Ev (fun k => spec_l01Name.f k s) (nameB s) := by
  obtain ⟨K, hK⟩ := specName_loop s hs
  refine ⟨K + 1, fun k hk => ?_⟩
  obtain ⟨k, rfl⟩ : ∃ m, k = m + 1 := ⟨k - 1, by omega⟩
  unfold spec_l01Name.f nameB
  simp only [spec_l01Name.j0, hK k (by omega), small_eq, Option.bind_some]
  by_cases c1 : s.toList = ([] : List UInt8)
  · rw [if_pos c1]
    have : s.size = 0 := by
      have := congrArg List.length c1
      simpa [ByteArray.toList_eq] using this
    simp [this]
  · rw [if_neg c1]
    have h0 : 1 ≤ s.size := by
      rcases Nat.eq_zero_or_pos s.size with h | h
      · exact absurd (by
          have : s.data.toList = [] := List.eq_nil_of_length_eq_zero (by rw [Array.length_toList]; exact h)
          simpa [ByteArray.toList_eq] using this) c1
      · exact h
    by_cases c2 : (s.size : Int) > 10
    · rw [if_pos c2, decide_eq_false (show ¬ s.size ≤ 10 by omega)]; simp
    · rw [if_neg c2, if_pos (by omega), decide_eq_true (show s.size ≤ 10 by omega), decide_eq_true h0]
      by_cases c3 : smallB (bt s 0) = true
      · simp [c3]
      · simp only [Bool.not_eq_true] at c3; simp [c3]
theorem implName_loop (s : ByteArray) (hs : s.size < 9223372036854775807) : Ev (fun k => impl_onlyNameBytes.f k s) (allB (fun i => smallB (bt s i) || digitB (bt s i)) s.size && true) := by
  unfold impl_onlyNameBytes.f
  refine all_ev (fun k i => impl_onlyNameBytes.l0 k s (s.size : Int) i) s.size true _ (fun i hi => ⟨0, fun k _ => ?_⟩) ⟨0, fun k _ => ?_⟩
  · simp only [impl_onlyNameBytes.l0]
    rw [if_pos (by omega), if_pos (by omega), if_pos (by omega)]
    simp only [w64s (show i < 9223372036854775807 by omega), smallB, digitB]
    by_cases a : bt s i < 97 <;> by_cases b : bt s i < 48 <;> by_cases c : bt s i > 57 <;> by_cases d : bt s i > 122 <;> simp [a, b, c, d] <;> omega
  · simp only [impl_onlyNameBytes.l0]
    rw [if_neg (by omega)]
theorem implName_ev (s : ByteArray) (hs : s.size < 9223372036854775807) : Ev (fun k => impl_IsName.f k s) (nameB s) := by
  obtain ⟨K, hK⟩ := implName_loop s hs
  refine ⟨K, fun k hk => ?_⟩
  unfold impl_IsName.f nameB
  simp only [hK k hk, Option.bind_some]
  by_cases c1 : (s.size : Int) < 1
  · rw [if_pos c1, decide_eq_false (show ¬ 1 ≤ s.size by omega)]; simp
  · rw [if_neg c1, decide_eq_true (show 1 ≤ s.size by omega)]
    by_cases c2 : (s.size : Int) > 10
    · rw [if_pos c2, decide_eq_false (show ¬ s.size ≤ 10 by omega)]; simp
    · rw [if_neg c2, if_pos (by omega), decide_eq_true (show s.size ≤ 10 by omega)]
      unfold smallB
      by_cases a : bt s 0 < 97
      · rw [if_pos a, decide_eq_false (show ¬ 97 ≤ bt s 0 by omega)]; simp
      · rw [if_neg a, decide_eq_true (show 97 ≤ bt s 0 by omega)]
        by_cases b : bt s 0 > 122
        · rw [if_pos b, decide_eq_false (show ¬ bt s 0 ≤ 122 by omega)]; simp
        · rw [if_neg b, decide_eq_true (show bt s 0 ≤ 122 by omega)]; simp

theorem rd_at (xs : List Int) (i : Nat) (h : i < xs.length) : rd xs (i : Int) = xs[i] := by unfold rd; exact getD_cast xs i h _
theorem eqInts_ev (xs : List Int) (hl : xs.length < 9223372036854775807) : Ev (fun k => laws_eqInt64S.f k xs xs) true := by
  unfold laws_eqInt64S.f
  simp only [if_true]
  have := all_ev (fun k i => laws_eqInt64S.l0 k xs xs i) xs.length true (fun _ => true) (fun i hi => ⟨0, fun k _ => ?_⟩) ⟨0, fun k _ => ?_⟩
  · rw [allB_const] at this; exact this
  · simp only [laws_eqInt64S.l0]
    rw [if_pos (by omega), if_pos (by omega), if_pos (by omega)]
    simp only [if_true, w64s (show i < 9223372036854775807 by omega)]
  · simp only [laws_eqInt64S.l0]
    rw [if_neg (by omega)]

theorem toInts_ev (xs : List Int) (hl : xs.length * 8 ≤ 140737488351232) : Ev (fun k => laws_toInt64S.f k xs) xs := by
  refine ⟨xs.length + 1, fun k hk => ?_⟩
  simp only [laws_toInt64S.f]
  rw [if_pos (by omega), if_pos (by omega)]
  have h := to_loop (fun k ys i => laws_toInt64S.l0 k xs ys i) xs id (fun k ys i h hy => ?_) (fun k ys hy => ?_) (List.replicate ((xs.length : Int) : Int).toNat 0) (by simp) k (by omega)
  · rw [List.map_id] at h; exact h
  · simp only [laws_toInt64S.l0]
    rw [if_pos (by omega), if_pos (by omega), if_pos (by omega), w64s (by omega), rd_at xs i h]
    rfl
  · simp only [laws_toInt64S.l0]
    rw [if_neg (by omega)]

/-! allWithin, as a test of each place -/
def inB (lo hi : Int) (xs : List Int) (i : Nat) : Bool := decide (lo ≤ rd xs (i : Int)) && decide (rd xs (i : Int) ≤ hi)
theorem all_rd (p : Int → Bool) (xs : List Int) : xs.all p = allB (fun i => p (rd xs (i : Int))) xs.length := by
  rw [Bool.eq_iff_iff, allB_true, List.all_eq_true]
  constructor
  · intro h i hi
    rw [rd_at xs i hi]
    exact h _ (List.getElem_mem hi)
  · intro h x hx
    obtain ⟨i, hi, rfl⟩ := List.getElem_of_mem hx
    have := h i hi
    rw [rd_at xs i hi] at this
    exact this
theorem allWithin_eq (xs : List Int) (lo hi : Int) : impl_allWithin.f xs lo hi = some (allB (inB lo hi xs) xs.length) := by
  unfold impl_allWithin.f
  rw [all_rd]
  rfl
theorem inB_at {lo hi : Int} {xs : List Int} (h : allB (inB lo hi xs) xs.length = true) (i : Nat) (hi' : i < xs.length) : lo ≤ rd xs (i : Int) ∧ rd xs (i : Int) ≤ hi := by
  have := allB_true.1 h i hi'
  unfold inB at this
  simpa using this

/-! the nearest quotient, as the reference and as the program reckon it -/
theorem near (a b : Int) (ha : 0 ≤ a) (hb : 0 < b) : (2 * a + b) / (2 * b) = if a % b ≥ b - a % b then a / b + 1 else a / b := by
  have h1 : b * (a / b) + a % b = a := Int.mul_ediv_add_emod a b
  have h2 : 0 ≤ a % b := Int.emod_nonneg a (by omega)
  have h3 : a % b < b := Int.emod_lt_of_pos a hb
  generalize hq : a / b = q at *
  generalize hr : a % b = r at *
  have e : 2 * a + b = (2 * r + b) + (2 * b) * q := by
    rw [← h1, Int.mul_add, ← Int.mul_assoc]; omega
  rw [e, Int.add_mul_ediv_left _ _ (by omega)]
  by_cases c : r ≥ b - r
  · rw [if_pos c]
    have : (2 * r + b) / (2 * b) = 1 := by
      rw [Int.ediv_eq_iff_of_pos (by omega)]
      constructor <;> omega
    omega
  · rw [if_neg c]
    have : (2 * r + b) / (2 * b) = 0 := Int.ediv_eq_zero_of_lt (by omega) (by omega)
    omega
/-- The nearest quotient of two whole numbers, away from 0 where two are as near. -/
def rdiv (a b : Int) : Int := if b < 0 then (if a > 0 then -((2 * a + -b) / (2 * -b)) else (2 * -a + -b) / (2 * -b)) else if a < 0 then -((2 * -a + b) / (2 * b)) else (2 * a + b) / (2 * b)
theorem quo_le (x y B : Int) (hx : 0 ≤ x) (hy : 0 < y) (h : x ≤ B) : 0 ≤ x / y ∧ x / y ≤ B := ⟨Int.ediv_nonneg hx (by omega), Int.le_trans (Int.ediv_le_self _ hx) h⟩
theorem l01Div_eq (a b : Int) (hb : b ≠ 0) (h1 : -1152921504606846976 ≤ a) (h2 : a ≤ 1152921504606846976) (h3 : -1152921504606846976 ≤ b) (h4 : b ≤ 1152921504606846976) : spec_l01Div.f a b = some (rdiv a b) := by
  unfold spec_l01Div.f rdiv
  by_cases c1 : b < 0
  · rw [if_pos c1, if_pos c1, w64 (x := -a) (by omega) (by omega), w64 (x := -b) (by omega) (by omega), w64 (x := 2 * -b) (by omega) (by omega), w64 (x := 2 * -a) (by omega) (by omega)]
    by_cases c2 : a > 0
    · rw [if_pos c2, if_pos (by omega), if_neg (by omega)]
      have q := quo_le (2 * a + -b) (2 * -b) 4611686018427387904 (by omega) (by omega) (by omega)
      rw [w64 (x := -b - 2 * -a) (by omega) (by omega), show -b - 2 * -a = 2 * a + -b by omega, Int.tdiv_eq_ediv_of_nonneg (by omega), w64 (x := (2 * a + -b) / (2 * -b)) (by omega) (by omega), w64 (by omega) (by omega)]
    · rw [if_neg c2, if_neg (by omega), if_neg (by omega)]
      have q := quo_le (2 * -a + -b) (2 * -b) 4611686018427387904 (by omega) (by omega) (by omega)
      rw [w64 (x := 2 * -a + -b) (by omega) (by omega), Int.tdiv_eq_ediv_of_nonneg (by omega), w64 (by omega) (by omega)]
  · rw [if_neg c1, if_neg c1, w64 (x := 2 * b) (by omega) (by omega), w64 (x := 2 * a) (by omega) (by omega)]
    by_cases c2 : a < 0
    · rw [if_pos c2, if_pos c2, if_neg (by omega)]
      have q := quo_le (2 * -a + b) (2 * b) 4611686018427387904 (by omega) (by omega) (by omega)
      rw [w64 (x := b - 2 * a) (by omega) (by omega), show b - 2 * a = 2 * -a + b by omega, Int.tdiv_eq_ediv_of_nonneg (by omega), w64 (x := (2 * -a + b) / (2 * b)) (by omega) (by omega), w64 (by omega) (by omega)]
    · rw [if_neg c2, if_neg c2, if_neg (by omega)]
      have q := quo_le (2 * a + b) (2 * b) 4611686018427387904 (by omega) (by omega) (by omega)
      rw [w64 (x := 2 * a + b) (by omega) (by omega), Int.tdiv_eq_ediv_of_nonneg (by omega), w64 (by omega) (by omega)]
theorem abs_eq (n : Int) (h1 : -1152921504606846976 ≤ n) (h2 : n ≤ 1152921504606846976) : impl_abs.f n = some (if n < 0 then -n else n) := by
  unfold impl_abs.f mx
  rw [w64 (by omega) (by omega)]
  congr 1
  split <;> split <;> omega
theorem divRound_eq (a b : Int) (hb : b ≠ 0) (h1 : -1152921504606846976 ≤ a) (h2 : a ≤ 1152921504606846976) (h3 : -1152921504606846976 ≤ b) (h4 : b ≤ 1152921504606846976) : impl_divRound.f a b = some (rdiv a b) := by
  unfold impl_divRound.f
  rw [if_neg hb]
  -- the parts of a and b
  obtain ⟨m, hm, hma⟩ : ∃ m : Int, 0 ≤ m ∧ (a = m ∨ a = -m ∧ 0 < m) := by
    rcases Int.lt_or_le a 0 with h | h
    · exact ⟨-a, by omega, .inr ⟨by omega, by omega⟩⟩
    · exact ⟨a, h, .inl rfl⟩
  obtain ⟨n, hn, hnb⟩ : ∃ n : Int, 0 < n ∧ (b = n ∨ b = -n) := by
    rcases Int.lt_or_le b 0 with h | h
    · exact ⟨-b, by omega, .inr (by omega)⟩
    · exact ⟨b, by omega, .inl rfl⟩
  have N := near m n hm hn
  have q1 : 0 ≤ m / n := Int.ediv_nonneg hm (by omega)
  have q2 : m / n ≤ m := Int.ediv_le_self _ hm
  have r1 : 0 ≤ m % n := Int.emod_nonneg m (by omega)
  have r2 : m % n < n := Int.emod_lt_of_pos m hn
  have td : Int.tdiv m n = m / n := Int.tdiv_eq_ediv_of_nonneg hm
  have tm : Int.tmod m n = m % n := Int.tmod_eq_emod_of_nonneg hm
  rcases hma with rfl | ⟨rfl, hm0⟩ <;> rcases hnb with rfl | rfl
  · rw [td, tm, abs_eq _ (by omega) (by omega), abs_eq _ (by omega) (by omega)]
    simp only [Option.bind_some]
    rw [if_neg (show ¬ a % b < 0 by omega), if_neg (show ¬ b < 0 by omega), w64 (x := b - a % b) (by omega) (by omega), w64 (x := a / b) (by omega) (by omega)]
    unfold rdiv
    rw [if_neg (show ¬ b < 0 by omega), if_neg (show ¬ a < 0 by omega), N]
    by_cases c : a % b ≥ b - a % b
    · rw [if_pos c, if_pos c, if_pos (by rw [decide_eq_false (show ¬ a < 0 by omega), decide_eq_false (show ¬ b < 0 by omega)]; decide), w64 (by omega) (by omega)]
    · rw [if_neg c, if_neg c]
  · rw [Int.tdiv_neg, Int.tmod_neg, td, tm, abs_eq _ (by omega) (by omega), abs_eq _ (by omega) (by omega)]
    simp only [Option.bind_some]
    rw [if_neg (show ¬ a % n < 0 by omega), if_pos (show -n < 0 by omega), Int.neg_neg, w64 (x := n - a % n) (by omega) (by omega), w64 (x := -(a / n)) (by omega) (by omega)]
    unfold rdiv
    rw [if_pos (show -n < 0 by omega), Int.neg_neg]
    by_cases c : a % n ≥ n - a % n
    · rw [if_pos c] at N
      rw [if_pos c]
      by_cases z : a > 0
      · rw [if_pos z, if_neg (by rw [decide_eq_false (show ¬ a < 0 by omega), decide_eq_true (show -n < 0 by omega)]; decide), N, w64 (by omega) (by omega)]
        congr 1; omega
      · have : a = 0 := by omega
        subst this
        simp at c
        omega
    · rw [if_neg c] at N
      rw [if_neg c]
      by_cases z : a > 0
      · rw [if_pos z, N]
      · have : a = 0 := by omega
        subst this
        rw [if_neg z]
        simp only [Int.neg_zero, Int.mul_zero, Int.zero_add, Int.zero_ediv] at N ⊢
        congr 1; omega
  · rw [Int.neg_tdiv, Int.neg_tmod, td, tm, abs_eq _ (by omega) (by omega), abs_eq _ (by omega) (by omega)]
    simp only [Option.bind_some]
    have ab : (if -(m % b) < 0 then - -(m % b) else -(m % b)) = m % b := by split <;> omega
    rw [ab, if_neg (show ¬ b < 0 by omega), w64 (x := b - m % b) (by omega) (by omega), w64 (x := -(m / b)) (by omega) (by omega)]
    unfold rdiv
    rw [if_neg (show ¬ b < 0 by omega), if_pos (show -m < 0 by omega), Int.neg_neg, N]
    by_cases c : m % b ≥ b - m % b
    · rw [if_pos c, if_pos c, if_neg (by rw [decide_eq_false (show ¬ b < 0 by omega), decide_eq_true (show -m < 0 by omega)]; decide), w64 (by omega) (by omega)]
      congr 1; omega
    · rw [if_neg c, if_neg c]
  · rw [Int.neg_tdiv, Int.neg_tmod, Int.tdiv_neg, Int.tmod_neg, td, tm, abs_eq _ (by omega) (by omega), abs_eq _ (by omega) (by omega)]
    simp only [Option.bind_some]
    have ab : (if -(m % n) < 0 then - -(m % n) else -(m % n)) = m % n := by split <;> omega
    rw [ab, if_pos (show -n < 0 by omega), Int.neg_neg, Int.neg_neg, w64 (x := n - m % n) (by omega) (by omega), w64 (x := m / n) (by omega) (by omega)]
    unfold rdiv
    rw [if_pos (show -n < 0 by omega), if_neg (show ¬ -m > 0 by omega), Int.neg_neg, Int.neg_neg, N]
    by_cases c : m % n ≥ n - m % n
    · rw [if_pos c, if_pos c, if_pos (by rw [decide_eq_true (show -n < 0 by omega), decide_eq_true (show -m < 0 by omega)]; decide), w64 (by omega) (by omega)]
    · rw [if_neg c, if_neg c]

abbrev BU := S51
theorem rd1_B (x : BU) : rd_T51 [x] 0 = x := rfl
theorem sz1 (a : ByteArray) (b c d e : Int) (l : List Int) (s : Int) : ∃ t, laws_szBuilding.f a b c d e l s = some t := by
  unfold laws_szBuilding.f laws_szInt64S.f
  split
  · exact ⟨_, rfl⟩
  · split
    · exact ⟨_, rfl⟩
    · simp only [Option.bind_some]
      split <;> exact ⟨_, rfl⟩
def inR (a lo hi : Int) : Bool := decide (lo ≤ a) && decide (a ≤ hi)
def oneB (x : BU) : Bool := nameB x.f0 && (inR x.f1 0 15 && (inR x.f2 0 1000000 && (inR x.f3 0 100000 && (inR x.f4 (-4000) 4500 && (decide (x.f5.length = 24) && allB (inB 0 3000 x.f5) x.f5.length)))))
theorem l00In_r (a b c : Int) : spec_l00In.f a b c = some (inR a b c) := l00In_eq a b c
theorem within_r (a b c : Int) : impl_within.f a b c = some (inR a b c) := within_eq a b c
theorem specOneB_ev (x : BU) (h : x.f0.size < 9223372036854775807) : Ev (fun k => spec_l05One.f k [x]) (oneB x) := by
  have jT : Ev (fun k => spec_l05One.j0 k [x] true) false := Ev.succ (by simp only [spec_l05One.j0, if_true]; exact Ev.now _)
  unfold spec_l05One.f oneB spec_l05Outdoor.f
  simp only [if_pos (show 0 < (([x] : List BU).length : Int) by simp), rd1_B]
  refine Ev.bind (specName_ev x.f0 h) ?_
  cases nameB x.f0
  · simp only [Bool.false_eq_true, if_false, Bool.false_and]; exact jT
  simp only [if_true, l00In_r, Option.bind_some, Bool.true_and]
  cases inR x.f1 0 15
  · simp only [Bool.false_eq_true, if_false, Bool.false_and]; exact jT
  simp only [if_true, Bool.true_and]
  cases inR x.f2 0 1000000
  · simp only [Bool.false_eq_true, if_false, Bool.false_and]; exact jT
  simp only [if_true, Bool.true_and]
  cases inR x.f3 0 100000
  · simp only [Bool.false_eq_true, if_false, Bool.false_and]; exact jT
  simp only [if_true, Bool.true_and]
  cases inR x.f4 (-4000) 4500
  · simp only [Bool.false_eq_true, if_false, Bool.false_and]; exact jT
  simp only [if_true, Bool.true_and]
  by_cases c : x.f5.length = 24
  · rw [decide_eq_true c, Bool.true_and]
    simp only [show ((x.f5.length : Int) != 24) = false from bne_eq_false_iff_eq.mpr (by omega)]
    refine Ev.succ ?_
    simp only [spec_l05One.j0, Bool.false_eq_true, if_false]
    have h := all_evE (fun k i => spec_l05One.l0 k [x] i) x.f5.length true (inB 0 3000 x.f5) (fun i hi r hr => Ev.succ ?_) (Ev.succ ?_)
    · rw [Bool.and_true] at h; exact h
    · simp only [spec_l05One.l0, if_pos (show 0 < (([x] : List BU).length : Int) by simp), rd1_B, if_pos (show (i : Int) < (x.f5.length : Int) by omega), if_pos (show 0 ≤ (i : Int) by omega), l00In_r, Option.bind_some, w64s (show i < 9223372036854775807 by omega)]
      by_cases c4 : inB 0 3000 x.f5 i = true
      · simp only [if_pos c4, if_pos (show inR (rd x.f5 (i : Int)) 0 3000 = true from c4)]; exact hr
      · simp only [if_neg c4, if_neg (show ¬ inR (rd x.f5 (i : Int)) 0 3000 = true from c4)]; exact Ev.now _
    · refine Ev.all fun k => ?_
      simp only [spec_l05One.l0]
      rw [if_pos (show 0 < (([x] : List BU).length : Int) by simp), if_neg (show ¬ (x.f5.length : Int) < ((rd_T51 [x] 0).f5.length : Int) by rw [rd1_B]; omega)]
  · rw [decide_eq_false c, Bool.false_and]
    simp only [show ((x.f5.length : Int) != 24) = true from bne_iff_ne.mpr (by omega)]
    exact jT
theorem implOneB_ev (x : BU) (h : x.f0.size < 9223372036854775807) : Ev (fun k => impl_Building_valid.f k x.f0 x.f1 x.f2 x.f3 x.f4 x.f5) (oneB x) := by
  unfold impl_Building_valid.f oneB impl_nodeOk.f impl_outdoorOk.f
  refine Ev.bind (implName_ev x.f0 h) ?_
  simp only [within_r, allWithin_eq, Option.bind_some]
  by_cases c : x.f5.length = 24
  · simp only [if_pos (show (x.f5.length : Int) = 24 by omega), decide_eq_true c, Bool.true_and]
    cases nameB x.f0 <;> cases inR x.f1 0 15 <;> cases inR x.f2 0 1000000 <;> cases inR x.f3 0 100000 <;> cases inR x.f4 (-4000) 4500 <;> exact Ev.now _
  · simp only [if_neg (show ¬ (x.f5.length : Int) = 24 by omega), decide_eq_false c, Bool.false_and]
    cases nameB x.f0 <;> cases inR x.f1 0 15 <;> cases inR x.f2 0 1000000 <;> cases inR x.f3 0 100000 <;> cases inR x.f4 (-4000) 4500 <;> exact Ev.now _

def loadV (x : BU) (a1 a2 : Int) : Int := wrap64 (rdiv (x.f2 * rd x.f5 a2) 1000 + rdiv (x.f3 * mx (x.f4 - a1) 0) 100)
theorem bounds (x : BU) (a1 a2 : Int) (h : oneB x = true) (h1 : inR a1 (-4000) 4500 = true) (h2 : inR a2 0 23 = true) :
    0 ≤ a2 ∧ a2 < (x.f5.length : Int) ∧ 0 ≤ x.f2 * rd x.f5 a2 ∧ x.f2 * rd x.f5 a2 ≤ 3000000000 ∧ -8500 ≤ x.f4 - a1 ∧ x.f4 - a1 ≤ 8500 ∧ 0 ≤ x.f3 * mx (x.f4 - a1) 0 ∧ x.f3 * mx (x.f4 - a1) 0 ≤ 850000000 := by
  unfold oneB inR at h
  unfold inR at h1 h2
  simp only [Bool.and_eq_true, decide_eq_true_eq] at h h1 h2
  obtain ⟨_, _, ⟨p1, p2⟩, ⟨q1, q2⟩, ⟨r1, r2⟩, hl, hb⟩ := h
  obtain ⟨n, rfl⟩ := Int.eq_ofNat_of_zero_le h2.1
  have hn := inB_at hb n (by omega)
  have hm : 0 ≤ mx (x.f4 - a1) 0 ∧ mx (x.f4 - a1) 0 ≤ 8500 := by unfold mx; split <;> omega
  refine ⟨h2.1, by omega, Int.mul_nonneg p1 hn.1, Int.le_trans (Int.mul_le_mul p2 hn.2 hn.1 (by omega)) (by decide), by omega, by omega, Int.mul_nonneg q1 hm.1, Int.le_trans (Int.mul_le_mul q2 hm.2 hm.1 (by omega)) (by decide)⟩
theorem specLoad_eq (x : BU) (a1 a2 : Int) (h : oneB x = true) (h1 : inR a1 (-4000) 4500 = true) (h2 : inR a2 0 23 = true) : spec_l05Load.f [x] a1 a2 = some (loadV x a1 a2) := by
  obtain ⟨b1, b2, b3, b4, b5, b6, b7, b8⟩ := bounds x a1 a2 h h1 h2
  have em : spec_l00Max.f 0 (x.f4 - a1) = some (mx (x.f4 - a1) 0) := by
    unfold spec_l00Max.f mx
    repeat' split
    all_goals first | rfl | (congr 1; omega)
  unfold spec_l05Load.f
  rw [if_pos (by simp), if_pos b1, if_pos (show a2 < ((rd_T51 [x] 0).f5.length : Int) from b2), rd1_B, w64 (x := x.f2 * rd x.f5 a2) (by omega) (by omega), l01Div_eq _ _ (by omega) (by omega) (by omega) (by omega) (by omega), Option.bind_some, w64 (x := x.f4 - a1) (by omega) (by omega), em, Option.bind_some, w64 (x := x.f3 * mx (x.f4 - a1) 0) (by omega) (by omega), l01Div_eq _ _ (by omega) (by omega) (by omega) (by omega) (by omega)]
  rfl
theorem implLoad_eq (x : BU) (a1 a2 : Int) (h : oneB x = true) (h1 : inR a1 (-4000) 4500 = true) (h2 : inR a2 0 23 = true) : impl_Building_load.f x.f0 x.f1 x.f2 x.f3 x.f4 x.f5 a1 a2 = some (loadV x a1 a2) := by
  obtain ⟨b1, b2, b3, b4, b5, b6, b7, b8⟩ := bounds x a1 a2 h h1 h2
  unfold impl_Building_load.f
  rw [if_pos b1, if_pos b2, w64 (x := x.f2 * rd x.f5 a2) (by omega) (by omega), divRound_eq _ _ (by omega) (by omega) (by omega) (by omega) (by omega), Option.bind_some, w64 (x := x.f4 - a1) (by omega) (by omega), w64 (x := x.f3 * mx (x.f4 - a1) 0) (by omega) (by omega), divRound_eq _ _ (by omega) (by omega) (by omega) (by omega) (by omega)]
  rfl
def res (x : BU) (a1 a2 : Int) : Int × Int := if oneB x = true then (if inR a1 (-4000) 4500 = true then (if inR a2 0 23 = true then (loadV x a1 a2, 0) else (0, 2)) else (0, 2)) else (0, 1)
theorem spec_ev (x : BU) (a1 a2 : Int) (h : x.f0.size < 9223372036854775807) : Ev (fun k => spec_LoadOf.f k x.f0 x.f1 x.f2 x.f3 x.f4 x.f5 a1 a2) (res x a1 a2) := by
  unfold spec_LoadOf.f res spec_l05Outdoor.f spec_l05Hour.f
  refine Ev.bind (specOneB_ev x h) ?_
  by_cases c : oneB x = true
  · simp only [if_pos c, l00In_r, Option.bind_some]
    by_cases c1 : inR a1 (-4000) 4500 = true
    · simp only [if_pos c1]
      by_cases c2 : inR a2 0 23 = true
      · have e : spec_l05Load.f [(⟨x.f0, x.f1, x.f2, x.f3, x.f4, x.f5⟩ : BU)] a1 a2 = some (loadV x a1 a2) := specLoad_eq x a1 a2 c c1 c2
        simp only [if_pos c2, e, Option.bind_some]; exact Ev.now _
      · simp only [if_neg c2]; exact Ev.now _
    · simp only [if_neg c1]; exact Ev.now _
  · simp only [if_neg c]; exact Ev.now _
theorem impl_ev (x : BU) (a1 a2 : Int) (h : x.f0.size < 9223372036854775807) : Ev (fun k => impl_LoadOf.f k x.f0 x.f1 x.f2 x.f3 x.f4 x.f5 a1 a2) (res x a1 a2) := by
  unfold impl_LoadOf.f res impl_outdoorOk.f impl_hourOk.f
  refine Ev.bind (implOneB_ev x h) ?_
  by_cases c : oneB x = true
  · simp only [if_pos c, within_r, Option.bind_some]
    by_cases c1 : inR a1 (-4000) 4500 = true
    · simp only [if_pos c1]
      by_cases c2 : inR a2 0 23 = true
      · simp only [if_pos c2, implLoad_eq x a1 a2 c c1 c2, Option.bind_some]; exact Ev.now _
      · simp only [if_neg c2]; exact Ev.now _
    · simp only [if_neg c1]; exact Ev.now _
  · simp only [if_neg c]; exact Ev.now _
end Go.Proofs.Ytkpjhohkopgdfaa.PFnExactLoadOf
namespace Go.Proofs.Ytkpjhohkopgdfaa.Pure
open Go.RowKit Go.Proofs.YtkpjhohkopgdfaaW.PrintWords Go.Proofs.YtkpjhohkopgdfaaW.PLib Go.Proofs.Ytkpjhohkopgdfaa.PFnExactLoadOf

theorem FnExactLoadOf : PFnExactLoadOf.Pure := by
  intro x a1 a2 hx _ _
  have hs : x.f0.size < 9223372036854775807 := by have h1 : x.f0.size ≤ 140737488351232 := hx.1; omega
  have h5 : x.f5.length * 8 ≤ 140737488351232 := hx.2.2.2.2.2.2.1
  obtain ⟨r, hr⟩ := sz1 x.f0 x.f1 x.f2 x.f3 x.f4 x.f5 1048576
  have hto : Ev (fun k => laws_toBuilding.f k x.f0 x.f1 x.f2 x.f3 x.f4 x.f5) (x.f0, x.f1, x.f2, x.f3, x.f4, x.f5) := by
    unfold laws_toBuilding.f
    exact Ev.bind (toInts_ev x.f5 h5) (Ev.now _)
  have heq : Ev (fun k => laws_eqBuilding.f k x.f0 x.f1 x.f2 x.f3 x.f4 x.f5 x.f0 x.f1 x.f2 x.f3 x.f4 x.f5) true := by
    unfold laws_eqBuilding.f
    simp only [if_true]
    refine Ev.bind (eqInts_ev x.f5 (by omega)) ?_
    simp only [if_true]; exact Ev.now _
  refine Ev.get ?_
  unfold laws_FnExactLoadOf.f
  simp only [hr, Option.bind_some]
  by_cases c : r < 0
  · simp only [if_pos c]; exact Ev.now _
  simp only [if_neg c]
  refine Ev.bind hto (Ev.bind (spec_ev ⟨x.f0, x.f1, x.f2, x.f3, x.f4, x.f5⟩ a1 a2 hs) (Ev.bind hto (Ev.bind (impl_ev ⟨x.f0, x.f1, x.f2, x.f3, x.f4, x.f5⟩ a1 a2 hs) ?_)))
  simp only [bne_self_eq_false, if_true]
  refine Ev.succ ?_
  simp only [laws_FnExactLoadOf.j0, Bool.false_eq_true, if_false]
  refine Ev.bind hto (Ev.bind heq ?_)
  simp only [if_true]; exact Ev.now _
end Go.Proofs.Ytkpjhohkopgdfaa.Pure

