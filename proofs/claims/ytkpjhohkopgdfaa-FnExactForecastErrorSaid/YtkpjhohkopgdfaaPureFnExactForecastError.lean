/- The law FnExactForecastError, in numbers and lists alone: the program's ForecastError and the reference's give one answer, and what they are handed stays as it was. No condition. -/
import Derived.Test.YtkpjhohkopgdfaaQFnExactForecastError
import Derived.Test.YtkpjhohkopgdfaaPLib
set_option linter.unusedVariables false
set_option linter.unusedSimpArgs false
namespace Go.Proofs.Ytkpjhohkopgdfaa.PFnExactForecastError
open Go.RowKit Go.Proofs.YtkpjhohkopgdfaaW.PrintWords Go.Proofs.YtkpjhohkopgdfaaW.PLib

theorem l00In_eq (a b c : Int) : spec_l00In.f a b c = some (decide (b ≤ a) && decide (a ≤ c)) := by
  unfold spec_l00In.f; by_cases h : a ≥ b
  · rw [if_pos h]; simp [show b ≤ a from h]
  · rw [if_neg h]; simp [show ¬ b ≤ a from h]

theorem within_eq (a b c : Int) : impl_within.f a b c = some (decide (b ≤ a) && decide (a ≤ c)) := by
  unfold impl_within.f; by_cases h : a ≥ b
  · rw [if_pos h]; simp [show b ≤ a from h]
  · rw [if_neg h]; simp [show ¬ b ≤ a from h]

/-! Reading -/
theorem rdl_Reading (xs : List S115) (i : Nat) (h : i < xs.length) : rd_T115 xs (i : Int) = xs[i] := by unfold rd_T115; exact getD_cast xs i h _
theorem rdi_Reading (xs : List S113) (i : Nat) (h : i < xs.length) : rd_T113 xs (i : Int) = xs[i] := by unfold rd_T113; exact getD_cast xs i h _
theorem rd1_Reading (x : S113) : rd_T113 [x] 0 = x := rfl
def cvReading (x : S115) : S113 := ⟨x.f0, x.f1⟩
theorem toReading_ev (xs : List S115) (hl : xs.length * 16 ≤ 140737488351232) : Ev (fun k => laws_toReadingS.f k xs) (xs.map cvReading) := by
  refine ⟨xs.length + 1, fun k hk => ?_⟩
  simp only [laws_toReadingS.f]
  rw [if_pos (by omega), if_pos (by omega)]
  refine to_loop (fun k ys i => laws_toReadingS.l0 k xs ys i) xs cvReading (fun k ys i h hy => ?_) (fun k ys hy => ?_) _ (by simp) k (by omega)
  · simp only [laws_toReadingS.l0]
    rw [if_pos (by omega), if_pos (by omega)]
    simp only [laws_toReading.f, Option.bind_some, rdl_Reading xs i h]
    rw [if_pos (by omega), w64s (by omega)]
    rfl
  · simp only [laws_toReadingS.l0]
    rw [if_neg (by omega)]
theorem eqReading_ev (xs : List S113) (hl : xs.length < 9223372036854775807) : Ev (fun k => laws_eqReadingS.f k xs xs) true := by
  unfold laws_eqReadingS.f
  simp only [if_true]
  have := all_ev (fun k i => laws_eqReadingS.l0 k xs xs i) xs.length true (fun _ => true) (fun i hi => ⟨0, fun k _ => ?_⟩) ⟨0, fun k _ => ?_⟩
  · rw [allB_const] at this; exact this
  · simp only [laws_eqReadingS.l0]
    rw [if_pos (by omega), if_pos (by omega), if_pos (by omega)]
    simp only [laws_eqReading.f, if_true, bne_self_eq_false, Bool.false_eq_true, if_false, Option.bind_some, w64s (show i < 9223372036854775807 by omega)]
  · simp only [laws_eqReadingS.l0]
    rw [if_neg (by omega)]
theorem szReading_ev (xs : List S115) (a : Int) (hl : xs.length < 9223372036854775807) : ∃ r, laws_szReadingS.f xs a = some r := by
  unfold laws_szReadingS.f
  split
  all_goals exact ⟨_, rfl⟩

/-! valid lists of Reading -/
def oneReading (x : S113) : Bool := (decide (0 ≤ x.f0) && decide (x.f0 ≤ 100000)) && (decide (0 ≤ x.f1) && decide (x.f1 ≤ 1000000000))
def adjReading (p x : S113) : Bool := decide (p.f0 < x.f0) && decide (p.f1 ≤ x.f1)
def okReading (xs : List S113) (i : Nat) : Bool := if h : i < xs.length then oneReading xs[i] && (decide (i = 0) || adjReading xs[i - 1] xs[i]) else false
def validReading (xs : List S113) : Bool := allB (okReading xs) xs.length && decide ((xs.length : Int) ≤ 48)
def smReading (x : S113) : Prop := True
def smallReading (xs : List S113) : Prop := xs.length < 9223372036854775807 ∧ ∀ x ∈ xs, smReading x
theorem specOneReading_ev (x : S113) (h : smReading x) : Ev (fun k => spec_l06One.f [x]) (oneReading x) := by
  refine Ev.all fun k => ?_
  unfold spec_l06One.f oneReading
  rw [if_pos (by simp)]
  simp only [rd1_Reading, Option.bind_some, l00In_eq, spec_l06Counter.f, ifs, ifn]
theorem implOneReading_ev (x : S113) (h : smReading x) : Ev (fun k => impl_Reading_valid.f x.f0 x.f1) (oneReading x) := by
  refine Ev.all fun k => ?_
  unfold impl_Reading_valid.f oneReading
  simp only [Option.bind_some, within_eq, spec_l06Counter.f, ifs, ifn]
theorem specReadingS_ev (xs : List S113) (h : smallReading xs) : Ev (fun k => spec_l06Ok.f k xs) (validReading xs) := by
  obtain ⟨hl, hx⟩ := h
  unfold spec_l06Ok.f validReading
  refine all_ev (fun k i => spec_l06Ok.l0 k xs i) xs.length _ (okReading xs) (fun i hi => ?_) ⟨0, fun k _ => ?_⟩
  · refine Ev.with_ (specOneReading_ev xs[i] (hx _ (List.getElem_mem hi))) fun k e => ?_
    simp only [spec_l06Ok.l0]
    rw [if_pos (by omega), if_pos (by omega), rdi_Reading xs i hi, e, Option.bind_some, w64s (by omega)]
    by_cases c1 : oneReading xs[i] = true
    · rw [if_pos c1]
      by_cases c2 : i = 0
      · rw [if_neg (by omega), if_pos (by unfold okReading; rw [dif_pos hi, c1, decide_eq_true c2]; rfl)]
      · have e1 : wrap64 ((i : Int) - 1) = ((i - 1 : Nat) : Int) := by rw [w64] <;> omega
        rw [if_pos (by omega), e1, if_pos (by omega), if_pos (by omega), rdi_Reading xs (i - 1) (by omega)]
        rw [show okReading xs i = adjReading xs[i - 1] xs[i] from by unfold okReading; rw [dif_pos hi, c1, decide_eq_false c2, Bool.true_and, Bool.false_or]]
        unfold adjReading
        (by_cases c3 : xs[i - 1].f0 < xs[i].f0; (rw [if_neg (by omega)]; by_cases c4 : xs[i - 1].f1 ≤ xs[i].f1; (rw [if_neg (by omega)]; simp [c3, c4]); (rw [if_pos (by omega)]; simp [c4])); (rw [if_pos (by omega)]; simp [c3]))
    · rw [if_neg c1, if_neg (by unfold okReading; simp only [Bool.not_eq_true] at c1; rw [dif_pos hi, c1]; simp)]
  · simp only [spec_l06Ok.l0]
    rw [if_neg (by omega)]
theorem implReadingS_ev (xs : List S113) (h : smallReading xs) : Ev (fun k => impl_ValidReadings.f k xs) (validReading xs) := by
  obtain ⟨hl, hx⟩ := h
  unfold impl_ValidReadings.f validReading
  by_cases c : (xs.length : Int) > 48
  · simp only [if_pos c]
    rw [decide_eq_false (show ¬ (xs.length : Int) ≤ 48 by omega), Bool.and_false]; exact Ev.now _
  simp only [if_neg c]
  rw [decide_eq_true (show (xs.length : Int) ≤ 48 by omega)]
  refine all_ev (fun k i => impl_ValidReadings.l0 k xs xs (xs.length : Int) i) xs.length true (okReading xs) (fun i hi => ?_) ⟨0, fun k _ => ?_⟩
  · refine Ev.with_ (implOneReading_ev xs[i] (hx _ (List.getElem_mem hi))) fun k e => ?_
    simp only [impl_ValidReadings.l0]
    rw [if_pos (by omega), if_pos (by omega), if_pos (by omega), rdi_Reading xs i hi, e, Option.bind_some, w64s (by omega)]
    by_cases c1 : oneReading xs[i] = true
    · rw [if_pos c1]
      by_cases c2 : i = 0
      · rw [if_neg (by omega), if_pos (by unfold okReading; rw [dif_pos hi, c1, decide_eq_true c2]; rfl)]
      · have e1 : wrap64 ((i : Int) - 1) = ((i - 1 : Nat) : Int) := by rw [w64] <;> omega
        rw [if_pos (by omega), e1, if_pos (by omega), if_pos (by omega), rdi_Reading xs (i - 1) (by omega)]
        rw [show okReading xs i = adjReading xs[i - 1] xs[i] from by unfold okReading; rw [dif_pos hi, c1, decide_eq_false c2, Bool.true_and, Bool.false_or]]
        unfold adjReading
        (by_cases c3 : xs[i - 1].f0 < xs[i].f0; (rw [if_neg (by omega)]; by_cases c4 : xs[i - 1].f1 ≤ xs[i].f1; (rw [if_neg (by omega)]; simp [c3, c4]); (rw [if_pos (by omega)]; simp [c4])); (rw [if_pos (by omega)]; simp [c3]))
    · rw [if_neg c1, if_neg (by unfold okReading; simp only [Bool.not_eq_true] at c1; rw [dif_pos hi, c1]; simp)]
  · simp only [impl_ValidReadings.l0]
    rw [if_neg (by omega)]
theorem validReading_len {xs : List S113} (h : validReading xs = true) : (xs.length : Int) ≤ 48 := by
  unfold validReading at h
  simp only [Bool.and_eq_true, decide_eq_true_eq] at h
  exact h.2
theorem validReading_at {xs : List S113} (h : validReading xs = true) (i : Nat) (hi : i < xs.length) : oneReading xs[i] = true ∧ (0 < i → adjReading xs[i - 1] xs[i] = true) := by
  unfold validReading at h
  simp only [Bool.and_eq_true] at h
  have := allB_true.1 h.1 i hi
  unfold okReading at this
  rw [dif_pos hi] at this
  simp only [Bool.and_eq_true, Bool.or_eq_true, decide_eq_true_eq] at this
  exact ⟨this.1, fun h0 => by rcases this.2 with h1 | h1; omega; exact h1⟩


theorem rd_at (xs : List Int) (i : Nat) (h : i < xs.length) : rd xs (i : Int) = xs[i] := by unfold rd; exact getD_cast xs i h _
theorem eqInts_ev (xs : List Int) (hl : xs.length < 9223372036854775807) : Ev (fun k => laws_eqInt64S.f k xs xs) true := by
  unfold laws_eqInt64S.f
  simp only [if_true]
  have := all_ev (fun k i => laws_eqInt64S.l0 k xs xs i) xs.length true (fun _ => true) (fun i hi => ⟨0, fun k _ => ?_⟩) ⟨0, fun k _ => ?_⟩
  · rw [allB_const] at this; exact this
  · simp only [laws_eqInt64S.l0]
    rw [if_pos (by omega), if_pos (by omega), if_pos (by omega)]
    simp only [if_true, w64s (show i < 9223372036854775807 by omega)]
  · simp only [laws_eqInt64S.l0]
    rw [if_neg (by omega)]

theorem toInts_ev (xs : List Int) (hl : xs.length * 8 ≤ 140737488351232) : Ev (fun k => laws_toInt64S.f k xs) xs := by
  refine ⟨xs.length + 1, fun k hk => ?_⟩
  simp only [laws_toInt64S.f]
  rw [if_pos (by omega), if_pos (by omega)]
  have h := to_loop (fun k ys i => laws_toInt64S.l0 k xs ys i) xs id (fun k ys i h hy => ?_) (fun k ys hy => ?_) (List.replicate ((xs.length : Int) : Int).toNat 0) (by simp) k (by omega)
  · rw [List.map_id] at h; exact h
  · simp only [laws_toInt64S.l0]
    rw [if_pos (by omega), if_pos (by omega), if_pos (by omega), w64s (by omega), rd_at xs i h]
    rfl
  · simp only [laws_toInt64S.l0]
    rw [if_neg (by omega)]

/-! the nearest quotient, as the reference and as the program reckon it -/
theorem near (a b : Int) (ha : 0 ≤ a) (hb : 0 < b) : (2 * a + b) / (2 * b) = if a % b ≥ b - a % b then a / b + 1 else a / b := by
  have h1 : b * (a / b) + a % b = a := Int.mul_ediv_add_emod a b
  have h2 : 0 ≤ a % b := Int.emod_nonneg a (by omega)
  have h3 : a % b < b := Int.emod_lt_of_pos a hb
  generalize hq : a / b = q at *
  generalize hr : a % b = r at *
  have e : 2 * a + b = (2 * r + b) + (2 * b) * q := by
    rw [← h1, Int.mul_add, ← Int.mul_assoc]; omega
  rw [e, Int.add_mul_ediv_left _ _ (by omega)]
  by_cases c : r ≥ b - r
  · rw [if_pos c]
    have : (2 * r + b) / (2 * b) = 1 := by
      rw [Int.ediv_eq_iff_of_pos (by omega)]
      constructor <;> omega
    omega
  · rw [if_neg c]
    have : (2 * r + b) / (2 * b) = 0 := Int.ediv_eq_zero_of_lt (by omega) (by omega)
    omega
/-- The nearest quotient of two whole numbers, away from 0 where two are as near. -/
def rdiv (a b : Int) : Int := if b < 0 then (if a > 0 then -((2 * a + -b) / (2 * -b)) else (2 * -a + -b) / (2 * -b)) else if a < 0 then -((2 * -a + b) / (2 * b)) else (2 * a + b) / (2 * b)
theorem quo_le (x y B : Int) (hx : 0 ≤ x) (hy : 0 < y) (h : x ≤ B) : 0 ≤ x / y ∧ x / y ≤ B := ⟨Int.ediv_nonneg hx (by omega), Int.le_trans (Int.ediv_le_self _ hx) h⟩
theorem l01Div_eq (a b : Int) (hb : b ≠ 0) (h1 : -1152921504606846976 ≤ a) (h2 : a ≤ 1152921504606846976) (h3 : -1152921504606846976 ≤ b) (h4 : b ≤ 1152921504606846976) : spec_l01Div.f a b = some (rdiv a b) := by
  unfold spec_l01Div.f rdiv
  by_cases c1 : b < 0
  · rw [if_pos c1, if_pos c1, w64 (x := -a) (by omega) (by omega), w64 (x := -b) (by omega) (by omega), w64 (x := 2 * -b) (by omega) (by omega), w64 (x := 2 * -a) (by omega) (by omega)]
    by_cases c2 : a > 0
    · rw [if_pos c2, if_pos (by omega), if_neg (by omega)]
      have q := quo_le (2 * a + -b) (2 * -b) 4611686018427387904 (by omega) (by omega) (by omega)
      rw [w64 (x := -b - 2 * -a) (by omega) (by omega), show -b - 2 * -a = 2 * a + -b by omega, Int.tdiv_eq_ediv_of_nonneg (by omega), w64 (x := (2 * a + -b) / (2 * -b)) (by omega) (by omega), w64 (by omega) (by omega)]
    · rw [if_neg c2, if_neg (by omega), if_neg (by omega)]
      have q := quo_le (2 * -a + -b) (2 * -b) 4611686018427387904 (by omega) (by omega) (by omega)
      rw [w64 (x := 2 * -a + -b) (by omega) (by omega), Int.tdiv_eq_ediv_of_nonneg (by omega), w64 (by omega) (by omega)]
  · rw [if_neg c1, if_neg c1, w64 (x := 2 * b) (by omega) (by omega), w64 (x := 2 * a) (by omega) (by omega)]
    by_cases c2 : a < 0
    · rw [if_pos c2, if_pos c2, if_neg (by omega)]
      have q := quo_le (2 * -a + b) (2 * b) 4611686018427387904 (by omega) (by omega) (by omega)
      rw [w64 (x := b - 2 * a) (by omega) (by omega), show b - 2 * a = 2 * -a + b by omega, Int.tdiv_eq_ediv_of_nonneg (by omega), w64 (x := (2 * -a + b) / (2 * b)) (by omega) (by omega), w64 (by omega) (by omega)]
    · rw [if_neg c2, if_neg c2, if_neg (by omega)]
      have q := quo_le (2 * a + b) (2 * b) 4611686018427387904 (by omega) (by omega) (by omega)
      rw [w64 (x := 2 * a + b) (by omega) (by omega), Int.tdiv_eq_ediv_of_nonneg (by omega), w64 (by omega) (by omega)]
theorem abs_eq (n : Int) (h1 : -1152921504606846976 ≤ n) (h2 : n ≤ 1152921504606846976) : impl_abs.f n = some (if n < 0 then -n else n) := by
  unfold impl_abs.f mx
  rw [w64 (by omega) (by omega)]
  congr 1
  split <;> split <;> omega
theorem divRound_eq (a b : Int) (hb : b ≠ 0) (h1 : -1152921504606846976 ≤ a) (h2 : a ≤ 1152921504606846976) (h3 : -1152921504606846976 ≤ b) (h4 : b ≤ 1152921504606846976) : impl_divRound.f a b = some (rdiv a b) := by
  unfold impl_divRound.f
  rw [if_neg hb]
  -- the parts of a and b
  obtain ⟨m, hm, hma⟩ : ∃ m : Int, 0 ≤ m ∧ (a = m ∨ a = -m ∧ 0 < m) := by
    rcases Int.lt_or_le a 0 with h | h
    · exact ⟨-a, by omega, .inr ⟨by omega, by omega⟩⟩
    · exact ⟨a, h, .inl rfl⟩
  obtain ⟨n, hn, hnb⟩ : ∃ n : Int, 0 < n ∧ (b = n ∨ b = -n) := by
    rcases Int.lt_or_le b 0 with h | h
    · exact ⟨-b, by omega, .inr (by omega)⟩
    · exact ⟨b, by omega, .inl rfl⟩
  have N := near m n hm hn
  have q1 : 0 ≤ m / n := Int.ediv_nonneg hm (by omega)
  have q2 : m / n ≤ m := Int.ediv_le_self _ hm
  have r1 : 0 ≤ m % n := Int.emod_nonneg m (by omega)
  have r2 : m % n < n := Int.emod_lt_of_pos m hn
  have td : Int.tdiv m n = m / n := Int.tdiv_eq_ediv_of_nonneg hm
  have tm : Int.tmod m n = m % n := Int.tmod_eq_emod_of_nonneg hm
  rcases hma with rfl | ⟨rfl, hm0⟩ <;> rcases hnb with rfl | rfl
  · rw [td, tm, abs_eq _ (by omega) (by omega), abs_eq _ (by omega) (by omega)]
    simp only [Option.bind_some]
    rw [if_neg (show ¬ a % b < 0 by omega), if_neg (show ¬ b < 0 by omega), w64 (x := b - a % b) (by omega) (by omega), w64 (x := a / b) (by omega) (by omega)]
    unfold rdiv
    rw [if_neg (show ¬ b < 0 by omega), if_neg (show ¬ a < 0 by omega), N]
    by_cases c : a % b ≥ b - a % b
    · rw [if_pos c, if_pos c, if_pos (by rw [decide_eq_false (show ¬ a < 0 by omega), decide_eq_false (show ¬ b < 0 by omega)]; decide), w64 (by omega) (by omega)]
    · rw [if_neg c, if_neg c]
  · rw [Int.tdiv_neg, Int.tmod_neg, td, tm, abs_eq _ (by omega) (by omega), abs_eq _ (by omega) (by omega)]
    simp only [Option.bind_some]
    rw [if_neg (show ¬ a % n < 0 by omega), if_pos (show -n < 0 by omega), Int.neg_neg, w64 (x := n - a % n) (by omega) (by omega), w64 (x := -(a / n)) (by omega) (by omega)]
    unfold rdiv
    rw [if_pos (show -n < 0 by omega), Int.neg_neg]
    by_cases c : a % n ≥ n - a % n
    · rw [if_pos c] at N
      rw [if_pos c]
      by_cases z : a > 0
      · rw [if_pos z, if_neg (by rw [decide_eq_false (show ¬ a < 0 by omega), decide_eq_true (show -n < 0 by omega)]; decide), N, w64 (by omega) (by omega)]
        congr 1; omega
      · have : a = 0 := by omega
        subst this
        simp at c
        omega
    · rw [if_neg c] at N
      rw [if_neg c]
      by_cases z : a > 0
      · rw [if_pos z, N]
      · have : a = 0 := by omega
        subst this
        rw [if_neg z]
        simp only [Int.neg_zero, Int.mul_zero, Int.zero_add, Int.zero_ediv] at N ⊢
        congr 1; omega
  · rw [Int.neg_tdiv, Int.neg_tmod, td, tm, abs_eq _ (by omega) (by omega), abs_eq _ (by omega) (by omega)]
    simp only [Option.bind_some]
    have ab : (if -(m % b) < 0 then - -(m % b) else -(m % b)) = m % b := by split <;> omega
    rw [ab, if_neg (show ¬ b < 0 by omega), w64 (x := b - m % b) (by omega) (by omega), w64 (x := -(m / b)) (by omega) (by omega)]
    unfold rdiv
    rw [if_neg (show ¬ b < 0 by omega), if_pos (show -m < 0 by omega), Int.neg_neg, N]
    by_cases c : m % b ≥ b - m % b
    · rw [if_pos c, if_pos c, if_neg (by rw [decide_eq_false (show ¬ b < 0 by omega), decide_eq_true (show -m < 0 by omega)]; decide), w64 (by omega) (by omega)]
      congr 1; omega
    · rw [if_neg c, if_neg c]
  · rw [Int.neg_tdiv, Int.neg_tmod, Int.tdiv_neg, Int.tmod_neg, td, tm, abs_eq _ (by omega) (by omega), abs_eq _ (by omega) (by omega)]
    simp only [Option.bind_some]
    have ab : (if -(m % n) < 0 then - -(m % n) else -(m % n)) = m % n := by split <;> omega
    rw [ab, if_pos (show -n < 0 by omega), Int.neg_neg, Int.neg_neg, w64 (x := n - m % n) (by omega) (by omega), w64 (x := m / n) (by omega) (by omega)]
    unfold rdiv
    rw [if_pos (show -n < 0 by omega), if_neg (show ¬ -m > 0 by omega), Int.neg_neg, Int.neg_neg, N]
    by_cases c : m % n ≥ n - m % n
    · rw [if_pos c, if_pos c, if_pos (by rw [decide_eq_true (show -n < 0 by omega), decide_eq_true (show -m < 0 by omega)]; decide), w64 (by omega) (by omega)]
    · rw [if_neg c, if_neg c]

/-! powers between readings -/
abbrev RE := S113
def pw (xs : List RE) (j : Nat) : Int := rdiv ((xs.getD j z113).f1 - (xs.getD (j - 1) z113).f1) ((xs.getD j z113).f0 - (xs.getD (j - 1) z113).f0)
def powers (xs : List RE) (i : Nat) : List Int := (List.range (i - 1)).map (fun j => pw xs (j + 1))
theorem powers_len (xs : List RE) (i : Nat) : (powers xs i).length = i - 1 := by simp [powers]
theorem powers_succ (xs : List RE) (i : Nat) (h : 1 ≤ i) : powers xs i ++ [pw xs i] = powers xs (i + 1) := by
  unfold powers
  rw [show i + 1 - 1 = (i - 1) + 1 by omega, List.range_succ, List.map_append]
  simp only [List.map_cons, List.map_nil]
  rw [show i - 1 + 1 = i by omega]
theorem reading_diffs (xs : List RE) (h : validReading xs = true) (i : Nat) (h1 : 1 ≤ i) (hi : i < xs.length) :
    1 ≤ xs[i].f0 - xs[i - 1].f0 ∧ xs[i].f0 - xs[i - 1].f0 ≤ 100000 ∧ 0 ≤ xs[i].f1 - xs[i - 1].f1 ∧ xs[i].f1 - xs[i - 1].f1 ≤ 1000000000 := by
  obtain ⟨a, b⟩ := validReading_at h i hi
  obtain ⟨c, _⟩ := validReading_at h (i - 1) (by omega)
  have b := b (by omega)
  unfold oneReading at a c
  unfold adjReading at b
  simp only [Bool.and_eq_true, decide_eq_true_eq] at a b c
  omega
theorem specPowers_ev (xs : List RE) (h : validReading xs = true) : Ev (fun k => spec_l06Powers.f k xs) (powers xs xs.length) := by
  have hl := validReading_len h
  unfold spec_l06Powers.f
  rcases Nat.eq_zero_or_pos xs.length with h0 | h0
  · refine Ev.succ ?_
    simp only [spec_l06Powers.l0, if_neg (show ¬ (1 : Int) < (xs.length : Int) by omega), h0]; exact Ev.now _
  refine fold_from (fun k s i => spec_l06Powers.l0 k xs s i) 1 xs.length (powers xs) (powers xs xs.length) h0 (fun i h1 hi r hr => ?_) ?_
  · have e1 : wrap64 ((i : Int) - 1) = ((i - 1 : Nat) : Int) := by rw [w64] <;> omega
    have dd := reading_diffs xs h i h1 hi
    refine Ev.succ ?_
    simp only [spec_l06Powers.l0, if_pos (show (i : Int) < (xs.length : Int) by omega), if_pos (show 0 ≤ (i : Int) by omega), e1, if_pos (show 0 ≤ ((i - 1 : Nat) : Int) by omega), if_pos (show ((i - 1 : Nat) : Int) < (xs.length : Int) by omega),
      rdi_Reading xs i hi, rdi_Reading xs (i - 1) (by omega), w64 (x := xs[i].f1 - xs[i - 1].f1) (by omega) (by omega), w64 (x := xs[i].f0 - xs[i - 1].f0) (by omega) (by omega),
      l01Div_eq _ _ (show xs[i].f0 - xs[i - 1].f0 ≠ 0 by omega) (show _ ≤ xs[i].f1 - xs[i - 1].f1 by omega) (by omega) (by omega) (by omega), Option.bind_some, powers_len, if_pos (show i - 1 < 17592186044416 by omega), w64s (show i < 9223372036854775807 by omega)]
    have e2 : rdiv (xs[i].f1 - xs[i - 1].f1) (xs[i].f0 - xs[i - 1].f0) = pw xs i := by
      unfold pw
      rw [List.getD_eq_getElem?_getD, List.getD_eq_getElem?_getD, List.getElem?_eq_getElem hi, List.getElem?_eq_getElem (show i - 1 < xs.length by omega)]; rfl
    rw [e2, powers_succ xs i h1]
    exact hr
  · refine Ev.succ ?_
    simp only [spec_l06Powers.l0, if_neg (show ¬ (xs.length : Int) < (xs.length : Int) by omega)]; exact Ev.now _
theorem implPowers_ev (xs : List RE) (h : validReading xs = true) : Ev (fun k => impl_powersOf.f k xs) (powers xs xs.length) := by
  have hl := validReading_len h
  unfold impl_powersOf.f
  rcases Nat.eq_zero_or_pos xs.length with h0 | h0
  · refine Ev.succ ?_
    simp only [impl_powersOf.l0, if_neg (show ¬ (1 : Int) < (xs.length : Int) by omega), h0]; exact Ev.now _
  refine fold_from (fun k s i => impl_powersOf.l0 k xs s i) 1 xs.length (powers xs) (powers xs xs.length) h0 (fun i h1 hi r hr => ?_) ?_
  · have e1 : wrap64 ((i : Int) - 1) = ((i - 1 : Nat) : Int) := by rw [w64] <;> omega
    have dd := reading_diffs xs h i h1 hi
    refine Ev.succ ?_
    simp only [impl_powersOf.l0, if_pos (show (i : Int) < (xs.length : Int) by omega), if_pos (show 0 ≤ (i : Int) by omega), e1, if_pos (show 0 ≤ ((i - 1 : Nat) : Int) by omega), if_pos (show ((i - 1 : Nat) : Int) < (xs.length : Int) by omega),
      rdi_Reading xs i hi, rdi_Reading xs (i - 1) (by omega), w64 (x := xs[i].f1 - xs[i - 1].f1) (by omega) (by omega), w64 (x := xs[i].f0 - xs[i - 1].f0) (by omega) (by omega),
      if_neg (show ¬ xs[i].f0 - xs[i - 1].f0 = 0 by omega), divRound_eq _ _ (show xs[i].f0 - xs[i - 1].f0 ≠ 0 by omega) (show _ ≤ xs[i].f1 - xs[i - 1].f1 by omega) (by omega) (by omega) (by omega), Option.bind_some, powers_len, if_pos (show i - 1 < 17592186044416 by omega), w64s (show i < 9223372036854775807 by omega)]
    have e2 : rdiv (xs[i].f1 - xs[i - 1].f1) (xs[i].f0 - xs[i - 1].f0) = pw xs i := by
      unfold pw
      rw [List.getD_eq_getElem?_getD, List.getD_eq_getElem?_getD, List.getElem?_eq_getElem hi, List.getElem?_eq_getElem (show i - 1 < xs.length by omega)]; rfl
    rw [e2, powers_succ xs i h1]
    exact hr
  · refine Ev.succ ?_
    simp only [impl_powersOf.l0, if_neg (show ¬ (xs.length : Int) < (xs.length : Int) by omega)]; exact Ev.now _

/-! allWithin, as a test of each place -/
def inB (lo hi : Int) (xs : List Int) (i : Nat) : Bool := decide (lo ≤ rd xs (i : Int)) && decide (rd xs (i : Int) ≤ hi)
theorem all_rd (p : Int → Bool) (xs : List Int) : xs.all p = allB (fun i => p (rd xs (i : Int))) xs.length := by
  rw [Bool.eq_iff_iff, allB_true, List.all_eq_true]
  constructor
  · intro h i hi
    rw [rd_at xs i hi]
    exact h _ (List.getElem_mem hi)
  · intro h x hx
    obtain ⟨i, hi, rfl⟩ := List.getElem_of_mem hx
    have := h i hi
    rw [rd_at xs i hi] at this
    exact this
theorem allWithin_eq (xs : List Int) (lo hi : Int) : impl_allWithin.f xs lo hi = some (allB (inB lo hi xs) xs.length) := by
  unfold impl_allWithin.f
  rw [all_rd]
  rfl
theorem inB_at {lo hi : Int} {xs : List Int} (h : allB (inB lo hi xs) xs.length = true) (i : Nat) (hi' : i < xs.length) : lo ≤ rd xs (i : Int) ∧ rd xs (i : Int) ≤ hi := by
  have := allB_true.1 h i hi'
  unfold inB at this
  simpa using this

def codeA (xs : List RE) (bs : List Int) : Int := if validReading xs = true then (if bs.length = xs.length - 1 then (if allB (inB 0 1000000000 bs) bs.length = true then 0 else 7) else 7) else 1
theorem specAsk_ev (xs : List RE) (bs : List Int) (h : smallReading xs) (hb : bs.length < 9223372036854775807) : Ev (fun k => spec_l06Ask.f k xs bs) (codeA xs bs) := by
  unfold spec_l06Ask.f codeA
  refine Ev.bind (specReadingS_ev xs h) ?_
  by_cases c : validReading xs = true
  · simp only [if_pos c]
    refine Ev.bind (specPowers_ev xs c) ?_
    simp only [powers_len]
    by_cases c2 : bs.length = xs.length - 1
    · simp only [if_pos (show (bs.length : Int) = ((xs.length - 1 : Nat) : Int) by omega), if_pos c2]
      refine scan_evE (fun k i => spec_l06Ask.l0 k bs i) bs.length 0 7 (inB 0 1000000000 bs) (fun i hi r hr => Ev.succ ?_) (Ev.succ ?_)
      · simp only [spec_l06Ask.l0, if_pos (show (i : Int) < (bs.length : Int) by omega), if_pos (show 0 ≤ (i : Int) by omega), spec_l06Counter.f, l00In_eq, Option.bind_some, w64s (show i < 9223372036854775807 by omega)]
        by_cases c4 : inB 0 1000000000 bs i = true
        · simp only [if_pos c4, if_pos (show (decide (0 ≤ rd bs (i : Int)) && decide (rd bs (i : Int) ≤ 1000000000)) = true from c4)]; exact hr
        · simp only [if_neg c4, if_neg (show ¬ (decide (0 ≤ rd bs (i : Int)) && decide (rd bs (i : Int) ≤ 1000000000)) = true from c4)]; exact Ev.now _
      · simp only [spec_l06Ask.l0, if_neg (show ¬ (bs.length : Int) < (bs.length : Int) by omega)]; exact Ev.now _
    · simp only [if_neg (show ¬ (bs.length : Int) = ((xs.length - 1 : Nat) : Int) by omega), if_neg c2]; exact Ev.now _
  · simp only [if_neg c]; exact Ev.now _
theorem implAsk_ev (xs : List RE) (bs : List Int) (h : smallReading xs) : Ev (fun k => impl_forecastCode.f k xs bs) (codeA xs bs) := by
  unfold impl_forecastCode.f codeA
  refine Ev.bind (implReadingS_ev xs h) ?_
  by_cases c : validReading xs = true
  · simp only [if_pos c]
    refine Ev.bind (implPowers_ev xs c) ?_
    simp only [powers_len, allWithin_eq, Option.bind_some]
    by_cases c2 : bs.length = xs.length - 1
    · simp only [if_pos (show (bs.length : Int) = ((xs.length - 1 : Nat) : Int) by omega), if_pos c2]
      by_cases c3 : allB (inB 0 1000000000 bs) bs.length = true
      · simp only [if_pos c3]; exact Ev.now _
      · simp only [if_neg c3]; exact Ev.now _
    · simp only [if_neg (show ¬ (bs.length : Int) = ((xs.length - 1 : Nat) : Int) by omega), if_neg c2]; exact Ev.now _
  · simp only [if_neg c]; exact Ev.now _
theorem code_at {xs : List RE} {bs : List Int} (h : codeA xs bs = 0) : validReading xs = true ∧ bs.length = xs.length - 1 ∧ ∀ i, i < bs.length → 0 ≤ rd bs (i : Int) ∧ rd bs (i : Int) ≤ 1000000000 := by
  unfold codeA at h
  by_cases c : validReading xs = true
  · rw [if_pos c] at h
    by_cases c2 : bs.length = xs.length - 1
    · rw [if_pos c2] at h
      by_cases c3 : allB (inB 0 1000000000 bs) bs.length = true
      · exact ⟨c, c2, inB_at c3⟩
      · rw [if_neg c3] at h; omega
    · rw [if_neg c2] at h; omega
  · rw [if_neg c] at h; omega
def mxa (n : Int) : Int := mx n (wrap64 (-n))
theorem specAbs_eq (n : Int) : spec_l03Abs.f n = some (mxa n) := by
  unfold spec_l03Abs.f spec_l00Max.f mxa mx
  by_cases c : n > wrap64 (-n)
  · rw [if_pos c, if_neg (by omega)]; rfl
  · rw [if_neg c]
    by_cases d : n < wrap64 (-n)
    · rw [if_pos d]; rfl
    · rw [if_neg d]
      simp only [Option.bind_some]
      congr 1; omega
theorem implAbs_eq (n : Int) : impl_abs.f n = some (mxa n) := rfl
def errs (ps bs : List Int) : Nat → Int
  | 0 => 0
  | i + 1 => wrap64 (errs ps bs i + mxa (wrap64 (rd ps (i : Int) - rdiv (rd bs (i : Int) * 1000) 1000)))
def res (xs : List RE) (bs : List Int) : Int × Int := if codeA xs bs = 0 then (errs (powers xs xs.length) bs (xs.length - 1), 0) else (0, codeA xs bs)
theorem spec_ev (xs : List RE) (bs : List Int) (h : smallReading xs) (hb : bs.length < 9223372036854775807) : Ev (fun k => spec_ForecastError.f k xs bs) (res xs bs) := by
  unfold spec_ForecastError.f res
  refine Ev.bind (specAsk_ev xs bs h hb) ?_
  by_cases c : codeA xs bs = 0
  · simp only [if_pos c]
    obtain ⟨hv, hl, ha⟩ := code_at c
    have hn := validReading_len hv
    refine Ev.bind (specPowers_ev xs hv) (Ev.bind (a := errs (powers xs xs.length) bs (xs.length - 1)) ?_ (Ev.now _))
    unfold spec_l06Error.f
    refine fold_from (fun k s i => spec_l06Error.l0 k (powers xs xs.length) bs 1000 s i) 0 (xs.length - 1) (errs (powers xs xs.length) bs) _ (Nat.zero_le _) (fun i _ hi r hr => Ev.succ ?_) (Ev.succ ?_)
    · have hi2 := ha i (by omega)
      simp only [spec_l06Error.l0, powers_len, if_pos (show (i : Int) < ((xs.length - 1 : Nat) : Int) by omega), if_pos (show 0 ≤ (i : Int) by omega), if_pos (show (i : Int) < (bs.length : Int) by omega), w64 (x := rd bs (i : Int) * 1000) (by omega) (by omega),
        l01Div_eq (rd bs (i : Int) * 1000) 1000 (by omega) (by omega) (by omega) (by omega) (by omega), specAbs_eq, Option.bind_some, w64s (show i < 9223372036854775807 by omega)]
      exact hr
    · simp only [spec_l06Error.l0, powers_len, if_neg (show ¬ ((xs.length - 1 : Nat) : Int) < ((xs.length - 1 : Nat) : Int) by omega)]; exact Ev.now _
  · simp only [if_neg c]; exact Ev.now _
theorem impl_ev (xs : List RE) (bs : List Int) (h : smallReading xs) : Ev (fun k => impl_ForecastError.f k xs bs) (res xs bs) := by
  unfold impl_ForecastError.f res
  refine Ev.bind (implAsk_ev xs bs h) ?_
  by_cases c : codeA xs bs = 0
  · simp only [if_pos c]
    obtain ⟨hv, hl, ha⟩ := code_at c
    have hn := validReading_len hv
    refine Ev.bind (implPowers_ev xs hv) (Ev.bind (a := errs (powers xs xs.length) bs (xs.length - 1)) ?_ (Ev.now _))
    unfold impl_scaledError.f
    simp only [powers_len]
    refine fold_from (fun k s i => impl_scaledError.l0 k bs 1000 s (powers xs xs.length) ((xs.length - 1 : Nat) : Int) i) 0 (xs.length - 1) (errs (powers xs xs.length) bs) _ (Nat.zero_le _) (fun i _ hi r hr => Ev.succ ?_) (Ev.succ ?_)
    · have hi2 := ha i (by omega)
      simp only [impl_scaledError.l0, powers_len, if_pos (show (i : Int) < ((xs.length - 1 : Nat) : Int) by omega), if_pos (show 0 ≤ (i : Int) by omega), if_pos (show (i : Int) < (bs.length : Int) by omega), w64 (x := rd bs (i : Int) * 1000) (by omega) (by omega),
        divRound_eq (rd bs (i : Int) * 1000) 1000 (by omega) (by omega) (by omega) (by omega) (by omega), implAbs_eq, Option.bind_some, w64s (show i < 9223372036854775807 by omega)]
      exact hr
    · simp only [impl_scaledError.l0, if_neg (show ¬ ((xs.length - 1 : Nat) : Int) < ((xs.length - 1 : Nat) : Int) by omega)]; exact Ev.now _
  · simp only [if_neg c]; exact Ev.now _
end Go.Proofs.Ytkpjhohkopgdfaa.PFnExactForecastError
namespace Go.Proofs.Ytkpjhohkopgdfaa.Pure
open Go.RowKit Go.Proofs.YtkpjhohkopgdfaaW.PrintWords Go.Proofs.YtkpjhohkopgdfaaW.PLib Go.Proofs.Ytkpjhohkopgdfaa.PFnExactForecastError

theorem FnExactForecastError : PFnExactForecastError.Pure := by
  intro xs bs hx hb
  obtain ⟨_, hl, hw⟩ := hx
  obtain ⟨_, hbl, _⟩ := hb
  have hs : smallReading (xs.map cvReading) := ⟨by simp; omega, fun x _ => trivial⟩
  obtain ⟨r, hz⟩ := szReading_ev xs 1048576 (by omega)
  refine Ev.get ?_
  unfold laws_FnExactForecastError.f
  by_cases cp : (bs.length : Int) > 1048576
  · simp only [if_pos cp]; exact Ev.now _
  simp only [if_neg cp, hz, Option.bind_some]
  by_cases c : r < 0
  · simp only [if_pos c]; exact Ev.now _
  simp only [if_neg c]
  refine Ev.bind (toReading_ev xs hl) (Ev.bind (toInts_ev bs hbl) (Ev.bind (spec_ev _ _ hs (by omega)) (Ev.bind (toReading_ev xs hl) (Ev.bind (toInts_ev bs hbl) (Ev.bind (impl_ev _ _ hs) ?_)))))
  simp only [bne_self_eq_false, if_true]
  refine Ev.succ ?_
  simp only [laws_FnExactForecastError.j0, Bool.false_eq_true, if_false]
  refine Ev.bind (toReading_ev xs hl) (Ev.bind (eqReading_ev _ hs.1) ?_)
  simp only [if_true]
  refine Ev.bind (toInts_ev bs hbl) (Ev.bind (eqInts_ev _ (by omega)) ?_)
  simp only [if_true]; exact Ev.now _
end Go.Proofs.Ytkpjhohkopgdfaa.Pure

