/- The law FnExactUsedBetween, in numbers and lists alone: the program's UsedBetween and the reference's give one answer, and the readings stay as they were. No condition. -/
import Derived.Test.YtnmehknpphoolaaQFnExactUsedBetween
import Derived.Test.YtnmehknpphoolaaPLib
set_option linter.unusedVariables false
set_option linter.unusedSimpArgs false
namespace Go.Proofs.Ytnmehknpphoolaa.PFnExactUsedBetween
open Go.RowKit Go.Proofs.YtnmehknpphoolaaW.PrintWords Go.Proofs.YtnmehknpphoolaaW.PLib

theorem l00In_eq (a b c : Int) : spec_l00In.f a b c = some (decide (b ≤ a) && decide (a ≤ c)) := by
  unfold spec_l00In.f; by_cases h : a ≥ b
  · rw [if_pos h]; simp [show b ≤ a from h]
  · rw [if_neg h]; simp [show ¬ b ≤ a from h]

theorem within_eq (a b c : Int) : impl_within.f a b c = some (decide (b ≤ a) && decide (a ≤ c)) := by
  unfold impl_within.f; by_cases h : a ≥ b
  · rw [if_pos h]; simp [show b ≤ a from h]
  · rw [if_neg h]; simp [show ¬ b ≤ a from h]

/-! Reading -/
theorem rdl_Reading (xs : List S83) (i : Nat) (h : i < xs.length) : rd_T83 xs (i : Int) = xs[i] := by unfold rd_T83; exact getD_cast xs i h _
theorem rdi_Reading (xs : List S81) (i : Nat) (h : i < xs.length) : rd_T81 xs (i : Int) = xs[i] := by unfold rd_T81; exact getD_cast xs i h _
theorem rd1_Reading (x : S81) : rd_T81 [x] 0 = x := rfl
def cvReading (x : S83) : S81 := ⟨x.f0, x.f1⟩
theorem toReading_ev (xs : List S83) (hl : xs.length * 16 ≤ 140737488351232) : Ev (fun k => laws_toReadingS.f k xs) (xs.map cvReading) := by
  refine ⟨xs.length + 1, fun k hk => ?_⟩
  simp only [laws_toReadingS.f]
  rw [if_pos (by omega), if_pos (by omega)]
  refine to_loop (fun k ys i => laws_toReadingS.l0 k xs ys i) xs cvReading (fun k ys i h hy => ?_) (fun k ys hy => ?_) _ (by simp) k (by omega)
  · simp only [laws_toReadingS.l0]
    rw [if_pos (by omega), if_pos (by omega)]
    simp only [laws_toReading.f, Option.bind_some, rdl_Reading xs i h]
    rw [if_pos (by omega), w64s (by omega)]
    rfl
  · simp only [laws_toReadingS.l0]
    rw [if_neg (by omega)]
theorem eqReading_ev (xs : List S81) (hl : xs.length < 9223372036854775807) : Ev (fun k => laws_eqReadingS.f k xs xs) true := by
  unfold laws_eqReadingS.f
  simp only [if_true]
  have := all_ev (fun k i => laws_eqReadingS.l0 k xs xs i) xs.length true (fun _ => true) (fun i hi => ⟨0, fun k _ => ?_⟩) ⟨0, fun k _ => ?_⟩
  · rw [allB_const] at this; exact this
  · simp only [laws_eqReadingS.l0]
    rw [if_pos (by omega), if_pos (by omega), if_pos (by omega)]
    simp only [laws_eqReading.f, if_true, bne_self_eq_false, Bool.false_eq_true, if_false, Option.bind_some, w64s (show i < 9223372036854775807 by omega)]
  · simp only [laws_eqReadingS.l0]
    rw [if_neg (by omega)]
theorem szReading_ev (xs : List S83) (a : Int) (hl : xs.length < 9223372036854775807) : ∃ r, laws_szReadingS.f xs a = some r := by
  unfold laws_szReadingS.f
  split
  all_goals exact ⟨_, rfl⟩

/-! valid lists of Reading -/
def oneReading (x : S81) : Bool := (decide (0 ≤ x.f0) && decide (x.f0 ≤ 100000)) && (decide (0 ≤ x.f1) && decide (x.f1 ≤ 1000000000))
def adjReading (p x : S81) : Bool := decide (p.f0 < x.f0) && decide (p.f1 ≤ x.f1)
def okReading (xs : List S81) (i : Nat) : Bool := if h : i < xs.length then oneReading xs[i] && (decide (i = 0) || adjReading xs[i - 1] xs[i]) else false
def validReading (xs : List S81) : Bool := allB (okReading xs) xs.length && decide ((xs.length : Int) ≤ 48)
def smReading (x : S81) : Prop := True
def smallReading (xs : List S81) : Prop := xs.length < 9223372036854775807 ∧ ∀ x ∈ xs, smReading x
theorem specOneReading_ev (x : S81) (h : smReading x) : Ev (fun k => spec_l06One.f [x]) (oneReading x) := by
  refine Ev.all fun k => ?_
  unfold spec_l06One.f oneReading
  rw [if_pos (by simp)]
  simp only [rd1_Reading, Option.bind_some, l00In_eq, spec_l06Counter.f, ifs, ifn]
theorem implOneReading_ev (x : S81) (h : smReading x) : Ev (fun k => impl_Reading_valid.f x.f0 x.f1) (oneReading x) := by
  refine Ev.all fun k => ?_
  unfold impl_Reading_valid.f oneReading
  simp only [Option.bind_some, within_eq, spec_l06Counter.f, ifs, ifn]
theorem specReadingS_ev (xs : List S81) (h : smallReading xs) : Ev (fun k => spec_l06Ok.f k xs) (validReading xs) := by
  obtain ⟨hl, hx⟩ := h
  unfold spec_l06Ok.f validReading
  refine all_ev (fun k i => spec_l06Ok.l0 k xs i) xs.length _ (okReading xs) (fun i hi => ?_) ⟨0, fun k _ => ?_⟩
  · refine Ev.with_ (specOneReading_ev xs[i] (hx _ (List.getElem_mem hi))) fun k e => ?_
    simp only [spec_l06Ok.l0]
    rw [if_pos (by omega), if_pos (by omega), rdi_Reading xs i hi, e, Option.bind_some, w64s (by omega)]
    by_cases c1 : oneReading xs[i] = true
    · rw [if_pos c1]
      by_cases c2 : i = 0
      · rw [if_neg (by omega), if_pos (by unfold okReading; rw [dif_pos hi, c1, decide_eq_true c2]; rfl)]
      · have e1 : wrap64 ((i : Int) - 1) = ((i - 1 : Nat) : Int) := by rw [w64] <;> omega
        rw [if_pos (by omega), e1, if_pos (by omega), if_pos (by omega), rdi_Reading xs (i - 1) (by omega)]
        rw [show okReading xs i = adjReading xs[i - 1] xs[i] from by unfold okReading; rw [dif_pos hi, c1, decide_eq_false c2, Bool.true_and, Bool.false_or]]
        unfold adjReading
        (by_cases c3 : xs[i - 1].f0 < xs[i].f0; (rw [if_neg (by omega)]; by_cases c4 : xs[i - 1].f1 ≤ xs[i].f1; (rw [if_neg (by omega)]; simp [c3, c4]); (rw [if_pos (by omega)]; simp [c4])); (rw [if_pos (by omega)]; simp [c3]))
    · rw [if_neg c1, if_neg (by unfold okReading; simp only [Bool.not_eq_true] at c1; rw [dif_pos hi, c1]; simp)]
  · simp only [spec_l06Ok.l0]
    rw [if_neg (by omega)]
theorem implReadingS_ev (xs : List S81) (h : smallReading xs) : Ev (fun k => impl_ValidReadings.f k xs) (validReading xs) := by
  obtain ⟨hl, hx⟩ := h
  unfold impl_ValidReadings.f validReading
  by_cases c : (xs.length : Int) > 48
  · simp only [if_pos c]
    rw [decide_eq_false (show ¬ (xs.length : Int) ≤ 48 by omega), Bool.and_false]; exact Ev.now _
  simp only [if_neg c]
  rw [decide_eq_true (show (xs.length : Int) ≤ 48 by omega)]
  refine all_ev (fun k i => impl_ValidReadings.l0 k xs xs (xs.length : Int) i) xs.length true (okReading xs) (fun i hi => ?_) ⟨0, fun k _ => ?_⟩
  · refine Ev.with_ (implOneReading_ev xs[i] (hx _ (List.getElem_mem hi))) fun k e => ?_
    simp only [impl_ValidReadings.l0]
    rw [if_pos (by omega), if_pos (by omega), if_pos (by omega), rdi_Reading xs i hi, e, Option.bind_some, w64s (by omega)]
    by_cases c1 : oneReading xs[i] = true
    · rw [if_pos c1]
      by_cases c2 : i = 0
      · rw [if_neg (by omega), if_pos (by unfold okReading; rw [dif_pos hi, c1, decide_eq_true c2]; rfl)]
      · have e1 : wrap64 ((i : Int) - 1) = ((i - 1 : Nat) : Int) := by rw [w64] <;> omega
        rw [if_pos (by omega), e1, if_pos (by omega), if_pos (by omega), rdi_Reading xs (i - 1) (by omega)]
        rw [show okReading xs i = adjReading xs[i - 1] xs[i] from by unfold okReading; rw [dif_pos hi, c1, decide_eq_false c2, Bool.true_and, Bool.false_or]]
        unfold adjReading
        (by_cases c3 : xs[i - 1].f0 < xs[i].f0; (rw [if_neg (by omega)]; by_cases c4 : xs[i - 1].f1 ≤ xs[i].f1; (rw [if_neg (by omega)]; simp [c3, c4]); (rw [if_pos (by omega)]; simp [c4])); (rw [if_pos (by omega)]; simp [c3]))
    · rw [if_neg c1, if_neg (by unfold okReading; simp only [Bool.not_eq_true] at c1; rw [dif_pos hi, c1]; simp)]
  · simp only [impl_ValidReadings.l0]
    rw [if_neg (by omega)]
theorem validReading_len {xs : List S81} (h : validReading xs = true) : (xs.length : Int) ≤ 48 := by
  unfold validReading at h
  simp only [Bool.and_eq_true, decide_eq_true_eq] at h
  exact h.2
theorem validReading_at {xs : List S81} (h : validReading xs = true) (i : Nat) (hi : i < xs.length) : oneReading xs[i] = true ∧ (0 < i → adjReading xs[i - 1] xs[i] = true) := by
  unfold validReading at h
  simp only [Bool.and_eq_true] at h
  have := allB_true.1 h.1 i hi
  unfold okReading at this
  rw [dif_pos hi] at this
  simp only [Bool.and_eq_true, Bool.or_eq_true, decide_eq_true_eq] at this
  exact ⟨this.1, fun h0 => by rcases this.2 with h1 | h1; omega; exact h1⟩


/-! the nearest quotient, as the reference and as the program reckon it -/
theorem near (a b : Int) (ha : 0 ≤ a) (hb : 0 < b) : (2 * a + b) / (2 * b) = if a % b ≥ b - a % b then a / b + 1 else a / b := by
  have h1 : b * (a / b) + a % b = a := Int.mul_ediv_add_emod a b
  have h2 : 0 ≤ a % b := Int.emod_nonneg a (by omega)
  have h3 : a % b < b := Int.emod_lt_of_pos a hb
  generalize hq : a / b = q at *
  generalize hr : a % b = r at *
  have e : 2 * a + b = (2 * r + b) + (2 * b) * q := by
    rw [← h1, Int.mul_add, ← Int.mul_assoc]; omega
  rw [e, Int.add_mul_ediv_left _ _ (by omega)]
  by_cases c : r ≥ b - r
  · rw [if_pos c]
    have : (2 * r + b) / (2 * b) = 1 := by
      rw [Int.ediv_eq_iff_of_pos (by omega)]
      constructor <;> omega
    omega
  · rw [if_neg c]
    have : (2 * r + b) / (2 * b) = 0 := Int.ediv_eq_zero_of_lt (by omega) (by omega)
    omega
/-- The nearest quotient of two whole numbers, away from 0 where two are as near. -/
def rdiv (a b : Int) : Int := if b < 0 then (if a > 0 then -((2 * a + -b) / (2 * -b)) else (2 * -a + -b) / (2 * -b)) else if a < 0 then -((2 * -a + b) / (2 * b)) else (2 * a + b) / (2 * b)
theorem quo_le (x y B : Int) (hx : 0 ≤ x) (hy : 0 < y) (h : x ≤ B) : 0 ≤ x / y ∧ x / y ≤ B := ⟨Int.ediv_nonneg hx (by omega), Int.le_trans (Int.ediv_le_self _ hx) h⟩
theorem l01Div_eq (a b : Int) (hb : b ≠ 0) (h1 : -1152921504606846976 ≤ a) (h2 : a ≤ 1152921504606846976) (h3 : -1152921504606846976 ≤ b) (h4 : b ≤ 1152921504606846976) : spec_l01Div.f a b = some (rdiv a b) := by
  unfold spec_l01Div.f rdiv
  by_cases c1 : b < 0
  · rw [if_pos c1, if_pos c1, w64 (x := -a) (by omega) (by omega), w64 (x := -b) (by omega) (by omega), w64 (x := 2 * -b) (by omega) (by omega), w64 (x := 2 * -a) (by omega) (by omega)]
    by_cases c2 : a > 0
    · rw [if_pos c2, if_pos (by omega), if_neg (by omega)]
      have q := quo_le (2 * a + -b) (2 * -b) 4611686018427387904 (by omega) (by omega) (by omega)
      rw [w64 (x := -b - 2 * -a) (by omega) (by omega), show -b - 2 * -a = 2 * a + -b by omega, Int.tdiv_eq_ediv_of_nonneg (by omega), w64 (x := (2 * a + -b) / (2 * -b)) (by omega) (by omega), w64 (by omega) (by omega)]
    · rw [if_neg c2, if_neg (by omega), if_neg (by omega)]
      have q := quo_le (2 * -a + -b) (2 * -b) 4611686018427387904 (by omega) (by omega) (by omega)
      rw [w64 (x := 2 * -a + -b) (by omega) (by omega), Int.tdiv_eq_ediv_of_nonneg (by omega), w64 (by omega) (by omega)]
  · rw [if_neg c1, if_neg c1, w64 (x := 2 * b) (by omega) (by omega), w64 (x := 2 * a) (by omega) (by omega)]
    by_cases c2 : a < 0
    · rw [if_pos c2, if_pos c2, if_neg (by omega)]
      have q := quo_le (2 * -a + b) (2 * b) 4611686018427387904 (by omega) (by omega) (by omega)
      rw [w64 (x := b - 2 * a) (by omega) (by omega), show b - 2 * a = 2 * -a + b by omega, Int.tdiv_eq_ediv_of_nonneg (by omega), w64 (x := (2 * -a + b) / (2 * b)) (by omega) (by omega), w64 (by omega) (by omega)]
    · rw [if_neg c2, if_neg c2, if_neg (by omega)]
      have q := quo_le (2 * a + b) (2 * b) 4611686018427387904 (by omega) (by omega) (by omega)
      rw [w64 (x := 2 * a + b) (by omega) (by omega), Int.tdiv_eq_ediv_of_nonneg (by omega), w64 (by omega) (by omega)]
theorem abs_eq (n : Int) (h1 : -1152921504606846976 ≤ n) (h2 : n ≤ 1152921504606846976) : impl_abs.f n = some (if n < 0 then -n else n) := by
  unfold impl_abs.f mx
  rw [w64 (by omega) (by omega)]
  congr 1
  split <;> split <;> omega
theorem divRound_eq (a b : Int) (hb : b ≠ 0) (h1 : -1152921504606846976 ≤ a) (h2 : a ≤ 1152921504606846976) (h3 : -1152921504606846976 ≤ b) (h4 : b ≤ 1152921504606846976) : impl_divRound.f a b = some (rdiv a b) := by
  unfold impl_divRound.f
  rw [if_neg hb]
  -- the parts of a and b
  obtain ⟨m, hm, hma⟩ : ∃ m : Int, 0 ≤ m ∧ (a = m ∨ a = -m ∧ 0 < m) := by
    rcases Int.lt_or_le a 0 with h | h
    · exact ⟨-a, by omega, .inr ⟨by omega, by omega⟩⟩
    · exact ⟨a, h, .inl rfl⟩
  obtain ⟨n, hn, hnb⟩ : ∃ n : Int, 0 < n ∧ (b = n ∨ b = -n) := by
    rcases Int.lt_or_le b 0 with h | h
    · exact ⟨-b, by omega, .inr (by omega)⟩
    · exact ⟨b, by omega, .inl rfl⟩
  have N := near m n hm hn
  have q1 : 0 ≤ m / n := Int.ediv_nonneg hm (by omega)
  have q2 : m / n ≤ m := Int.ediv_le_self _ hm
  have r1 : 0 ≤ m % n := Int.emod_nonneg m (by omega)
  have r2 : m % n < n := Int.emod_lt_of_pos m hn
  have td : Int.tdiv m n = m / n := Int.tdiv_eq_ediv_of_nonneg hm
  have tm : Int.tmod m n = m % n := Int.tmod_eq_emod_of_nonneg hm
  rcases hma with rfl | ⟨rfl, hm0⟩ <;> rcases hnb with rfl | rfl
  · rw [td, tm, abs_eq _ (by omega) (by omega), abs_eq _ (by omega) (by omega)]
    simp only [Option.bind_some]
    rw [if_neg (show ¬ a % b < 0 by omega), if_neg (show ¬ b < 0 by omega), w64 (x := b - a % b) (by omega) (by omega), w64 (x := a / b) (by omega) (by omega)]
    unfold rdiv
    rw [if_neg (show ¬ b < 0 by omega), if_neg (show ¬ a < 0 by omega), N]
    by_cases c : a % b ≥ b - a % b
    · rw [if_pos c, if_pos c, if_pos (by rw [decide_eq_false (show ¬ a < 0 by omega), decide_eq_false (show ¬ b < 0 by omega)]; decide), w64 (by omega) (by omega)]
    · rw [if_neg c, if_neg c]
  · rw [Int.tdiv_neg, Int.tmod_neg, td, tm, abs_eq _ (by omega) (by omega), abs_eq _ (by omega) (by omega)]
    simp only [Option.bind_some]
    rw [if_neg (show ¬ a % n < 0 by omega), if_pos (show -n < 0 by omega), Int.neg_neg, w64 (x := n - a % n) (by omega) (by omega), w64 (x := -(a / n)) (by omega) (by omega)]
    unfold rdiv
    rw [if_pos (show -n < 0 by omega), Int.neg_neg]
    by_cases c : a % n ≥ n - a % n
    · rw [if_pos c] at N
      rw [if_pos c]
      by_cases z : a > 0
      · rw [if_pos z, if_neg (by rw [decide_eq_false (show ¬ a < 0 by omega), decide_eq_true (show -n < 0 by omega)]; decide), N, w64 (by omega) (by omega)]
        congr 1; omega
      · have : a = 0 := by omega
        subst this
        simp at c
        omega
    · rw [if_neg c] at N
      rw [if_neg c]
      by_cases z : a > 0
      · rw [if_pos z, N]
      · have : a = 0 := by omega
        subst this
        rw [if_neg z]
        simp only [Int.neg_zero, Int.mul_zero, Int.zero_add, Int.zero_ediv] at N ⊢
        congr 1; omega
  · rw [Int.neg_tdiv, Int.neg_tmod, td, tm, abs_eq _ (by omega) (by omega), abs_eq _ (by omega) (by omega)]
    simp only [Option.bind_some]
    have ab : (if -(m % b) < 0 then - -(m % b) else -(m % b)) = m % b := by split <;> omega
    rw [ab, if_neg (show ¬ b < 0 by omega), w64 (x := b - m % b) (by omega) (by omega), w64 (x := -(m / b)) (by omega) (by omega)]
    unfold rdiv
    rw [if_neg (show ¬ b < 0 by omega), if_pos (show -m < 0 by omega), Int.neg_neg, N]
    by_cases c : m % b ≥ b - m % b
    · rw [if_pos c, if_pos c, if_neg (by rw [decide_eq_false (show ¬ b < 0 by omega), decide_eq_true (show -m < 0 by omega)]; decide), w64 (by omega) (by omega)]
      congr 1; omega
    · rw [if_neg c, if_neg c]
  · rw [Int.neg_tdiv, Int.neg_tmod, Int.tdiv_neg, Int.tmod_neg, td, tm, abs_eq _ (by omega) (by omega), abs_eq _ (by omega) (by omega)]
    simp only [Option.bind_some]
    have ab : (if -(m % n) < 0 then - -(m % n) else -(m % n)) = m % n := by split <;> omega
    rw [ab, if_pos (show -n < 0 by omega), Int.neg_neg, Int.neg_neg, w64 (x := n - m % n) (by omega) (by omega), w64 (x := m / n) (by omega) (by omega)]
    unfold rdiv
    rw [if_pos (show -n < 0 by omega), if_neg (show ¬ -m > 0 by omega), Int.neg_neg, Int.neg_neg, N]
    by_cases c : m % n ≥ n - m % n
    · rw [if_pos c, if_pos c, if_pos (by rw [decide_eq_true (show -n < 0 by omega), decide_eq_true (show -m < 0 by omega)]; decide), w64 (by omega) (by omega)]
    · rw [if_neg c, if_neg c]

abbrev RE := S81
theorem reading_diffs (xs : List RE) (h : validReading xs = true) (i : Nat) (h1 : 1 ≤ i) (hi : i < xs.length) :
    1 ≤ xs[i].f0 - xs[i - 1].f0 ∧ xs[i].f0 - xs[i - 1].f0 ≤ 100000 ∧ 0 ≤ xs[i].f1 - xs[i - 1].f1 ∧ xs[i].f1 - xs[i - 1].f1 ≤ 1000000000 := by
  obtain ⟨a, b⟩ := validReading_at h i hi
  obtain ⟨c, _⟩ := validReading_at h (i - 1) (by omega)
  have b := b (by omega)
  unfold oneReading at a c
  unfold adjReading at b
  simp only [Bool.and_eq_true, decide_eq_true_eq] at a b c
  omega

/-! the search for an hour -/
abbrev RR := rd_T81
theorem hours_lt (xs : List RE) (h : validReading xs = true) (j : Nat) (hj : j < xs.length) : ∀ i, i < j → (RR xs (i : Int)).f0 < (RR xs (j : Int)).f0 := by
  induction j with
  | zero => intro i hi; exact absurd hi (Nat.not_lt_zero _)
  | succ j ih =>
    have d := reading_diffs xs h (j + 1) (by omega) hj
    have e1 : RR xs ((j + 1 : Nat) : Int) = xs[j + 1] := rdi_Reading xs (j + 1) hj
    have e2 : RR xs (j : Int) = xs[j] := rdi_Reading xs j (by omega)
    have hd : (RR xs (j : Int)).f0 < (RR xs ((j + 1 : Nat) : Int)).f0 := by
      rw [e1, e2]
      simp only [show j + 1 - 1 = j by omega] at d
      omega
    intro i hi
    by_cases e : i = j
    · subst e; exact hd
    · exact Int.lt_trans (ih (by omega) i (by omega)) hd
theorem bs_in (xs : List RE) (a : Int) (h : validReading xs = true) : ∀ d lo hi, hi - lo = d → lo ≤ hi → hi ≤ xs.length → (∀ t, t < lo → (RR xs (t : Int)).f0 < a) → (∀ t, hi ≤ t → t < xs.length → a ≤ (RR xs (t : Int)).f0) →
    bsF xs a lo hi ≤ xs.length ∧ (∀ t, t < bsF xs a lo hi → (RR xs (t : Int)).f0 < a) ∧ (∀ t, bsF xs a lo hi ≤ t → t < xs.length → a ≤ (RR xs (t : Int)).f0) := by
  intro d
  induction d using Nat.strongRecOn with
  | ind d ih =>
    intro lo hi hd hle hn h1 h2
    by_cases c : lo < hi
    · by_cases c2 : (RR xs (((lo + hi) / 2 : Nat) : Int)).f0 < a
      · rw [bsF_lt xs a lo hi c c2]
        refine ih (hi - ((lo + hi) / 2 + 1)) (by omega) _ _ rfl (by omega) hn (fun t ht => ?_) h2
        by_cases e : t = (lo + hi) / 2
        · subst e; exact c2
        · exact Int.lt_trans (hours_lt xs h ((lo + hi) / 2) (by omega) t (by omega)) c2
      · rw [bsF_ge xs a lo hi c c2]
        refine ih ((lo + hi) / 2 - lo) (by omega) _ _ rfl (by omega) (by omega) h1 (fun t ht htn => ?_)
        by_cases e : t = (lo + hi) / 2
        · subst e; exact Int.not_lt.1 c2
        · have := hours_lt xs h t htn ((lo + hi) / 2) (by omega)
          omega
    · have : lo = hi := by omega
      subst this
      rw [bsF_end]
      exact ⟨hn, h1, h2⟩
def pos (xs : List RE) (a : Int) : Nat := bsF xs a 0 xs.length
theorem pos_in (xs : List RE) (a : Int) (h : validReading xs = true) : pos xs a ≤ xs.length ∧ (∀ t, t < pos xs a → (RR xs (t : Int)).f0 < a) ∧ (∀ t, pos xs a ≤ t → t < xs.length → a ≤ (RR xs (t : Int)).f0) :=
  bs_in xs a h _ 0 xs.length rfl (Nat.zero_le _) (Nat.le_refl _) (fun t ht => absurd ht (Nat.not_lt_zero _)) (fun t h1 h2 => by omega)
def found (xs : List RE) (a : Int) : Bool := decide (pos xs a < xs.length) && decide ((RR xs ((pos xs a : Nat) : Int)).f0 = a)
theorem search_eq (xs : List RE) (a : Int) (h : xs.length < 4611686018427387904) : impl_Reading_int64.f xs a = some (((pos xs a : Nat) : Int), found xs a) := by
  unfold impl_Reading_int64.f
  rw [if_pos h]
  rfl

/-! what a meter has shown between two readings -/
def line (x y : RE) (a : Int) : Int := wrap64 (x.f1 + rdiv ((y.f1 - x.f1) * (a - x.f0)) (y.f0 - x.f0))
theorem line_b (x y : RE) (a : Int) (h1 : x.f0 < a) (h2 : a < y.f0) (h3 : 0 ≤ x.f0) (h4 : y.f0 ≤ 100000) (h5 : 0 ≤ y.f1 - x.f1) (h6 : y.f1 - x.f1 ≤ 1000000000) : 0 ≤ (y.f1 - x.f1) * (a - x.f0) ∧ (y.f1 - x.f1) * (a - x.f0) ≤ 100000000000000 := by
  constructor
  · exact Int.mul_nonneg h5 (by omega)
  · exact Int.le_trans (Int.mul_le_mul h6 (show a - x.f0 ≤ 100000 by omega) (by omega) (by omega)) (by decide)
theorem specLine_ev (x y : RE) (a : Int) (h1 : x.f0 < a) (h2 : a < y.f0) (h3 : 0 ≤ x.f0) (h4 : y.f0 ≤ 100000) (h5 : 0 ≤ y.f1 - x.f1) (h6 : y.f1 - x.f1 ≤ 1000000000) : Ev (fun k => spec_l01Line.f k x.f0 x.f1 y.f0 y.f1 a) (line x y a) := by
  have b := line_b x y a h1 h2 h3 h4 h5 h6
  unfold spec_l01Line.f
  simp only [if_neg (show ¬ a ≤ x.f0 by omega), decide_eq_false (show ¬ y.f0 ≤ x.f0 by omega)]
  refine Ev.succ ?_
  simp only [spec_l01Line.j0, Bool.false_eq_true, if_false, if_neg (show ¬ a ≥ y.f0 by omega), w64 (x := y.f1 - x.f1) (by omega) (by omega), w64 (x := a - x.f0) (by omega) (by omega), w64 (x := (y.f1 - x.f1) * (a - x.f0)) (by omega) (by omega), w64 (x := y.f0 - x.f0) (by omega) (by omega),
    l01Div_eq _ _ (show y.f0 - x.f0 ≠ 0 by omega) (show _ ≤ (y.f1 - x.f1) * (a - x.f0) by omega) (by omega) (by omega) (by omega), Option.bind_some]
  exact Ev.now _
theorem implLine_ev (x y : RE) (a : Int) (h1 : x.f0 < a) (h2 : a < y.f0) (h3 : 0 ≤ x.f0) (h4 : y.f0 ≤ 100000) (h5 : 0 ≤ y.f1 - x.f1) (h6 : y.f1 - x.f1 ≤ 1000000000) : Ev (fun k => impl_blend.f k x.f0 x.f1 y.f0 y.f1 a) (line x y a) := by
  have b := line_b x y a h1 h2 h3 h4 h5 h6
  unfold impl_blend.f
  simp only [if_neg (show ¬ a ≤ x.f0 by omega), decide_eq_false (show ¬ y.f0 ≤ x.f0 by omega)]
  refine Ev.succ ?_
  simp only [impl_blend.j0, Bool.false_eq_true, if_false, if_neg (show ¬ a ≥ y.f0 by omega), w64 (x := y.f1 - x.f1) (by omega) (by omega), w64 (x := a - x.f0) (by omega) (by omega), w64 (x := (y.f1 - x.f1) * (a - x.f0)) (by omega) (by omega), w64 (x := y.f0 - x.f0) (by omega) (by omega),
    divRound_eq _ _ (show y.f0 - x.f0 ≠ 0 by omega) (show _ ≤ (y.f1 - x.f1) * (a - x.f0) by omega) (by omega) (by omega) (by omega), Option.bind_some]
  exact Ev.now _
/-- What is shown at an hour, and whether it is known. -/
def shown (xs : List RE) (a : Int) : Int × Bool :=
  if pos xs a < xs.length then (if (RR xs ((pos xs a : Nat) : Int)).f0 = a then ((RR xs ((pos xs a : Nat) : Int)).f1, true) else if pos xs a = 0 then (0, false) else (line (RR xs ((pos xs a - 1 : Nat) : Int)) (RR xs ((pos xs a : Nat) : Int)) a, true)) else (0, false)
theorem line_ok (xs : List RE) (a : Int) (h : validReading xs = true) (hp : pos xs a < xs.length) (h0 : pos xs a ≠ 0) (hne : ¬ (RR xs ((pos xs a : Nat) : Int)).f0 = a) :
    (RR xs ((pos xs a - 1 : Nat) : Int)).f0 < a ∧ a < (RR xs ((pos xs a : Nat) : Int)).f0 ∧ 0 ≤ (RR xs ((pos xs a - 1 : Nat) : Int)).f0 ∧ (RR xs ((pos xs a : Nat) : Int)).f0 ≤ 100000 ∧
    0 ≤ (RR xs ((pos xs a : Nat) : Int)).f1 - (RR xs ((pos xs a - 1 : Nat) : Int)).f1 ∧ (RR xs ((pos xs a : Nat) : Int)).f1 - (RR xs ((pos xs a - 1 : Nat) : Int)).f1 ≤ 1000000000 := by
  obtain ⟨p1, p2, p3⟩ := pos_in xs a h
  have q2 := p2 (pos xs a - 1) (by omega)
  have q3 := p3 (pos xs a) (Nat.le_refl _) hp
  have d := reading_diffs xs h (pos xs a) (by omega) hp
  have v1 := (validReading_at h (pos xs a) hp).1
  have v2 := (validReading_at h (pos xs a - 1) (by omega)).1
  have e1 : RR xs ((pos xs a : Nat) : Int) = xs[pos xs a] := rdi_Reading xs (pos xs a) hp
  have e2 : RR xs ((pos xs a - 1 : Nat) : Int) = xs[pos xs a - 1] := rdi_Reading xs (pos xs a - 1) (by omega)
  rw [e1] at q3 hne ⊢
  rw [e2] at q2 ⊢
  unfold oneReading at v1 v2
  simp only [Bool.and_eq_true, decide_eq_true_eq] at v1 v2
  omega
theorem specAt_ev (xs : List RE) (a : Int) (h : validReading xs = true) : Ev (fun k => spec_l06At.f k xs a) (shown xs a) := by
  obtain ⟨p1, p2, p3⟩ := pos_in xs a h
  have hn := validReading_len h
  unfold spec_l06At.f
  refine fold_from (fun k (_ : Unit) i => spec_l06At.l0 k xs a i) 0 (pos xs a) (fun _ => ()) _ (Nat.zero_le _) (fun i _ hi r hr => Ev.succ ?_) (Ev.succ ?_)
  · have q := p2 i hi
    simp only [spec_l06At.l0, if_pos (show (i : Int) < (xs.length : Int) by omega), if_pos (show 0 ≤ (i : Int) by omega), if_neg (show ¬ (RR xs (i : Int)).f0 = a by omega), if_neg (show ¬ (RR xs (i : Int)).f0 > a by omega), w64s (show i < 9223372036854775807 by omega)]
    exact hr
  · unfold shown
    by_cases c : pos xs a < xs.length
    · have q := p3 (pos xs a) (Nat.le_refl _) c
      simp only [spec_l06At.l0, if_pos (show ((pos xs a : Nat) : Int) < (xs.length : Int) by omega), if_pos (show 0 ≤ ((pos xs a : Nat) : Int) by omega), if_pos c]
      by_cases c2 : (RR xs ((pos xs a : Nat) : Int)).f0 = a
      · simp only [if_pos c2]; exact Ev.now _
      · simp only [if_neg c2, if_pos (show (RR xs ((pos xs a : Nat) : Int)).f0 > a by omega)]
        by_cases c3 : pos xs a = 0
        · simp only [if_pos c3, if_pos (show ((pos xs a : Nat) : Int) = 0 by omega)]; exact Ev.now _
        · have l := line_ok xs a h c c3 c2
          have e1 : wrap64 (((pos xs a : Nat) : Int) - 1) = ((pos xs a - 1 : Nat) : Int) := by rw [w64] <;> omega
          simp only [if_neg c3, if_neg (show ¬ ((pos xs a : Nat) : Int) = 0 by omega), e1, if_pos (show 0 ≤ ((pos xs a - 1 : Nat) : Int) by omega), if_pos (show ((pos xs a - 1 : Nat) : Int) < (xs.length : Int) by omega)]
          exact Ev.bind (specLine_ev _ _ a l.1 l.2.1 l.2.2.1 l.2.2.2.1 l.2.2.2.2.1 l.2.2.2.2.2) (Ev.now _)
    · simp only [spec_l06At.l0, if_neg (show ¬ ((pos xs a : Nat) : Int) < (xs.length : Int) by omega), if_neg c]; exact Ev.now _
def resAt (xs : List RE) (a : Int) : Int × Int := if validReading xs = true then (if (shown xs a).2 = true then ((shown xs a).1, 0) else (0, 3)) else (0, 1)
theorem implEstimate_ev (xs : List RE) (a : Int) (hs : smallReading xs) : Ev (fun k => impl_EstimateAt.f k xs a) (resAt xs a) := by
  unfold impl_EstimateAt.f resAt
  refine Ev.bind (implReadingS_ev xs hs) ?_
  by_cases c : validReading xs = true
  · obtain ⟨p1, p2, p3⟩ := pos_in xs a c
    have hn := validReading_len c
    simp only [if_pos c, search_eq xs a (by omega), Option.bind_some]
    by_cases c1 : pos xs a < xs.length
    · by_cases c2 : (RR xs ((pos xs a : Nat) : Int)).f0 = a
      · have e : found xs a = true := by unfold found; rw [decide_eq_true c1, decide_eq_true c2]; rfl
        have e2 : shown xs a = ((RR xs ((pos xs a : Nat) : Int)).f1, true) := by unfold shown; rw [if_pos c1, if_pos c2]
        simp only [if_pos e, e2, if_pos (show 0 ≤ ((pos xs a : Nat) : Int) by omega), if_pos (show ((pos xs a : Nat) : Int) < (xs.length : Int) by omega), if_true]; exact Ev.now _
      · have e : ¬ found xs a = true := by unfold found; rw [decide_eq_false c2]; simp
        by_cases c3 : pos xs a = 0
        · have e2 : shown xs a = (0, false) := by unfold shown; rw [if_pos c1, if_neg c2, if_pos c3]
          simp only [if_neg e, e2, if_pos (show ((pos xs a : Nat) : Int) = 0 by omega), Bool.false_eq_true, if_false]; exact Ev.now _
        · have e2 : shown xs a = (line (RR xs ((pos xs a - 1 : Nat) : Int)) (RR xs ((pos xs a : Nat) : Int)) a, true) := by unfold shown; rw [if_pos c1, if_neg c2, if_neg c3]
          have l := line_ok xs a c c1 c3 c2
          have e1 : wrap64 (((pos xs a : Nat) : Int) - 1) = ((pos xs a - 1 : Nat) : Int) := by rw [w64] <;> omega
          simp only [if_neg e, e2, if_neg (show ¬ ((pos xs a : Nat) : Int) = 0 by omega), if_neg (show ¬ ((pos xs a : Nat) : Int) = (xs.length : Int) by omega), e1, if_pos (show 0 ≤ ((pos xs a - 1 : Nat) : Int) by omega), if_pos (show ((pos xs a - 1 : Nat) : Int) < (xs.length : Int) by omega), if_pos (show 0 ≤ ((pos xs a : Nat) : Int) by omega), if_pos (show ((pos xs a : Nat) : Int) < (xs.length : Int) by omega), if_true]
          exact Ev.bind (implLine_ev _ _ a l.1 l.2.1 l.2.2.1 l.2.2.2.1 l.2.2.2.2.1 l.2.2.2.2.2) (Ev.now _)
    · have e : ¬ found xs a = true := by unfold found; rw [decide_eq_false c1]; simp
      have e2 : shown xs a = (0, false) := by unfold shown; rw [if_neg c1]
      by_cases c3 : pos xs a = 0
      · simp only [if_neg e, e2, if_pos (show ((pos xs a : Nat) : Int) = 0 by omega), Bool.false_eq_true, if_false]; exact Ev.now _
      · simp only [if_neg e, e2, if_neg (show ¬ ((pos xs a : Nat) : Int) = 0 by omega), if_pos (show ((pos xs a : Nat) : Int) = (xs.length : Int) by omega), Bool.false_eq_true, if_false]; exact Ev.now _
  · simp only [if_neg c]; exact Ev.now _

end Go.Proofs.Ytnmehknpphoolaa.PFnExactUsedBetween
namespace Go.Proofs.Ytnmehknpphoolaa.Pure
open Go.RowKit Go.Proofs.YtnmehknpphoolaaW.PrintWords Go.Proofs.YtnmehknpphoolaaW.PLib Go.Proofs.Ytnmehknpphoolaa.PFnExactUsedBetween

def usedRes (xs : List RE) (a b : Int) : Int × Int := if validReading xs = true then (if b < a then (0, 2) else if (shown xs a).2 = true then (if (shown xs b).2 = true then (wrap64 ((shown xs b).1 - (shown xs a).1), 0) else (0, 3)) else (0, 3)) else (0, 1)
theorem specUsed_ev (xs : List RE) (a b : Int) (hs : smallReading xs) : Ev (fun k => spec_UsedBetween.f k xs a b) (usedRes xs a b) := by
  unfold spec_UsedBetween.f usedRes
  refine Ev.bind (specReadingS_ev xs hs) ?_
  by_cases c : validReading xs = true
  · simp only [if_pos c]
    by_cases c1 : b < a
    · simp only [if_pos c1]; exact Ev.now _
    · simp only [if_neg c1]
      refine Ev.bind (specAt_ev xs a c) (Ev.bind (specAt_ev xs b c) ?_)
      by_cases c2 : (shown xs a).2 = true
      · simp only [if_pos c2]
        by_cases c3 : (shown xs b).2 = true
        · simp only [if_pos c3]; exact Ev.now _
        · simp only [if_neg c3]; exact Ev.now _
      · simp only [if_neg c2]; exact Ev.now _
  · simp only [if_neg c]; exact Ev.now _
theorem implUsed_ev (xs : List RE) (a b : Int) (hs : smallReading xs) : Ev (fun k => impl_UsedBetween.f k xs a b) (usedRes xs a b) := by
  unfold impl_UsedBetween.f usedRes
  refine Ev.bind (implReadingS_ev xs hs) ?_
  by_cases c : validReading xs = true
  · simp only [if_pos c]
    by_cases c1 : b < a
    · simp only [if_pos c1]; exact Ev.now _
    · simp only [if_neg c1]
      refine Ev.bind (implEstimate_ev xs a hs) (Ev.bind (implEstimate_ev xs b hs) ?_)
      unfold resAt
      simp only [if_pos c]
      by_cases c2 : (shown xs a).2 = true
      · by_cases c3 : (shown xs b).2 = true
        · simp only [if_pos c2, if_pos c3, if_true]; exact Ev.now _
        · simp only [if_pos c2, if_neg c3, if_true, if_neg (show ¬ (3 : Int) = 0 by decide)]; exact Ev.now _
      · simp only [if_neg c2, if_neg (show ¬ (3 : Int) = 0 by decide)]; exact Ev.now _
  · simp only [if_neg c]; exact Ev.now _
theorem FnExactUsedBetween : PFnExactUsedBetween.Pure := by
  intro xs a b hx _ _
  obtain ⟨_, hl, hw⟩ := hx
  have hs : smallReading (xs.map cvReading) := ⟨by simp; omega, fun x _ => trivial⟩
  obtain ⟨r, hz⟩ := szReading_ev xs 1048576 (by omega)
  refine Ev.get ?_
  unfold laws_FnExactUsedBetween.f
  simp only [hz, Option.bind_some]
  by_cases c : r < 0
  · simp only [if_pos c]; exact Ev.now _
  simp only [if_neg c]
  refine Ev.bind (toReading_ev xs hl) (Ev.bind (specUsed_ev _ a b hs) (Ev.bind (toReading_ev xs hl) (Ev.bind (implUsed_ev _ a b hs) ?_)))
  simp only [bne_self_eq_false, if_true]
  refine Ev.succ ?_
  simp only [laws_FnExactUsedBetween.j0, Bool.false_eq_true, if_false]
  refine Ev.bind (toReading_ev xs hl) (Ev.bind (eqReading_ev _ hs.1) ?_)
  simp only [if_true]; exact Ev.now _
end Go.Proofs.Ytnmehknpphoolaa.Pure

