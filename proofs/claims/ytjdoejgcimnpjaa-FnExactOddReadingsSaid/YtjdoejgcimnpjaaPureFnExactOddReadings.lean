/- The law FnExactOddReadings, in numbers and lists alone: the program's OddReadings and the reference's give one answer, the readings stay as they were, and what is handed back is new. No condition. -/
import Derived.Test.YtjdoejgcimnpjaaQFnExactOddReadings
import Derived.Test.YtjdoejgcimnpjaaPLib
set_option linter.unusedVariables false
set_option linter.unusedSimpArgs false
namespace Go.Proofs.Ytjdoejgcimnpjaa.PFnExactOddReadings
open Go.RowKit Go.Proofs.YtjdoejgcimnpjaaW.PrintWords Go.Proofs.YtjdoejgcimnpjaaW.PLib

theorem l00In_eq (a b c : Int) : spec_l00In.f a b c = some (decide (b ≤ a) && decide (a ≤ c)) := by
  unfold spec_l00In.f; by_cases h : a ≥ b
  · rw [if_pos h]; simp [show b ≤ a from h]
  · rw [if_neg h]; simp [show ¬ b ≤ a from h]

theorem within_eq (a b c : Int) : impl_within.f a b c = some (decide (b ≤ a) && decide (a ≤ c)) := by
  unfold impl_within.f; by_cases h : a ≥ b
  · rw [if_pos h]; simp [show b ≤ a from h]
  · rw [if_neg h]; simp [show ¬ b ≤ a from h]

/-! Reading -/
theorem rdl_Reading (xs : List S112) (i : Nat) (h : i < xs.length) : rd_T112 xs (i : Int) = xs[i] := by unfold rd_T112; exact getD_cast xs i h _
theorem rdi_Reading (xs : List S110) (i : Nat) (h : i < xs.length) : rd_T110 xs (i : Int) = xs[i] := by unfold rd_T110; exact getD_cast xs i h _
theorem rd1_Reading (x : S110) : rd_T110 [x] 0 = x := rfl
def cvReading (x : S112) : S110 := ⟨x.f0, x.f1⟩
theorem toReading_ev (xs : List S112) (hl : xs.length * 16 ≤ 140737488351232) : Ev (fun k => laws_toReadingS.f k xs) (xs.map cvReading) := by
  refine ⟨xs.length + 1, fun k hk => ?_⟩
  simp only [laws_toReadingS.f]
  rw [if_pos (by omega), if_pos (by omega)]
  refine to_loop (fun k ys i => laws_toReadingS.l0 k xs ys i) xs cvReading (fun k ys i h hy => ?_) (fun k ys hy => ?_) _ (by simp) k (by omega)
  · simp only [laws_toReadingS.l0]
    rw [if_pos (by omega), if_pos (by omega)]
    simp only [laws_toReading.f, Option.bind_some, rdl_Reading xs i h]
    rw [if_pos (by omega), w64s (by omega)]
    rfl
  · simp only [laws_toReadingS.l0]
    rw [if_neg (by omega)]
theorem eqReading_ev (xs : List S110) (hl : xs.length < 9223372036854775807) : Ev (fun k => laws_eqReadingS.f k xs xs) true := by
  unfold laws_eqReadingS.f
  simp only [if_true]
  have := all_ev (fun k i => laws_eqReadingS.l0 k xs xs i) xs.length true (fun _ => true) (fun i hi => ⟨0, fun k _ => ?_⟩) ⟨0, fun k _ => ?_⟩
  · rw [allB_const] at this; exact this
  · simp only [laws_eqReadingS.l0]
    rw [if_pos (by omega), if_pos (by omega), if_pos (by omega)]
    simp only [laws_eqReading.f, if_true, bne_self_eq_false, Bool.false_eq_true, if_false, Option.bind_some, w64s (show i < 9223372036854775807 by omega)]
  · simp only [laws_eqReadingS.l0]
    rw [if_neg (by omega)]
theorem szReading_ev (xs : List S112) (a : Int) (hl : xs.length < 9223372036854775807) : ∃ r, laws_szReadingS.f xs a = some r := by
  unfold laws_szReadingS.f
  split
  all_goals exact ⟨_, rfl⟩

/-! valid lists of Reading -/
def oneReading (x : S110) : Bool := (decide (0 ≤ x.f0) && decide (x.f0 ≤ 100000)) && (decide (0 ≤ x.f1) && decide (x.f1 ≤ 1000000000))
def adjReading (p x : S110) : Bool := decide (p.f0 < x.f0) && decide (p.f1 ≤ x.f1)
def okReading (xs : List S110) (i : Nat) : Bool := if h : i < xs.length then oneReading xs[i] && (decide (i = 0) || adjReading xs[i - 1] xs[i]) else false
def validReading (xs : List S110) : Bool := allB (okReading xs) xs.length && decide ((xs.length : Int) ≤ 48)
def smReading (x : S110) : Prop := True
def smallReading (xs : List S110) : Prop := xs.length < 9223372036854775807 ∧ ∀ x ∈ xs, smReading x
theorem specOneReading_ev (x : S110) (h : smReading x) : Ev (fun k => spec_l06One.f [x]) (oneReading x) := by
  refine Ev.all fun k => ?_
  unfold spec_l06One.f oneReading
  rw [if_pos (by simp)]
  simp only [rd1_Reading, Option.bind_some, l00In_eq, spec_l06Counter.f, ifs, ifn]
theorem implOneReading_ev (x : S110) (h : smReading x) : Ev (fun k => impl_Reading_valid.f x.f0 x.f1) (oneReading x) := by
  refine Ev.all fun k => ?_
  unfold impl_Reading_valid.f oneReading
  simp only [Option.bind_some, within_eq, spec_l06Counter.f, ifs, ifn]
theorem specReadingS_ev (xs : List S110) (h : smallReading xs) : Ev (fun k => spec_l06Ok.f k xs) (validReading xs) := by
  obtain ⟨hl, hx⟩ := h
  unfold spec_l06Ok.f validReading
  refine all_ev (fun k i => spec_l06Ok.l0 k xs i) xs.length _ (okReading xs) (fun i hi => ?_) ⟨0, fun k _ => ?_⟩
  · refine Ev.with_ (specOneReading_ev xs[i] (hx _ (List.getElem_mem hi))) fun k e => ?_
    simp only [spec_l06Ok.l0]
    rw [if_pos (by omega), if_pos (by omega), rdi_Reading xs i hi, e, Option.bind_some, w64s (by omega)]
    by_cases c1 : oneReading xs[i] = true
    · rw [if_pos c1]
      by_cases c2 : i = 0
      · rw [if_neg (by omega), if_pos (by unfold okReading; rw [dif_pos hi, c1, decide_eq_true c2]; rfl)]
      · have e1 : wrap64 ((i : Int) - 1) = ((i - 1 : Nat) : Int) := by rw [w64] <;> omega
        rw [if_pos (by omega), e1, if_pos (by omega), if_pos (by omega), rdi_Reading xs (i - 1) (by omega)]
        rw [show okReading xs i = adjReading xs[i - 1] xs[i] from by unfold okReading; rw [dif_pos hi, c1, decide_eq_false c2, Bool.true_and, Bool.false_or]]
        unfold adjReading
        (by_cases c3 : xs[i - 1].f0 < xs[i].f0; (rw [if_neg (by omega)]; by_cases c4 : xs[i - 1].f1 ≤ xs[i].f1; (rw [if_neg (by omega)]; simp [c3, c4]); (rw [if_pos (by omega)]; simp [c4])); (rw [if_pos (by omega)]; simp [c3]))
    · rw [if_neg c1, if_neg (by unfold okReading; simp only [Bool.not_eq_true] at c1; rw [dif_pos hi, c1]; simp)]
  · simp only [spec_l06Ok.l0]
    rw [if_neg (by omega)]
theorem implReadingS_ev (xs : List S110) (h : smallReading xs) : Ev (fun k => impl_ValidReadings.f k xs) (validReading xs) := by
  obtain ⟨hl, hx⟩ := h
  unfold impl_ValidReadings.f validReading
  by_cases c : (xs.length : Int) > 48
  · simp only [if_pos c]
    rw [decide_eq_false (show ¬ (xs.length : Int) ≤ 48 by omega), Bool.and_false]; exact Ev.now _
  simp only [if_neg c]
  rw [decide_eq_true (show (xs.length : Int) ≤ 48 by omega)]
  refine all_ev (fun k i => impl_ValidReadings.l0 k xs xs (xs.length : Int) i) xs.length true (okReading xs) (fun i hi => ?_) ⟨0, fun k _ => ?_⟩
  · refine Ev.with_ (implOneReading_ev xs[i] (hx _ (List.getElem_mem hi))) fun k e => ?_
    simp only [impl_ValidReadings.l0]
    rw [if_pos (by omega), if_pos (by omega), if_pos (by omega), rdi_Reading xs i hi, e, Option.bind_some, w64s (by omega)]
    by_cases c1 : oneReading xs[i] = true
    · rw [if_pos c1]
      by_cases c2 : i = 0
      · rw [if_neg (by omega), if_pos (by unfold okReading; rw [dif_pos hi, c1, decide_eq_true c2]; rfl)]
      · have e1 : wrap64 ((i : Int) - 1) = ((i - 1 : Nat) : Int) := by rw [w64] <;> omega
        rw [if_pos (by omega), e1, if_pos (by omega), if_pos (by omega), rdi_Reading xs (i - 1) (by omega)]
        rw [show okReading xs i = adjReading xs[i - 1] xs[i] from by unfold okReading; rw [dif_pos hi, c1, decide_eq_false c2, Bool.true_and, Bool.false_or]]
        unfold adjReading
        (by_cases c3 : xs[i - 1].f0 < xs[i].f0; (rw [if_neg (by omega)]; by_cases c4 : xs[i - 1].f1 ≤ xs[i].f1; (rw [if_neg (by omega)]; simp [c3, c4]); (rw [if_pos (by omega)]; simp [c4])); (rw [if_pos (by omega)]; simp [c3]))
    · rw [if_neg c1, if_neg (by unfold okReading; simp only [Bool.not_eq_true] at c1; rw [dif_pos hi, c1]; simp)]
  · simp only [impl_ValidReadings.l0]
    rw [if_neg (by omega)]
theorem validReading_len {xs : List S110} (h : validReading xs = true) : (xs.length : Int) ≤ 48 := by
  unfold validReading at h
  simp only [Bool.and_eq_true, decide_eq_true_eq] at h
  exact h.2
theorem validReading_at {xs : List S110} (h : validReading xs = true) (i : Nat) (hi : i < xs.length) : oneReading xs[i] = true ∧ (0 < i → adjReading xs[i - 1] xs[i] = true) := by
  unfold validReading at h
  simp only [Bool.and_eq_true] at h
  have := allB_true.1 h.1 i hi
  unfold okReading at this
  rw [dif_pos hi] at this
  simp only [Bool.and_eq_true, Bool.or_eq_true, decide_eq_true_eq] at this
  exact ⟨this.1, fun h0 => by rcases this.2 with h1 | h1; omega; exact h1⟩


theorem rd_at (xs : List Int) (i : Nat) (h : i < xs.length) : rd xs (i : Int) = xs[i] := by unfold rd; exact getD_cast xs i h _
theorem eqInts_ev (xs : List Int) (hl : xs.length < 9223372036854775807) : Ev (fun k => laws_eqInt64S.f k xs xs) true := by
  unfold laws_eqInt64S.f
  simp only [if_true]
  have := all_ev (fun k i => laws_eqInt64S.l0 k xs xs i) xs.length true (fun _ => true) (fun i hi => ⟨0, fun k _ => ?_⟩) ⟨0, fun k _ => ?_⟩
  · rw [allB_const] at this; exact this
  · simp only [laws_eqInt64S.l0]
    rw [if_pos (by omega), if_pos (by omega), if_pos (by omega)]
    simp only [if_true, w64s (show i < 9223372036854775807 by omega)]
  · simp only [laws_eqInt64S.l0]
    rw [if_neg (by omega)]

/-- What a list reads behind its marking, i of its numbers being marked. -/
def mk1 (xs : List Int) (i : Nat) : List Int := (List.range i).map (fun j : Nat => (j : Int) + 1) ++ xs.drop i
theorem mk1_len (xs : List Int) (i : Nat) (h : i ≤ xs.length) : (mk1 xs i).length = xs.length := by simp [mk1]; omega
theorem mk1_set (xs : List Int) (i : Nat) (h : i < xs.length) : (mk1 xs i).set i ((i : Int) + 1) = mk1 xs (i + 1) := by
  unfold mk1
  rw [List.set_append_right _ _ (by simp)]
  simp only [List.length_map, List.length_range, Nat.sub_self]
  rw [List.range_succ, List.map_append, List.append_assoc]
  congr 1
  rw [List.drop_eq_getElem_cons h]
  rfl
theorem markInts_ev (xs : List Int) (hl : xs.length < 4611686018427387904) : Ev (fun k => laws_markInt64S.f k xs 1) ((xs.length : Int) + 1, mk1 xs xs.length) := by
  unfold laws_markInt64S.f
  have h := fold_ev (fun k (s : List Int × Int) i => laws_markInt64S.l0 k s.1 s.2 i) xs.length (fun i => (mk1 xs i, (i : Int) + 1)) ((xs.length : Int) + 1, mk1 xs xs.length) (fun i hi => ⟨0, fun k _ => ?_⟩) ⟨0, fun k _ => ?_⟩ 0 (by omega)
  · simpa [mk1] using h
  · simp only [laws_markInt64S.l0, mk1_len xs i (by omega)]
    rw [if_pos (by omega), if_pos (by omega), w64s (by omega)]
    rw [show ((i : Int)).toNat = i from by omega, mk1_set xs i hi, show wrap64 ((i : Int) + 1 + 1) = ((i + 1 : Nat) : Int) + 1 from by rw [w64] <;> omega]
  · simp only [laws_markInt64S.l0, mk1_len xs xs.length (Nat.le_refl _)]
    rw [if_neg (by omega)]
theorem heldInts_ev (xs : List Int) (hl : xs.length < 4611686018427387904) : Ev (fun k => laws_heldInt64S.f k (mk1 xs xs.length) 1) ((xs.length : Int) + 1) := by
  unfold laws_heldInt64S.f
  have e := mk1_len xs xs.length (Nat.le_refl _)
  have h := fold_ev (fun k (s : Int) i => laws_heldInt64S.l0 k (mk1 xs xs.length) s i) xs.length (fun i => (i : Int) + 1) ((xs.length : Int) + 1) (fun i hi => ⟨0, fun k _ => ?_⟩) ⟨0, fun k _ => ?_⟩ 0 (by omega)
  · simpa using h
  · simp only [laws_heldInt64S.l0, e]
    have hr : rd (mk1 xs xs.length) (i : Int) = (i : Int) + 1 := by
      rw [rd_at _ i (by rw [e]; exact hi)]
      simp [mk1, List.getElem_append, hi]
    rw [if_pos (by omega), if_pos (by omega), hr, if_pos rfl, w64s (by omega), show wrap64 ((i : Int) + 1 + 1) = ((i + 1 : Nat) : Int) + 1 from by rw [w64] <;> omega]
  · simp only [laws_heldInt64S.l0, e]
    rw [if_neg (by omega)]

/-! the nearest quotient, as the reference and as the program reckon it -/
theorem near (a b : Int) (ha : 0 ≤ a) (hb : 0 < b) : (2 * a + b) / (2 * b) = if a % b ≥ b - a % b then a / b + 1 else a / b := by
  have h1 : b * (a / b) + a % b = a := Int.mul_ediv_add_emod a b
  have h2 : 0 ≤ a % b := Int.emod_nonneg a (by omega)
  have h3 : a % b < b := Int.emod_lt_of_pos a hb
  generalize hq : a / b = q at *
  generalize hr : a % b = r at *
  have e : 2 * a + b = (2 * r + b) + (2 * b) * q := by
    rw [← h1, Int.mul_add, ← Int.mul_assoc]; omega
  rw [e, Int.add_mul_ediv_left _ _ (by omega)]
  by_cases c : r ≥ b - r
  · rw [if_pos c]
    have : (2 * r + b) / (2 * b) = 1 := by
      rw [Int.ediv_eq_iff_of_pos (by omega)]
      constructor <;> omega
    omega
  · rw [if_neg c]
    have : (2 * r + b) / (2 * b) = 0 := Int.ediv_eq_zero_of_lt (by omega) (by omega)
    omega
/-- The nearest quotient of two whole numbers, away from 0 where two are as near. -/
def rdiv (a b : Int) : Int := if b < 0 then (if a > 0 then -((2 * a + -b) / (2 * -b)) else (2 * -a + -b) / (2 * -b)) else if a < 0 then -((2 * -a + b) / (2 * b)) else (2 * a + b) / (2 * b)
theorem quo_le (x y B : Int) (hx : 0 ≤ x) (hy : 0 < y) (h : x ≤ B) : 0 ≤ x / y ∧ x / y ≤ B := ⟨Int.ediv_nonneg hx (by omega), Int.le_trans (Int.ediv_le_self _ hx) h⟩
theorem l01Div_eq (a b : Int) (hb : b ≠ 0) (h1 : -1152921504606846976 ≤ a) (h2 : a ≤ 1152921504606846976) (h3 : -1152921504606846976 ≤ b) (h4 : b ≤ 1152921504606846976) : spec_l01Div.f a b = some (rdiv a b) := by
  unfold spec_l01Div.f rdiv
  by_cases c1 : b < 0
  · rw [if_pos c1, if_pos c1, w64 (x := -a) (by omega) (by omega), w64 (x := -b) (by omega) (by omega), w64 (x := 2 * -b) (by omega) (by omega), w64 (x := 2 * -a) (by omega) (by omega)]
    by_cases c2 : a > 0
    · rw [if_pos c2, if_pos (by omega), if_neg (by omega)]
      have q := quo_le (2 * a + -b) (2 * -b) 4611686018427387904 (by omega) (by omega) (by omega)
      rw [w64 (x := -b - 2 * -a) (by omega) (by omega), show -b - 2 * -a = 2 * a + -b by omega, Int.tdiv_eq_ediv_of_nonneg (by omega), w64 (x := (2 * a + -b) / (2 * -b)) (by omega) (by omega), w64 (by omega) (by omega)]
    · rw [if_neg c2, if_neg (by omega), if_neg (by omega)]
      have q := quo_le (2 * -a + -b) (2 * -b) 4611686018427387904 (by omega) (by omega) (by omega)
      rw [w64 (x := 2 * -a + -b) (by omega) (by omega), Int.tdiv_eq_ediv_of_nonneg (by omega), w64 (by omega) (by omega)]
  · rw [if_neg c1, if_neg c1, w64 (x := 2 * b) (by omega) (by omega), w64 (x := 2 * a) (by omega) (by omega)]
    by_cases c2 : a < 0
    · rw [if_pos c2, if_pos c2, if_neg (by omega)]
      have q := quo_le (2 * -a + b) (2 * b) 4611686018427387904 (by omega) (by omega) (by omega)
      rw [w64 (x := b - 2 * a) (by omega) (by omega), show b - 2 * a = 2 * -a + b by omega, Int.tdiv_eq_ediv_of_nonneg (by omega), w64 (x := (2 * -a + b) / (2 * b)) (by omega) (by omega), w64 (by omega) (by omega)]
    · rw [if_neg c2, if_neg c2, if_neg (by omega)]
      have q := quo_le (2 * a + b) (2 * b) 4611686018427387904 (by omega) (by omega) (by omega)
      rw [w64 (x := 2 * a + b) (by omega) (by omega), Int.tdiv_eq_ediv_of_nonneg (by omega), w64 (by omega) (by omega)]
theorem abs_eq (n : Int) (h1 : -1152921504606846976 ≤ n) (h2 : n ≤ 1152921504606846976) : impl_abs.f n = some (if n < 0 then -n else n) := by
  unfold impl_abs.f mx
  rw [w64 (by omega) (by omega)]
  congr 1
  split <;> split <;> omega
theorem divRound_eq (a b : Int) (hb : b ≠ 0) (h1 : -1152921504606846976 ≤ a) (h2 : a ≤ 1152921504606846976) (h3 : -1152921504606846976 ≤ b) (h4 : b ≤ 1152921504606846976) : impl_divRound.f a b = some (rdiv a b) := by
  unfold impl_divRound.f
  rw [if_neg hb]
  -- the parts of a and b
  obtain ⟨m, hm, hma⟩ : ∃ m : Int, 0 ≤ m ∧ (a = m ∨ a = -m ∧ 0 < m) := by
    rcases Int.lt_or_le a 0 with h | h
    · exact ⟨-a, by omega, .inr ⟨by omega, by omega⟩⟩
    · exact ⟨a, h, .inl rfl⟩
  obtain ⟨n, hn, hnb⟩ : ∃ n : Int, 0 < n ∧ (b = n ∨ b = -n) := by
    rcases Int.lt_or_le b 0 with h | h
    · exact ⟨-b, by omega, .inr (by omega)⟩
    · exact ⟨b, by omega, .inl rfl⟩
  have N := near m n hm hn
  have q1 : 0 ≤ m / n := Int.ediv_nonneg hm (by omega)
  have q2 : m / n ≤ m := Int.ediv_le_self _ hm
  have r1 : 0 ≤ m % n := Int.emod_nonneg m (by omega)
  have r2 : m % n < n := Int.emod_lt_of_pos m hn
  have td : Int.tdiv m n = m / n := Int.tdiv_eq_ediv_of_nonneg hm
  have tm : Int.tmod m n = m % n := Int.tmod_eq_emod_of_nonneg hm
  rcases hma with rfl | ⟨rfl, hm0⟩ <;> rcases hnb with rfl | rfl
  · rw [td, tm, abs_eq _ (by omega) (by omega), abs_eq _ (by omega) (by omega)]
    simp only [Option.bind_some]
    rw [if_neg (show ¬ a % b < 0 by omega), if_neg (show ¬ b < 0 by omega), w64 (x := b - a % b) (by omega) (by omega), w64 (x := a / b) (by omega) (by omega)]
    unfold rdiv
    rw [if_neg (show ¬ b < 0 by omega), if_neg (show ¬ a < 0 by omega), N]
    by_cases c : a % b ≥ b - a % b
    · rw [if_pos c, if_pos c, if_pos (by rw [decide_eq_false (show ¬ a < 0 by omega), decide_eq_false (show ¬ b < 0 by omega)]; decide), w64 (by omega) (by omega)]
    · rw [if_neg c, if_neg c]
  · rw [Int.tdiv_neg, Int.tmod_neg, td, tm, abs_eq _ (by omega) (by omega), abs_eq _ (by omega) (by omega)]
    simp only [Option.bind_some]
    rw [if_neg (show ¬ a % n < 0 by omega), if_pos (show -n < 0 by omega), Int.neg_neg, w64 (x := n - a % n) (by omega) (by omega), w64 (x := -(a / n)) (by omega) (by omega)]
    unfold rdiv
    rw [if_pos (show -n < 0 by omega), Int.neg_neg]
    by_cases c : a % n ≥ n - a % n
    · rw [if_pos c] at N
      rw [if_pos c]
      by_cases z : a > 0
      · rw [if_pos z, if_neg (by rw [decide_eq_false (show ¬ a < 0 by omega), decide_eq_true (show -n < 0 by omega)]; decide), N, w64 (by omega) (by omega)]
        congr 1; omega
      · have : a = 0 := by omega
        subst this
        simp at c
        omega
    · rw [if_neg c] at N
      rw [if_neg c]
      by_cases z : a > 0
      · rw [if_pos z, N]
      · have : a = 0 := by omega
        subst this
        rw [if_neg z]
        simp only [Int.neg_zero, Int.mul_zero, Int.zero_add, Int.zero_ediv] at N ⊢
        congr 1; omega
  · rw [Int.neg_tdiv, Int.neg_tmod, td, tm, abs_eq _ (by omega) (by omega), abs_eq _ (by omega) (by omega)]
    simp only [Option.bind_some]
    have ab : (if -(m % b) < 0 then - -(m % b) else -(m % b)) = m % b := by split <;> omega
    rw [ab, if_neg (show ¬ b < 0 by omega), w64 (x := b - m % b) (by omega) (by omega), w64 (x := -(m / b)) (by omega) (by omega)]
    unfold rdiv
    rw [if_neg (show ¬ b < 0 by omega), if_pos (show -m < 0 by omega), Int.neg_neg, N]
    by_cases c : m % b ≥ b - m % b
    · rw [if_pos c, if_pos c, if_neg (by rw [decide_eq_false (show ¬ b < 0 by omega), decide_eq_true (show -m < 0 by omega)]; decide), w64 (by omega) (by omega)]
      congr 1; omega
    · rw [if_neg c, if_neg c]
  · rw [Int.neg_tdiv, Int.neg_tmod, Int.tdiv_neg, Int.tmod_neg, td, tm, abs_eq _ (by omega) (by omega), abs_eq _ (by omega) (by omega)]
    simp only [Option.bind_some]
    have ab : (if -(m % n) < 0 then - -(m % n) else -(m % n)) = m % n := by split <;> omega
    rw [ab, if_pos (show -n < 0 by omega), Int.neg_neg, Int.neg_neg, w64 (x := n - m % n) (by omega) (by omega), w64 (x := m / n) (by omega) (by omega)]
    unfold rdiv
    rw [if_pos (show -n < 0 by omega), if_neg (show ¬ -m > 0 by omega), Int.neg_neg, Int.neg_neg, N]
    by_cases c : m % n ≥ n - m % n
    · rw [if_pos c, if_pos c, if_pos (by rw [decide_eq_true (show -n < 0 by omega), decide_eq_true (show -m < 0 by omega)]; decide), w64 (by omega) (by omega)]
    · rw [if_neg c, if_neg c]

/-! powers between readings -/
abbrev RE := S110
def pw (xs : List RE) (j : Nat) : Int := rdiv ((xs.getD j z110).f1 - (xs.getD (j - 1) z110).f1) ((xs.getD j z110).f0 - (xs.getD (j - 1) z110).f0)
def powers (xs : List RE) (i : Nat) : List Int := (List.range (i - 1)).map (fun j => pw xs (j + 1))
theorem powers_len (xs : List RE) (i : Nat) : (powers xs i).length = i - 1 := by simp [powers]
theorem powers_succ (xs : List RE) (i : Nat) (h : 1 ≤ i) : powers xs i ++ [pw xs i] = powers xs (i + 1) := by
  unfold powers
  rw [show i + 1 - 1 = (i - 1) + 1 by omega, List.range_succ, List.map_append]
  simp only [List.map_cons, List.map_nil]
  rw [show i - 1 + 1 = i by omega]
theorem reading_diffs (xs : List RE) (h : validReading xs = true) (i : Nat) (h1 : 1 ≤ i) (hi : i < xs.length) :
    1 ≤ xs[i].f0 - xs[i - 1].f0 ∧ xs[i].f0 - xs[i - 1].f0 ≤ 100000 ∧ 0 ≤ xs[i].f1 - xs[i - 1].f1 ∧ xs[i].f1 - xs[i - 1].f1 ≤ 1000000000 := by
  obtain ⟨a, b⟩ := validReading_at h i hi
  obtain ⟨c, _⟩ := validReading_at h (i - 1) (by omega)
  have b := b (by omega)
  unfold oneReading at a c
  unfold adjReading at b
  simp only [Bool.and_eq_true, decide_eq_true_eq] at a b c
  omega
theorem specPowers_ev (xs : List RE) (h : validReading xs = true) : Ev (fun k => spec_l06Powers.f k xs) (powers xs xs.length) := by
  have hl := validReading_len h
  unfold spec_l06Powers.f
  rcases Nat.eq_zero_or_pos xs.length with h0 | h0
  · refine Ev.succ ?_
    simp only [spec_l06Powers.l0, if_neg (show ¬ (1 : Int) < (xs.length : Int) by omega), h0]; exact Ev.now _
  refine fold_from (fun k s i => spec_l06Powers.l0 k xs s i) 1 xs.length (powers xs) (powers xs xs.length) h0 (fun i h1 hi r hr => ?_) ?_
  · have e1 : wrap64 ((i : Int) - 1) = ((i - 1 : Nat) : Int) := by rw [w64] <;> omega
    have dd := reading_diffs xs h i h1 hi
    refine Ev.succ ?_
    simp only [spec_l06Powers.l0, if_pos (show (i : Int) < (xs.length : Int) by omega), if_pos (show 0 ≤ (i : Int) by omega), e1, if_pos (show 0 ≤ ((i - 1 : Nat) : Int) by omega), if_pos (show ((i - 1 : Nat) : Int) < (xs.length : Int) by omega),
      rdi_Reading xs i hi, rdi_Reading xs (i - 1) (by omega), w64 (x := xs[i].f1 - xs[i - 1].f1) (by omega) (by omega), w64 (x := xs[i].f0 - xs[i - 1].f0) (by omega) (by omega),
      l01Div_eq _ _ (show xs[i].f0 - xs[i - 1].f0 ≠ 0 by omega) (show _ ≤ xs[i].f1 - xs[i - 1].f1 by omega) (by omega) (by omega) (by omega), Option.bind_some, powers_len, if_pos (show i - 1 < 17592186044416 by omega), w64s (show i < 9223372036854775807 by omega)]
    have e2 : rdiv (xs[i].f1 - xs[i - 1].f1) (xs[i].f0 - xs[i - 1].f0) = pw xs i := by
      unfold pw
      rw [List.getD_eq_getElem?_getD, List.getD_eq_getElem?_getD, List.getElem?_eq_getElem hi, List.getElem?_eq_getElem (show i - 1 < xs.length by omega)]; rfl
    rw [e2, powers_succ xs i h1]
    exact hr
  · refine Ev.succ ?_
    simp only [spec_l06Powers.l0, if_neg (show ¬ (xs.length : Int) < (xs.length : Int) by omega)]; exact Ev.now _
theorem implPowers_ev (xs : List RE) (h : validReading xs = true) : Ev (fun k => impl_powersOf.f k xs) (powers xs xs.length) := by
  have hl := validReading_len h
  unfold impl_powersOf.f
  rcases Nat.eq_zero_or_pos xs.length with h0 | h0
  · refine Ev.succ ?_
    simp only [impl_powersOf.l0, if_neg (show ¬ (1 : Int) < (xs.length : Int) by omega), h0]; exact Ev.now _
  refine fold_from (fun k s i => impl_powersOf.l0 k xs s i) 1 xs.length (powers xs) (powers xs xs.length) h0 (fun i h1 hi r hr => ?_) ?_
  · have e1 : wrap64 ((i : Int) - 1) = ((i - 1 : Nat) : Int) := by rw [w64] <;> omega
    have dd := reading_diffs xs h i h1 hi
    refine Ev.succ ?_
    simp only [impl_powersOf.l0, if_pos (show (i : Int) < (xs.length : Int) by omega), if_pos (show 0 ≤ (i : Int) by omega), e1, if_pos (show 0 ≤ ((i - 1 : Nat) : Int) by omega), if_pos (show ((i - 1 : Nat) : Int) < (xs.length : Int) by omega),
      rdi_Reading xs i hi, rdi_Reading xs (i - 1) (by omega), w64 (x := xs[i].f1 - xs[i - 1].f1) (by omega) (by omega), w64 (x := xs[i].f0 - xs[i - 1].f0) (by omega) (by omega),
      if_neg (show ¬ xs[i].f0 - xs[i - 1].f0 = 0 by omega), divRound_eq _ _ (show xs[i].f0 - xs[i - 1].f0 ≠ 0 by omega) (show _ ≤ xs[i].f1 - xs[i - 1].f1 by omega) (by omega) (by omega) (by omega), Option.bind_some, powers_len, if_pos (show i - 1 < 17592186044416 by omega), w64s (show i < 9223372036854775807 by omega)]
    have e2 : rdiv (xs[i].f1 - xs[i - 1].f1) (xs[i].f0 - xs[i - 1].f0) = pw xs i := by
      unfold pw
      rw [List.getD_eq_getElem?_getD, List.getD_eq_getElem?_getD, List.getElem?_eq_getElem hi, List.getElem?_eq_getElem (show i - 1 < xs.length by omega)]; rfl
    rw [e2, powers_succ xs i h1]
    exact hr
  · refine Ev.succ ?_
    simp only [impl_powersOf.l0, if_neg (show ¬ (xs.length : Int) < (xs.length : Int) by omega)]; exact Ev.now _

theorem markReading_ev (xs : List S110) (hl : xs.length < 4611686018427387904 / 2) : ∃ m xm, 0 ≤ m ∧ Ev (fun k => laws_markReadingS.f k xs 1) (m, xm) := by
  unfold laws_markReadingS.f
  have key := inv_evE (fun k (s : List S110 × Int) i => laws_markReadingS.l0 k s.1 s.2 i) xs.length (fun i s => s.1.length = xs.length ∧ s.2 = 1 + 2 * (i : Int)) (fun r => 0 ≤ r.1) (fun i s hi h => .inr ?_) (fun s h => ?_) xs.length 0 (xs, 1) (by omega) ⟨rfl, by simp⟩
  · obtain ⟨r, hp, h⟩ := key
    exact ⟨r.1, r.2, hp, h⟩
  · obtain ⟨ys, n⟩ := s
    obtain ⟨h1, h2⟩ := h
    simp only at h1 h2
    subst h2
    refine ⟨(?ys, 1 + 2 * ((i + 1 : Nat) : Int)), ⟨?len, rfl⟩, fun r hr => Ev.succ ?step⟩
    case step =>
      simp only [laws_markReadingS.l0, h1, if_pos (show (i : Int) < (xs.length : Int) by omega), if_pos (show 0 ≤ (i : Int) by omega), Option.bind_some, w64s (show i < 9223372036854775807 by omega), show wrap64 (1 + 2 * (i : Int) + 1) = 1 + 2 * (i : Int) + 1 from by rw [w64] <;> omega, show wrap64 (1 + 2 * (i : Int) + 1 + 1) = 1 + 2 * ((i + 1 : Nat) : Int) from by rw [w64] <;> omega]
      exact hr
    case len => simp [h1]
  · obtain ⟨ys, n⟩ := s
    obtain ⟨h1, h2⟩ := h
    simp only at h1 h2
    exact ⟨(n, ys), by simp only; omega, Ev.succ (by simp only [laws_markReadingS.l0, h1, if_neg (show ¬ (xs.length : Int) < (xs.length : Int) by omega)]; exact Ev.now _)⟩

def isOdd (xs : List RE) (most : Int) (i : Nat) : Prop := rd (powers xs xs.length) (i : Int) > most ∨ (rd_T110 xs ((i + 1 : Nat) : Int)).f1 = (rd_T110 xs (i : Int)).f1
instance (xs : List RE) (most : Int) (i : Nat) : Decidable (isOdd xs most i) := by unfold isOdd; infer_instance
def oddL (xs : List RE) (most : Int) : Nat → List Int
  | 0 => []
  | i + 1 => if isOdd xs most i then oddL xs most i ++ [((i + 1 : Nat) : Int)] else oddL xs most i
theorem oddL_len (xs : List RE) (most : Int) : ∀ i, (oddL xs most i).length ≤ i
  | 0 => Nat.le_refl _
  | i + 1 => by
    have := oddL_len xs most i
    unfold oddL
    split
    · simp; omega
    · omega
def res (xs : List RE) (most : Int) : List Int × Int := if validReading xs = true then (if most < 0 then ([], 2) else (oddL xs most (xs.length - 1), 0)) else ([], 1)
theorem res_len (xs : List RE) (most : Int) : (res xs most).1.length < 4611686018427387904 := by
  unfold res; split
  · rename_i h; have := validReading_len h
    split
    · simp
    · have := oddL_len xs most (xs.length - 1); simp only; omega
  · simp
theorem specLoop (xs : List RE) (most : Int) (h : validReading xs = true) : Ev (fun k => spec_OddReadings.l0 k xs most (powers xs xs.length) [] 0) (oddL xs most (xs.length - 1), 0) := by
  have hl := validReading_len h
  refine fold_from (fun k s i => spec_OddReadings.l0 k xs most (powers xs xs.length) s i) 0 (xs.length - 1) (oddL xs most) _ (Nat.zero_le _) (fun i _ hi r hr => Ev.succ ?_) (Ev.succ ?_)
  · have := oddL_len xs most i
    simp only [spec_OddReadings.l0, powers_len, if_pos (show (i : Int) < ((xs.length - 1 : Nat) : Int) by omega), if_pos (show 0 ≤ (i : Int) by omega), w64s (show i < 9223372036854775807 by omega), if_pos (show 0 ≤ ((i + 1 : Nat) : Int) by omega),
      if_pos (show ((i + 1 : Nat) : Int) < (xs.length : Int) by omega), if_pos (show (i : Int) < (xs.length : Int) by omega), if_pos (show (oddL xs most i).length < 17592186044416 by omega)]
    simp only [oddL] at hr
    by_cases c1 : rd (powers xs xs.length) (i : Int) > most
    · simp only [if_pos c1]; rw [if_pos (show isOdd xs most i from Or.inl c1)] at hr; exact hr
    · simp only [if_neg c1]
      by_cases c2 : (rd_T110 xs ((i + 1 : Nat) : Int)).f1 = (rd_T110 xs (i : Int)).f1
      · simp only [if_pos c2]; rw [if_pos (show isOdd xs most i from Or.inr c2)] at hr; exact hr
      · simp only [if_neg c2]; rw [if_neg (show ¬ isOdd xs most i from fun h => Or.elim h c1 c2)] at hr; exact hr
  · simp only [spec_OddReadings.l0, powers_len, if_neg (show ¬ ((xs.length - 1 : Nat) : Int) < ((xs.length - 1 : Nat) : Int) by omega)]; exact Ev.now _
theorem implLoop (xs : List RE) (most : Int) (h : validReading xs = true) : Ev (fun k => impl_OddReadings.l0 k xs most [] (powers xs xs.length) ((powers xs xs.length).length : Int) 0) (oddL xs most (xs.length - 1), 0) := by
  have hl := validReading_len h
  refine fold_from (fun k s i => impl_OddReadings.l0 k xs most s (powers xs xs.length) ((powers xs xs.length).length : Int) i) 0 (xs.length - 1) (oddL xs most) _ (Nat.zero_le _) (fun i _ hi r hr => Ev.succ ?_) (Ev.succ ?_)
  · have := oddL_len xs most i
    simp only [impl_OddReadings.l0, powers_len, if_pos (show (i : Int) < ((xs.length - 1 : Nat) : Int) by omega), if_pos (show 0 ≤ (i : Int) by omega), w64s (show i < 9223372036854775807 by omega), if_pos (show 0 ≤ ((i + 1 : Nat) : Int) by omega),
      if_pos (show ((i + 1 : Nat) : Int) < (xs.length : Int) by omega), if_pos (show (i : Int) < (xs.length : Int) by omega), if_pos (show (oddL xs most i).length < 17592186044416 by omega)]
    simp only [oddL, powers_len] at hr
    by_cases c1 : rd (powers xs xs.length) (i : Int) > most
    · simp only [if_pos c1]; rw [if_pos (show isOdd xs most i from Or.inl c1)] at hr; exact hr
    · simp only [if_neg c1]
      by_cases c2 : (rd_T110 xs ((i + 1 : Nat) : Int)).f1 = (rd_T110 xs (i : Int)).f1
      · simp only [if_pos c2]; rw [if_pos (show isOdd xs most i from Or.inr c2)] at hr; exact hr
      · simp only [if_neg c2]; rw [if_neg (show ¬ isOdd xs most i from fun h => Or.elim h c1 c2)] at hr; exact hr
  · simp only [impl_OddReadings.l0, powers_len, if_neg (show ¬ ((xs.length - 1 : Nat) : Int) < ((xs.length - 1 : Nat) : Int) by omega)]; exact Ev.now _
theorem spec_ev (xs : List RE) (most : Int) (h : smallReading xs) : Ev (fun k => spec_OddReadings.f k xs most) (res xs most) := by
  unfold spec_OddReadings.f res
  refine Ev.bind (specReadingS_ev xs h) ?_
  by_cases c : validReading xs = true
  · simp only [if_pos c]
    by_cases c2 : most < 0
    · simp only [if_pos c2]; exact Ev.now _
    · simp only [if_neg c2]; exact Ev.bind (specPowers_ev xs c) (specLoop xs most c)
  · simp only [if_neg c]; exact Ev.now _
theorem impl_ev (xs : List RE) (most : Int) (h : smallReading xs) : Ev (fun k => impl_OddReadings.f k xs most) (res xs most) := by
  unfold impl_OddReadings.f res
  refine Ev.bind (implReadingS_ev xs h) ?_
  by_cases c : validReading xs = true
  · simp only [if_pos c]
    by_cases c2 : most < 0
    · simp only [if_pos c2]; exact Ev.now _
    · simp only [if_neg c2]; exact Ev.bind (implPowers_ev xs c) (implLoop xs most c)
  · simp only [if_neg c]; exact Ev.now _
end Go.Proofs.Ytjdoejgcimnpjaa.PFnExactOddReadings
namespace Go.Proofs.Ytjdoejgcimnpjaa.Pure
open Go.RowKit Go.Proofs.YtjdoejgcimnpjaaW.PrintWords Go.Proofs.YtjdoejgcimnpjaaW.PLib Go.Proofs.Ytjdoejgcimnpjaa.PFnExactOddReadings

theorem FnExactOddReadings : PFnExactOddReadings.Pure := by
  intro xs most hx _
  obtain ⟨_, hl, hw⟩ := hx
  have hs : smallReading (xs.map cvReading) := ⟨by simp; omega, fun x _ => trivial⟩
  have hr := res_len (xs.map cvReading) most
  obtain ⟨r, hz⟩ := szReading_ev xs 1048576 (by omega)
  obtain ⟨m, xm, hm, hmark⟩ := markReading_ev (xs.map cvReading) (by simp; omega)
  refine Ev.get ?_
  unfold laws_FnExactOddReadings.f
  simp only [hz, Option.bind_some]
  by_cases c : r < 0
  · simp only [if_pos c]; exact Ev.now _
  simp only [if_neg c]
  refine Ev.bind (toReading_ev xs hl) (Ev.bind (spec_ev _ _ hs) (Ev.bind (toReading_ev xs hl) (Ev.bind (impl_ev _ _ hs) (Ev.bind (eqInts_ev _ (by omega)) ?_))))
  simp only [if_true, bne_self_eq_false]
  refine Ev.succ ?_
  simp only [laws_FnExactOddReadings.j0, Bool.false_eq_true, if_false]
  refine Ev.bind (toReading_ev xs hl) (Ev.bind (eqReading_ev _ hs.1) ?_)
  simp only [if_true]
  refine Ev.bind hmark ?_
  simp only [if_neg (show ¬ m < 0 by omega)]
  refine Ev.bind (eqInts_ev _ (by omega)) ?_
  simp only [if_true, bne_self_eq_false]
  refine Ev.succ ?_
  simp only [laws_FnExactOddReadings.j1, Bool.false_eq_true, if_false]
  refine Ev.bind (markInts_ev _ hr) (Ev.bind (heldInts_ev _ hr) ?_)
  simp only [if_neg (show ¬ ((res (xs.map cvReading) most).1.length : Int) + 1 < 0 by omega), if_true]
  refine Ev.bind (toReading_ev xs hl) (Ev.bind (impl_ev _ _ hs) (Ev.bind (eqInts_ev _ (by omega)) ?_))
  simp only [if_true, bne_self_eq_false]
  refine Ev.succ ?_
  simp only [laws_FnExactOddReadings.j2, Bool.false_eq_true, if_false]
  refine Ev.bind (heldInts_ev _ hr) ?_
  simp only [if_neg (show ¬ ((res (xs.map cvReading) most).1.length : Int) + 1 < 0 by omega), if_true]
  exact Ev.now _
end Go.Proofs.Ytjdoejgcimnpjaa.Pure

