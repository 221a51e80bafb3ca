/- The law FnExactShortestOrders, in numbers and lists alone: the program's ShortestOrders and the reference's give one answer, what they are handed stays as it was, and what is handed back is new. No condition. -/
import Derived.Test.YtffodlggihmonaaQFnExactShortestOrders
import Derived.Test.YtffodlggihmonaaPLib
set_option linter.unusedVariables false
set_option linter.unusedSimpArgs false
namespace Go.Proofs.Ytffodlggihmonaa.PFnExactShortestOrders
open Go.RowKit Go.Proofs.YtffodlggihmonaaW.PrintWords Go.Proofs.YtffodlggihmonaaW.PLib

theorem l00In_eq (a b c : Int) : spec_l00In.f a b c = some (decide (b ≤ a) && decide (a ≤ c)) := by
  unfold spec_l00In.f; by_cases h : a ≥ b
  · rw [if_pos h]; simp [show b ≤ a from h]
  · rw [if_neg h]; simp [show ¬ b ≤ a from h]

theorem within_eq (a b c : Int) : impl_within.f a b c = some (decide (b ≤ a) && decide (a ≤ c)) := by
  unfold impl_within.f; by_cases h : a ≥ b
  · rw [if_pos h]; simp [show b ≤ a from h]
  · rw [if_neg h]; simp [show ¬ b ≤ a from h]

/-! Rule -/
theorem rdl_Rule (xs : List S48) (i : Nat) (h : i < xs.length) : rd_T48 xs (i : Int) = xs[i] := by unfold rd_T48; exact getD_cast xs i h _
theorem rdi_Rule (xs : List S46) (i : Nat) (h : i < xs.length) : rd_T46 xs (i : Int) = xs[i] := by unfold rd_T46; exact getD_cast xs i h _
theorem rd1_Rule (x : S46) : rd_T46 [x] 0 = x := rfl
def cvRule (x : S48) : S46 := ⟨x.f0, x.f1, x.f2⟩
theorem toRule_ev (xs : List S48) (hl : xs.length * 24 ≤ 140737488351232) : Ev (fun k => laws_toRuleS.f k xs) (xs.map cvRule) := by
  refine ⟨xs.length + 1, fun k hk => ?_⟩
  simp only [laws_toRuleS.f]
  rw [if_pos (by omega), if_pos (by omega)]
  refine to_loop (fun k ys i => laws_toRuleS.l0 k xs ys i) xs cvRule (fun k ys i h hy => ?_) (fun k ys hy => ?_) _ (by simp) k (by omega)
  · simp only [laws_toRuleS.l0]
    rw [if_pos (by omega), if_pos (by omega)]
    simp only [laws_toRule.f, Option.bind_some, rdl_Rule xs i h]
    rw [if_pos (by omega), w64s (by omega)]
    rfl
  · simp only [laws_toRuleS.l0]
    rw [if_neg (by omega)]
theorem eqRule_ev (xs : List S46) (hl : xs.length < 9223372036854775807) : Ev (fun k => laws_eqRuleS.f k xs xs) true := by
  unfold laws_eqRuleS.f
  simp only [if_true]
  have := all_ev (fun k i => laws_eqRuleS.l0 k xs xs i) xs.length true (fun _ => true) (fun i hi => ⟨0, fun k _ => ?_⟩) ⟨0, fun k _ => ?_⟩
  · rw [allB_const] at this; exact this
  · simp only [laws_eqRuleS.l0]
    rw [if_pos (by omega), if_pos (by omega), if_pos (by omega)]
    simp only [laws_eqRule.f, if_true, bne_self_eq_false, Bool.false_eq_true, if_false, Option.bind_some, w64s (show i < 9223372036854775807 by omega)]
  · simp only [laws_eqRuleS.l0]
    rw [if_neg (by omega)]
theorem szRule_ev (xs : List S48) (a : Int) (hl : xs.length < 9223372036854775807) : ∃ r, laws_szRuleS.f xs a = some r := by
  unfold laws_szRuleS.f
  split
  all_goals exact ⟨_, rfl⟩

/-! rules -/
abbrev RU := S46
def okR (m : Int) (r : RU) : Bool := (decide (1 ≤ r.f0) && decide (r.f0 ≤ 3)) && ((decide (0 ≤ r.f1) && decide (r.f1 ≤ m)) && ((decide (0 ≤ r.f2) && decide (r.f2 ≤ m)) && !decide (r.f1 = r.f2)))
def okRs (n : Int) (xs : List RU) (i : Nat) : Bool := if h : i < xs.length then okR (wrap64 (n - 1)) xs[i] else false
def validRules (n : Int) (xs : List RU) : Bool := allB (okRs n xs) xs.length && ((decide (1 ≤ n) && decide (n ≤ 8)) && decide ((xs.length : Int) ≤ 12))
theorem specRules_ev (n : Int) (xs : List RU) (hl : xs.length < 9223372036854775807) : Ev (fun k => spec_l25Rules.f k n xs) (validRules n xs) := by
  unfold spec_l25Rules.f validRules
  refine all_ev (fun k i => spec_l25Rules.l0 k n xs i) xs.length _ (okRs n xs) (fun i h => ⟨0, fun k _ => ?_⟩) ⟨0, fun k _ => ?_⟩
  · simp only [spec_l25Rules.l0]
    rw [if_pos (by omega), if_pos (by omega)]
    rw [show okRs n xs i = okR (wrap64 (n - 1)) xs[i] from by unfold okRs; rw [dif_pos h]]
    simp only [l00In_eq, rdi_Rule xs i h, Option.bind_some, w64s (show i < 9223372036854775807 by omega), okR]
    by_cases c1 : (decide (1 ≤ xs[i].f0) && decide (xs[i].f0 ≤ 3)) = true
    · rw [if_pos c1]
      by_cases c2 : (decide (0 ≤ xs[i].f1) && decide (xs[i].f1 ≤ wrap64 (n - 1))) = true
      · rw [if_pos c2]
        by_cases c3 : (decide (0 ≤ xs[i].f2) && decide (xs[i].f2 ≤ wrap64 (n - 1))) = true
        · rw [if_pos c3]
          by_cases c4 : xs[i].f1 = xs[i].f2
          · rw [if_pos c4]; simp [c4]
          · rw [if_neg c4]; simp only [c1, c2, c3]; simp [c4]
        · rw [if_neg c3]; simp only [Bool.not_eq_true] at c3; simp only [c3]; simp
      · rw [if_neg c2]; simp only [Bool.not_eq_true] at c2; simp only [c2]; simp
    · rw [if_neg c1]; simp only [Bool.not_eq_true] at c1; simp only [c1]; simp
  · simp only [spec_l25Rules.l0]
    rw [if_neg (by omega)]
    simp only [l00In_eq, Option.bind_some]
    by_cases c : (decide (1 ≤ n) && decide (n ≤ 8)) = true
    · rw [if_pos c]; simp [c]
    · rw [if_neg c]; simp only [Bool.not_eq_true] at c; simp [c]
theorem implRules_loop (n : Int) (xs : List RU) (hl : xs.length < 9223372036854775807) : Ev (fun k => impl_ValidRules.l0 k n xs xs.length 0) (allB (okRs n xs) xs.length && true) := by
  refine all_ev (fun k i => impl_ValidRules.l0 k n xs xs.length i) xs.length _ (okRs n xs) (fun i h => ⟨0, fun k _ => ?_⟩) ⟨0, fun k _ => ?_⟩
  · simp only [impl_ValidRules.l0]
    rw [if_pos (by omega), if_pos (by omega), if_pos (by omega)]
    rw [show okRs n xs i = okR (wrap64 (n - 1)) xs[i] from by unfold okRs; rw [dif_pos h]]
    simp only [within_eq, rdi_Rule xs i h, Option.bind_some, w64s (show i < 9223372036854775807 by omega), okR]
    by_cases c1 : (decide (1 ≤ xs[i].f0) && decide (xs[i].f0 ≤ 3)) = true
    · rw [if_pos c1]
      by_cases c2 : (decide (0 ≤ xs[i].f1) && decide (xs[i].f1 ≤ wrap64 (n - 1))) = true
      · rw [if_pos c2]
        by_cases c3 : (decide (0 ≤ xs[i].f2) && decide (xs[i].f2 ≤ wrap64 (n - 1))) = true
        · rw [if_pos c3]
          by_cases c4 : xs[i].f1 = xs[i].f2
          · rw [if_pos c4]; simp [c4]
          · rw [if_neg c4]; simp only [c1, c2, c3]; simp [c4]
        · rw [if_neg c3]; simp only [Bool.not_eq_true] at c3; simp only [c3]; simp
      · rw [if_neg c2]; simp only [Bool.not_eq_true] at c2; simp only [c2]; simp
    · rw [if_neg c1]; simp only [Bool.not_eq_true] at c1; simp only [c1]; simp
  · simp only [impl_ValidRules.l0]
    rw [if_neg (by omega)]
theorem implRules_ev (n : Int) (xs : List RU) (hl : xs.length < 9223372036854775807) : Ev (fun k => impl_ValidRules.f k n xs) (validRules n xs) := by
  obtain ⟨k0, h0⟩ := implRules_loop n xs hl
  refine ⟨k0 + 2, fun k hk => ?_⟩
  obtain ⟨k, rfl⟩ : ∃ m, k = m + 1 := ⟨k - 1, by omega⟩
  simp only [impl_ValidRules.f, within_eq, Option.bind_some]
  unfold validRules
  by_cases c : (decide (1 ≤ n) && decide (n ≤ 8)) = true
  · rw [if_pos c]
    simp only [impl_ValidRules.j0]
    by_cases c2 : (xs.length : Int) > 12
    · rw [if_pos (decide_eq_true c2)]
      rw [decide_eq_false (show ¬ (xs.length : Int) ≤ 12 by omega)]; simp
    · rw [if_neg (by simpa using c2), show impl_ValidRules.l0 k n xs (xs.length : Int) 0 = _ from h0 k (by omega)]
      rw [decide_eq_true (show (xs.length : Int) ≤ 12 by omega), c]; simp
  · rw [if_neg c]
    simp only [impl_ValidRules.j0]
    simp only [Bool.not_eq_true] at c
    simp [c]
theorem validRules_n {n : Int} {xs : List RU} (h : validRules n xs = true) : 1 ≤ n ∧ n ≤ 8 ∧ xs.length ≤ 12 := by
  unfold validRules at h
  simp only [Bool.and_eq_true, decide_eq_true_eq] at h
  exact ⟨h.2.1.1, h.2.1.2, by omega⟩
theorem validRules_at {n : Int} {xs : List RU} (h : validRules n xs = true) (i : Nat) (hi : i < xs.length) :
    (1 ≤ xs[i].f0 ∧ xs[i].f0 ≤ 3) ∧ (0 ≤ xs[i].f1 ∧ xs[i].f1 < n) ∧ (0 ≤ xs[i].f2 ∧ xs[i].f2 < n) ∧ xs[i].f1 ≠ xs[i].f2 := by
  have hn := validRules_n h
  unfold validRules at h
  simp only [Bool.and_eq_true] at h
  have := allB_true.1 h.1 i hi
  unfold okRs at this
  rw [dif_pos hi, w64 (by omega) (by omega)] at this
  unfold okR at this
  simp only [Bool.and_eq_true, decide_eq_true_eq, Bool.not_eq_true', decide_eq_false_iff_not] at this
  exact ⟨this.1, ⟨this.2.1.1, by omega⟩, ⟨this.2.2.1.1, by omega⟩, this.2.2.2⟩

/-! switches, as a list and as bits -/
theorem wr62 (n : Int) (h0 : 0 ≤ n) (h1 : n < 2 ^ 62) : IntKind.i64.wrap n = n := by rw [IntKind.wrap_i64]; omega
theorem tb (a i : Nat) (ha : a < 2 ^ 62) (hi : i ≤ 61) : Go.bits .and .i64 (shr .i64 (a : Int) (i : Int)) 1 = if a.testBit i = true then 1 else 0 := by
  have e : shr .i64 (a : Int) (i : Int) = ((a / 2 ^ i : Nat) : Int) := by
    unfold shr
    rw [show ((i : Int)).toNat = i by omega, show min i IntKind.i64.bits = i from Nat.min_eq_left (show i ≤ 64 by omega)]
    simp
  have h := (bits_nat .i64 62 (by decide) wr62 (a / 2 ^ i) 1 (Nat.lt_of_le_of_lt (Nat.div_le_self _ _) ha) (by decide)).1
  rw [e, show (1 : Int) = ((1 : Nat) : Int) from rfl, h, Nat.and_one_is_mod, Nat.testBit_eq_decide_div_mod_eq]
  by_cases c : a / 2 ^ i % 2 = 1
  · rw [if_pos (by simpa using c), c]
  · rw [if_neg (by simpa using c)]
    omega
theorem shl1 (i : Nat) (hi : i ≤ 61) : shl .i64 1 (i : Int) = ((2 ^ i : Nat) : Int) := by
  unfold shl
  rw [show ((i : Int)).toNat = i by omega, show min i IntKind.i64.bits = i from Nat.min_eq_left (show i ≤ 64 by omega), Int.one_mul]
  have h : (2 : Nat) ^ i < 2 ^ 62 := Nat.pow_lt_pow_right (by omega) (by omega)
  have h2 : ((2 ^ i : Nat) : Int) < 2 ^ 62 := by exact_mod_cast h
  rw [show (2 : Int) ^ i = ((2 ^ i : Nat) : Int) by simp]
  exact wr62 _ (Int.natCast_nonneg _) h2
/-- The number whose bits are the first i switches. -/
def setN (xs : List Bool) : Nat → Nat
  | 0 => 0
  | i + 1 => if rdOf false xs (i : Int) = true then setN xs i ||| 2 ^ i else setN xs i
theorem setN_lt (xs : List Bool) : ∀ i, setN xs i < 2 ^ i
  | 0 => by simp [setN]
  | i + 1 => by
    have h := setN_lt xs i
    have h2 : (2 : Nat) ^ (i + 1) = 2 ^ i * 2 := Nat.pow_succ 2 i
    unfold setN
    split
    · exact Nat.or_lt_two_pow (by omega) (by have := Nat.two_pow_pos i; omega)
    · omega
theorem setN_bit (xs : List Bool) (j : Nat) : ∀ i, (setN xs i).testBit j = (decide (j < i) && rdOf false xs (j : Int))
  | 0 => by simp [setN]
  | i + 1 => by
    have h := setN_bit xs j i
    unfold setN
    by_cases e : j = i
    · subst e
      split
      · rename_i c; rw [Nat.testBit_or, Nat.testBit_two_pow_self, Bool.or_true, decide_eq_true (by omega), c]; rfl
      · rename_i c; rw [h, decide_eq_false (by omega)]; simp only [Bool.not_eq_true] at c; rw [c]; simp
    · split
      · rw [Nat.testBit_or, h, Nat.testBit_two_pow_of_ne (by omega), Bool.or_false]
        by_cases c : j < i
        · rw [decide_eq_true c, decide_eq_true (by omega)]
        · rw [decide_eq_false c, decide_eq_false (by omega)]
      · rw [h]
        by_cases c : j < i
        · rw [decide_eq_true c, decide_eq_true (by omega)]
        · rw [decide_eq_false c, decide_eq_false (by omega)]
theorem setN_lt62 (xs : List Bool) (i : Nat) (h : i ≤ 61) : setN xs i < 2 ^ 62 := Nat.lt_of_lt_of_le (setN_lt xs i) (Nat.pow_le_pow_right (by omega) (by omega))

theorem switchSet_ev (xs : List Bool) (hl : xs.length ≤ 61) : Ev (fun k => impl_switchSet.f k xs) ((setN xs xs.length : Nat) : Int) := by
  unfold impl_switchSet.f
  refine fold_from (fun k s i => impl_switchSet.l0 k s xs (xs.length : Int) i) 0 xs.length (fun i => ((setN xs i : Nat) : Int)) _ (Nat.zero_le _) (fun i _ hi r hr => Ev.succ ?_) (Ev.succ ?_)
  · simp only [impl_switchSet.l0, if_pos (show (i : Int) < (xs.length : Int) by omega), if_pos (show 0 ≤ (i : Int) by omega), w64s (show i < 9223372036854775807 by omega)]
    simp only [setN] at hr
    by_cases c : rdOf false xs (i : Int) = true
    · simp only [if_pos c] at hr ⊢
      have e := (bits_nat .i64 62 (by decide) wr62 (setN xs i) (2 ^ i) (setN_lt62 xs i (by omega)) (Nat.pow_lt_pow_right (by omega) (by omega))).2
      rw [shl1 i (by omega), e]
      exact hr
    · simp only [if_neg c] at hr ⊢
      exact hr
  · simp only [impl_switchSet.l0, if_neg (show ¬ (xs.length : Int) < (xs.length : Int) by omega)]; exact Ev.now _

/-- Is a rule broken where its two switches stand so? -/
def brk (kind : Int) (a b : Bool) : Bool := if kind = 1 then a && b else if kind = 2 then !a && !b else a && !b
theorem specBreaks_eq (xs : List Bool) (kind i j : Int) (h1 : 0 ≤ i) (h2 : i < (xs.length : Int)) (h3 : 0 ≤ j) (h4 : j < (xs.length : Int)) :
    spec_l25Breaks.f xs kind i j = some (brk kind (rdOf false xs i) (rdOf false xs j)) := by
  unfold spec_l25Breaks.f brk
  rw [if_pos h1, if_pos h2, if_pos h3, if_pos h4]
  by_cases c1 : kind = 1
  · rw [if_pos c1, if_pos c1]; cases rdOf false xs i <;> rfl
  · rw [if_neg c1, if_neg c1]
    by_cases c2 : kind = 2
    · rw [if_pos c2, if_pos c2]; cases rdOf false xs i <;> rfl
    · rw [if_neg c2, if_neg c2]; cases rdOf false xs i <;> rfl

/-! the rules over a set of switches that is a number -/
theorem implBreaksN (m : Nat) (hm : m < 2 ^ 62) (kind i j : Int) (h1 : 0 ≤ i) (h2 : i ≤ 61) (h3 : 0 ≤ j) (h4 : j ≤ 61) :
    impl_switches_breaks.f (m : Int) kind i j = some (brk kind (m.testBit i.toNat) (m.testBit j.toNat)) := by
  obtain ⟨a, rfl⟩ := Int.eq_ofNat_of_zero_le h1
  obtain ⟨b, rfl⟩ := Int.eq_ofNat_of_zero_le h3
  unfold impl_switches_breaks.f brk
  rw [if_pos h1, if_pos h3, tb m a hm (by omega), tb m b hm (by omega)]
  simp only [Int.toNat_natCast]
  by_cases c1 : kind = 1
  · rw [if_pos c1, if_pos c1]; cases m.testBit a <;> cases m.testBit b <;> rfl
  · rw [if_neg c1, if_neg c1]
    by_cases c2 : kind = 2
    · rw [if_pos c2, if_pos c2]; cases m.testBit a <;> cases m.testBit b <;> rfl
    · rw [if_neg c2, if_neg c2]; cases m.testBit a <;> cases m.testBit b <;> rfl
def stN (n m : Nat) : List Bool := (List.range n).map fun j => m.testBit j
theorem stN_len (n m : Nat) : (stN n m).length = n := by simp [stN]
theorem stN_at (n m : Nat) (j : Int) (h0 : 0 ≤ j) (h1 : j < (n : Int)) : rdOf false (stN n m) j = m.testBit j.toNat := by
  obtain ⟨a, rfl⟩ := Int.eq_ofNat_of_zero_le h0
  rw [rdOf_cast _ a (by rw [stN_len]; omega)]
  simp [stN]
def badM (m : Nat) (rs : List RU) (i : Nat) : Bool := brk (rd_T46 rs (i : Int)).f0 (m.testBit (rd_T46 rs (i : Int)).f1.toNat) (m.testBit (rd_T46 rs (i : Int)).f2.toNat)
def okM (rs : List RU) (m : Nat) : Bool := allB (fun i => !(badM m rs i)) rs.length
theorem specKeeps_ev (rs : List RU) (n m : Nat) (h : validRules (n : Int) rs = true) : Ev (fun k => spec_l25Keeps.f k (stN n m) rs) (okM rs m) := by
  have hn := validRules_n h
  unfold spec_l25Keeps.f okM
  have h := all_ev (fun k i => spec_l25Keeps.l0 k (stN n m) rs i) rs.length true (fun i => !(badM m rs i)) (fun i hi => ⟨0, fun k _ => ?_⟩) ⟨0, fun k _ => ?_⟩
  · rw [Bool.and_true] at h; exact h
  · have ha := validRules_at h i hi
    have e : spec_l25Breaks.f (stN n m) (rd_T46 rs (i : Int)).f0 (rd_T46 rs (i : Int)).f1 (rd_T46 rs (i : Int)).f2 = some (badM m rs i) := by
      unfold badM
      rw [rdi_Rule rs i hi, specBreaks_eq _ _ _ _ ha.2.1.1 (by rw [stN_len]; exact ha.2.1.2) ha.2.2.1.1 (by rw [stN_len]; exact ha.2.2.1.2), stN_at n m _ ha.2.1.1 ha.2.1.2, stN_at n m _ ha.2.2.1.1 ha.2.2.1.2]
    simp only [spec_l25Keeps.l0, if_pos (show (i : Int) < (rs.length : Int) by omega), if_pos (show 0 ≤ (i : Int) by omega), e, Option.bind_some, w64s (show i < 9223372036854775807 by omega)]
    cases badM m rs i <;> rfl
  · simp only [spec_l25Keeps.l0, if_neg (show ¬ (rs.length : Int) < (rs.length : Int) by omega)]
theorem allowed_eq (rs : List RU) (n m : Nat) (h : validRules (n : Int) rs = true) (hm : m < 2 ^ 62) : impl_switches_allowed.f (m : Int) rs = some (okM rs m) := by
  have hn := validRules_n h
  have hb : ∀ i (hi : i < rs.length), impl_switches_breaks.f (m : Int) rs[i].f0 rs[i].f1 rs[i].f2 = some (badM m rs i) := fun i hi => by
    have ha := validRules_at h i hi
    rw [implBreaksN m hm _ _ _ ha.2.1.1 (by omega) ha.2.2.1.1 (by omega)]
    unfold badM
    rw [rdi_Rule rs i hi]
  unfold impl_switches_allowed.f
  rw [if_pos (by
    rw [List.all_eq_true]
    intro x hx
    obtain ⟨i, hi, rfl⟩ := List.getElem_of_mem hx
    rw [hb i hi]; rfl)]
  congr 1
  unfold okM
  rw [Bool.eq_iff_iff, allB_true]
  simp only [Bool.not_eq_true', List.any_eq_false]
  constructor
  · intro h2 i hi
    have := h2 rs[i] (List.getElem_mem hi)
    rw [hb i hi] at this
    simpa using this
  · intro h2 x hx
    obtain ⟨i, hi, rfl⟩ := List.getElem_of_mem hx
    rw [hb i hi]
    have := h2 i hi
    simpa using this

/-! one switch turned over -/
theorem bits_xorN (a b : Nat) (ha : a < 2 ^ 62) (hb : b < 2 ^ 62) : Go.bits .xor .i64 (a : Int) (b : Int) = ((a ^^^ b : Nat) : Int) := by
  have hp : (2 : Nat) ^ 62 ≤ 2 ^ IntKind.i64.bits := Nat.pow_le_pow_right (by decide) (show 62 ≤ 64 by omega)
  have ha' : a % 2 ^ IntKind.i64.bits = a := Nat.mod_eq_of_lt (Nat.lt_of_lt_of_le ha hp)
  have hb' : b % 2 ^ IntKind.i64.bits = b := Nat.mod_eq_of_lt (Nat.lt_of_lt_of_le hb hp)
  simp only [Go.bits, BitVec.ofInt_natCast, BitVec.toNat_xor, BitVec.toNat_ofNat, ha', hb']
  exact wr62 _ (Int.natCast_nonneg _) (by exact_mod_cast Nat.xor_lt_two_pow ha hb)
theorem pow62 {i : Nat} (hi : i ≤ 61) : (2 : Nat) ^ i < 2 ^ 62 := Nat.pow_lt_pow_right (by omega) (by omega)
theorem turn_eq (m i : Nat) (hm : m < 2 ^ 62) (hi : i ≤ 61) : Go.bits .xor .i64 (m : Int) (shl .i64 1 (i : Int)) = ((m ^^^ 2 ^ i : Nat) : Int) := by
  rw [shl1 i hi, bits_xorN m _ hm (pow62 hi)]
theorem turn_lt {m i : Nat} (hm : m < 2 ^ 62) (hi : i ≤ 61) : m ^^^ 2 ^ i < 2 ^ 62 := Nat.xor_lt_two_pow hm (pow62 hi)
theorem turn_bit (m i j : Nat) : (m ^^^ 2 ^ i).testBit j = if j = i then !m.testBit j else m.testBit j := by
  rw [Nat.testBit_xor]
  by_cases e : j = i
  · subst e; rw [if_pos rfl, Nat.testBit_two_pow_self]; cases m.testBit j <;> rfl
  · rw [if_neg e, Nat.testBit_two_pow_of_ne (by omega)]; cases m.testBit j <;> rfl
theorem stN_setN (xs : List Bool) : stN xs.length (setN xs xs.length) = xs := by
  apply List.ext_getElem
  · simp [stN]
  · intro j h1 h2
    simp only [stN, List.getElem_map, List.getElem_range]
    rw [setN_bit, decide_eq_true h2, rdOf_cast xs j h2]; rfl
theorem own_eq (n m i : Nat) (hi : i < n) (hn : n ≤ 60) : spec_l25Own.f (stN n m) (i : Int) = some (stN n (m ^^^ 2 ^ i)) := by
  unfold spec_l25Own.f
  have hl := stN_len n m
  simp only [Option.bind_some, List.nil_append, List.length_nil]
  rw [if_pos (by omega), if_pos (by omega), if_pos (by omega), stN_at n m _ (by omega) (by omega), Int.toNat_natCast]
  congr 1
  apply List.ext_getElem
  · simp [stN]
  · intro j h1 h2
    have hj : j < n := by simpa [stN] using h2
    by_cases e : j = i
    · subst e
      rw [List.getElem_set_self]
      simp only [stN, List.getElem_map, List.getElem_range]
      rw [turn_bit, if_pos rfl]
    · rw [List.getElem_set_ne (by omega)]
      simp only [stN, List.getElem_map, List.getElem_range]
      rw [turn_bit, if_neg e]

def stI (n m i : Nat) : List Bool := (List.range n).map fun j => if j < i then m.testBit j else false
theorem stI_len (n m i : Nat) : (stI n m i).length = n := by simp [stI]
theorem stI_0 (n m : Nat) : stI n m 0 = List.replicate n false := by
  apply List.ext_getElem
  · simp [stI]
  · intro j h1 h2; simp [stI]
theorem stI_n (n m : Nat) : stI n m n = stN n m := by
  apply List.ext_getElem
  · simp [stI, stN]
  · intro j h1 h2
    have : j < n := by simpa [stI] using h1
    simp [stI, stN, this]
theorem stI_set (n m i : Nat) (h : i < n) : (stI n m i).set i (m.testBit i) = stI n m (i + 1) := by
  apply List.ext_getElem
  · simp [stI]
  · intro j h1 h2
    by_cases e : j = i
    · subst e
      rw [List.getElem_set_self]
      simp [stI]
    · rw [List.getElem_set_ne (by omega)]
      simp only [stI, List.getElem_map, List.getElem_range]
      by_cases d : j < i
      · rw [if_pos d, if_pos (by omega)]
      · rw [if_neg d, if_neg (by omega)]

theorem states_ev (n m : Nat) (hn : n ≤ 60) (hm : m < 2 ^ 62) : Ev (fun k => spec_l25States.f k (n : Int) (m : Int)) (stN n m) := by
  unfold spec_l25States.f
  simp only [if_pos (show 0 ≤ (n : Int) by omega), Int.toNat_natCast, if_pos (show n ≤ 281474976710656 by omega)]
  have h := fold_from (fun k (s : Int × List Bool) i => spec_l25States.l0 k (n : Int) s.1 s.2 i) 0 n (fun i => (((m / 2 ^ i : Nat) : Int), stI n m i)) (stN n m) (Nat.zero_le _) (fun i _ hi r hr => Ev.succ ?_) (Ev.succ ?_)
  · simpa [stI_0] using h
  · have hq : m / 2 ^ i ≤ m := Nat.div_le_self _ _
    have e1 : wrap64 (Int.tdiv ((m / 2 ^ i : Nat) : Int) 2) = ((m / 2 ^ (i + 1) : Nat) : Int) := by
      rw [Nat.pow_succ, ← Nat.div_div_eq_div_mul]
      generalize m / 2 ^ i = q at hq
      rw [Int.tdiv_eq_ediv_of_nonneg (by omega), w64 (by omega) (by omega)]
      omega
    have e2 : ((Int.tmod ((m / 2 ^ i : Nat) : Int) 2) == 1) = m.testBit i := by
      rw [Nat.testBit_eq_decide_div_mod_eq]
      generalize m / 2 ^ i = q
      rw [Int.tmod_eq_emod_of_nonneg (by omega)]
      by_cases c : q % 2 = 1
      · rw [decide_eq_true c]; simp; omega
      · rw [decide_eq_false c]; simp; omega
    have hs := stI_set n m i hi
    simp only at hr
    simp only [spec_l25States.l0, if_pos (show (i : Int) < (n : Int) by omega), if_pos (show 0 ≤ (i : Int) by omega), stI_len, Int.toNat_natCast, e1, e2, hs, w64s (show i < 9223372036854775807 by omega)]
    exact hr
  · simp only [spec_l25States.l0, if_neg (show ¬ (n : Int) < (n : Int) by omega), stI_n]; exact Ev.now _

/-! the number of a list of switches -/
theorem number_loop (n m : Nat) (hn : n ≤ 60) (hm : m < 2 ^ n) : ∀ i, i ≤ n → Ev (fun k => spec_l25Number.l0 k (stN n m) ((m / 2 ^ i : Nat) : Int) ((i : Int) - 1)) (m : Int)
  | 0, _ => by
    refine Ev.succ ?_
    simp only [spec_l25Number.l0, if_neg (show ¬ ((0 : Nat) : Int) - 1 ≥ 0 by omega), Nat.pow_zero, Nat.div_one]; exact Ev.now _
  | i + 1, hi => by
    have ih := number_loop n m hn hm i (by omega)
    have hl := stN_len n m
    have e1 : ((i + 1 : Nat) : Int) - 1 = (i : Int) := by omega
    have hq : m / 2 ^ (i + 1) < 2 ^ 60 := Nat.lt_of_le_of_lt (Nat.div_le_self _ _) (Nat.lt_of_lt_of_le hm (Nat.pow_le_pow_right (by omega) hn))
    have hd : m / 2 ^ i = 2 * (m / 2 ^ (i + 1)) + (if m.testBit i = true then 1 else 0) := by
      rw [Nat.testBit_eq_decide_div_mod_eq, Nat.pow_succ, ← Nat.div_div_eq_div_mul]
      generalize m / 2 ^ i = q
      by_cases c : q % 2 = 1
      · rw [if_pos (by simpa using c)]; omega
      · rw [if_neg (by simpa using c)]; omega
    refine Ev.succ ?_
    rw [e1]
    simp only [spec_l25Number.l0, if_pos (show (i : Int) ≥ 0 by omega), if_pos (show 0 ≤ (i : Int) by omega), hl, if_pos (show (i : Int) < (n : Int) by omega), stN_at n m (i : Int) (by omega) (by omega), Int.toNat_natCast, w64 (x := (i : Int) - 1) (by omega) (by omega)]
    rw [show (2 : Nat) ^ 60 = 1152921504606846976 by decide] at hq
    generalize hqq : m / 2 ^ (i + 1) = q at hd hq
    rw [w64 (x := (q : Int) * 2) (by omega) (by omega)]
    by_cases c : m.testBit i = true
    · rw [if_pos c] at hd
      simp only [if_pos c, w64 (x := (q : Int) * 2 + 1) (by omega) (by omega)]
      rw [show (q : Int) * 2 + 1 = ((m / 2 ^ i : Nat) : Int) by omega]; exact ih
    · rw [if_neg c] at hd
      simp only [if_neg c]
      rw [show (q : Int) * 2 = ((m / 2 ^ i : Nat) : Int) by omega]; exact ih
theorem number_ev (n m : Nat) (hn : n ≤ 60) (hm : m < 2 ^ n) : Ev (fun k => spec_l25Number.f k (stN n m)) (m : Int) := by
  unfold spec_l25Number.f
  have h := number_loop n m hn hm n (Nat.le_refl _)
  rw [Nat.div_eq_of_lt hm] at h
  rw [stN_len, w64 (x := (n : Int) - 1) (by omega) (by omega)]
  exact h

/-- The order that turns switch i over. -/
def ordM (m i : Nat) : Int := if m.testBit i = true then -(i : Int) - 1 else (i : Int) + 1
theorem specOrder_eq (n m i : Nat) (hi : i < n) (hn : n ≤ 60) : spec_l25Order.f (stN n m) (i : Int) = some (ordM m i) := by
  unfold spec_l25Order.f ordM
  have hl := stN_len n m
  rw [if_pos (by omega), if_pos (by omega), stN_at n m _ (by omega) (by omega), Int.toNat_natCast, w64 (x := -(i : Int)) (by omega) (by omega), w64 (x := -(i : Int) - 1) (by omega) (by omega), w64 (x := (i : Int) + 1) (by omega) (by omega)]
  by_cases c : m.testBit i = true
  · rw [if_pos c, if_pos c]
  · rw [if_neg c, if_neg c]
theorem implOrder_eq (m i : Nat) (hm : m < 2 ^ 62) (hi : i ≤ 60) : impl_switches_order.f (m : Int) (i : Int) = some (ordM m i) := by
  unfold impl_switches_order.f ordM
  rw [if_pos (by omega), tb m i hm (by omega), w64 (x := -(i : Int)) (by omega) (by omega), w64 (x := -(i : Int) - 1) (by omega) (by omega), w64 (x := (i : Int) + 1) (by omega) (by omega)]
  cases m.testBit i <;> rfl

theorem rd_at (xs : List Int) (i : Nat) (h : i < xs.length) : rd xs (i : Int) = xs[i] := by unfold rd; exact getD_cast xs i h _
theorem eqInts_ev (xs : List Int) (hl : xs.length < 9223372036854775807) : Ev (fun k => laws_eqInt64S.f k xs xs) true := by
  unfold laws_eqInt64S.f
  simp only [if_true]
  have := all_ev (fun k i => laws_eqInt64S.l0 k xs xs i) xs.length true (fun _ => true) (fun i hi => ⟨0, fun k _ => ?_⟩) ⟨0, fun k _ => ?_⟩
  · rw [allB_const] at this; exact this
  · simp only [laws_eqInt64S.l0]
    rw [if_pos (by omega), if_pos (by omega), if_pos (by omega)]
    simp only [if_true, w64s (show i < 9223372036854775807 by omega)]
  · simp only [laws_eqInt64S.l0]
    rw [if_neg (by omega)]

/-- What a list reads behind its marking, i of its numbers being marked. -/
def mk1 (xs : List Int) (i : Nat) : List Int := (List.range i).map (fun j : Nat => (j : Int) + 1) ++ xs.drop i
theorem mk1_len (xs : List Int) (i : Nat) (h : i ≤ xs.length) : (mk1 xs i).length = xs.length := by simp [mk1]; omega
theorem mk1_set (xs : List Int) (i : Nat) (h : i < xs.length) : (mk1 xs i).set i ((i : Int) + 1) = mk1 xs (i + 1) := by
  unfold mk1
  rw [List.set_append_right _ _ (by simp)]
  simp only [List.length_map, List.length_range, Nat.sub_self]
  rw [List.range_succ, List.map_append, List.append_assoc]
  congr 1
  rw [List.drop_eq_getElem_cons h]
  rfl
theorem markInts_ev (xs : List Int) (hl : xs.length < 4611686018427387904) : Ev (fun k => laws_markInt64S.f k xs 1) ((xs.length : Int) + 1, mk1 xs xs.length) := by
  unfold laws_markInt64S.f
  have h := fold_ev (fun k (s : List Int × Int) i => laws_markInt64S.l0 k s.1 s.2 i) xs.length (fun i => (mk1 xs i, (i : Int) + 1)) ((xs.length : Int) + 1, mk1 xs xs.length) (fun i hi => ⟨0, fun k _ => ?_⟩) ⟨0, fun k _ => ?_⟩ 0 (by omega)
  · simpa [mk1] using h
  · simp only [laws_markInt64S.l0, mk1_len xs i (by omega)]
    rw [if_pos (by omega), if_pos (by omega), w64s (by omega)]
    rw [show ((i : Int)).toNat = i from by omega, mk1_set xs i hi, show wrap64 ((i : Int) + 1 + 1) = ((i + 1 : Nat) : Int) + 1 from by rw [w64] <;> omega]
  · simp only [laws_markInt64S.l0, mk1_len xs xs.length (Nat.le_refl _)]
    rw [if_neg (by omega)]
theorem heldInts_ev (xs : List Int) (hl : xs.length < 4611686018427387904) : Ev (fun k => laws_heldInt64S.f k (mk1 xs xs.length) 1) ((xs.length : Int) + 1) := by
  unfold laws_heldInt64S.f
  have e := mk1_len xs xs.length (Nat.le_refl _)
  have h := fold_ev (fun k (s : Int) i => laws_heldInt64S.l0 k (mk1 xs xs.length) s i) xs.length (fun i => (i : Int) + 1) ((xs.length : Int) + 1) (fun i hi => ⟨0, fun k _ => ?_⟩) ⟨0, fun k _ => ?_⟩ 0 (by omega)
  · simpa using h
  · simp only [laws_heldInt64S.l0, e]
    have hr : rd (mk1 xs xs.length) (i : Int) = (i : Int) + 1 := by
      rw [rd_at _ i (by rw [e]; exact hi)]
      simp [mk1, List.getElem_append, hi]
    rw [if_pos (by omega), if_pos (by omega), hr, if_pos rfl, w64s (by omega), show wrap64 ((i : Int) + 1 + 1) = ((i + 1 : Nat) : Int) + 1 from by rw [w64] <;> omega]
  · simp only [laws_heldInt64S.l0, e]
    rw [if_neg (by omega)]

theorem toBools_ev (xs : List Bool) (hl : xs.length ≤ 140737488351232) : Ev (fun k => laws_toBoolS.f k xs) xs := by
  refine ⟨xs.length + 1, fun k hk => ?_⟩
  simp only [laws_toBoolS.f]
  rw [if_pos (by omega), if_pos (by omega)]
  have h := to_loop (fun k ys i => laws_toBoolS.l0 k xs ys i) xs id (fun k ys i h hy => ?_) (fun k ys hy => ?_) (List.replicate ((xs.length : Int) : Int).toNat false) (by simp) k (by omega)
  · rw [List.map_id] at h; exact h
  · simp only [laws_toBoolS.l0]
    rw [if_pos (by omega), if_pos (by omega), if_pos (by omega), w64s (by omega), rdOf_cast xs i h]
    rfl
  · simp only [laws_toBoolS.l0]
    rw [if_neg (by omega)]
theorem eqBools_ev (xs : List Bool) (hl : xs.length < 9223372036854775807) : Ev (fun k => laws_eqBoolS.f k xs xs) true := by
  unfold laws_eqBoolS.f
  simp only [if_true]
  have := all_ev (fun k i => laws_eqBoolS.l0 k xs xs i) xs.length true (fun _ => true) (fun i hi => ⟨0, fun k _ => ?_⟩) ⟨0, fun k _ => ?_⟩
  · rw [allB_const] at this; exact this
  · simp only [laws_eqBoolS.l0]
    rw [if_pos (by omega), if_pos (by omega), if_pos (by omega)]
    simp only [bne_self_eq_false, Bool.false_eq_true, if_false, if_true, w64s (show i < 9223372036854775807 by omega)]
  · simp only [laws_eqBoolS.l0]
    rw [if_neg (by omega)]

theorem markBools_ev (xs : List Bool) (a : Int) (h0 : 0 ≤ a) (h9 : a ≤ 1152921504606846976) (hl : xs.length < 1152921504606846976) : ∃ xm, Ev (fun k => laws_markBoolS.f k xs a) (a + (xs.length : Int), xm) := by
  unfold laws_markBoolS.f
  have key := inv_evE (fun k (s : List Bool × Int) i => laws_markBoolS.l0 k s.1 s.2 i) xs.length (fun i s => s.1.length = xs.length ∧ s.2 = a + (i : Int)) (fun r => r.1 = a + (xs.length : Int)) (fun i s hi h => .inr ?_) (fun s h => ?_) xs.length 0 (xs, a) (by omega) ⟨rfl, by simp⟩
  · obtain ⟨⟨r, xm⟩, hp, h⟩ := key
    simp only at hp
    subst hp
    exact ⟨xm, h⟩
  · obtain ⟨ys, n⟩ := s
    obtain ⟨h1, h2⟩ := h
    simp only at h1 h2
    subst h2
    refine ⟨(?ys, a + ((i + 1 : Nat) : Int)), ⟨?len, rfl⟩, fun r hr => Ev.succ ?step⟩
    case step =>
      simp only [laws_markBoolS.l0, h1, if_pos (show (i : Int) < (xs.length : Int) by omega), if_pos (show 0 ≤ (i : Int) by omega), Option.bind_some, w64s (show i < 9223372036854775807 by omega), show wrap64 (a + (i : Int) + 1) = a + ((i + 1 : Nat) : Int) from by rw [w64] <;> omega]
      exact hr
    case len => simp [h1]
  · obtain ⟨ys, n⟩ := s
    obtain ⟨h1, h2⟩ := h
    simp only at h1 h2
    subst h2
    exact ⟨(_, ys), rfl, Ev.succ (by simp only [laws_markBoolS.l0, h1, if_neg (show ¬ (xs.length : Int) < (xs.length : Int) by omega)]; exact Ev.now _)⟩

theorem markRuleFrom_ev (xs : List S46) (a : Int) (h0 : 0 ≤ a) (h9 : a ≤ 1152921504606846976) (hl : xs.length < 1152921504606846976 / 3) : ∃ xm, Ev (fun k => laws_markRuleS.f k xs a) (a + 3 * (xs.length : Int), xm) := by
  unfold laws_markRuleS.f
  have key := inv_evE (fun k (s : List S46 × Int) i => laws_markRuleS.l0 k s.1 s.2 i) xs.length (fun i s => s.1.length = xs.length ∧ s.2 = a + 3 * (i : Int)) (fun r => r.1 = a + 3 * (xs.length : Int)) (fun i s hi h => .inr ?_) (fun s h => ?_) xs.length 0 (xs, a) (by omega) ⟨rfl, by simp⟩
  · obtain ⟨⟨r, xm⟩, hp, h⟩ := key
    simp only at hp
    subst hp
    exact ⟨xm, h⟩
  · obtain ⟨ys, n⟩ := s
    obtain ⟨h1, h2⟩ := h
    simp only at h1 h2
    subst h2
    refine ⟨(?ys, a + 3 * ((i + 1 : Nat) : Int)), ⟨?len, rfl⟩, fun r hr => Ev.succ ?step⟩
    case step =>
      simp only [laws_markRuleS.l0, h1, if_pos (show (i : Int) < (xs.length : Int) by omega), if_pos (show 0 ≤ (i : Int) by omega), Option.bind_some, w64s (show i < 9223372036854775807 by omega), show wrap64 (a + 3 * (i : Int) + 1) = a + 3 * (i : Int) + 1 from by rw [w64] <;> omega, show wrap64 (a + 3 * (i : Int) + 1 + 1) = a + 3 * (i : Int) + 1 + 1 from by rw [w64] <;> omega, show wrap64 (a + 3 * (i : Int) + 1 + 1 + 1) = a + 3 * ((i + 1 : Nat) : Int) from by rw [w64] <;> omega]
      exact hr
    case len => simp [h1]
  · obtain ⟨ys, n⟩ := s
    obtain ⟨h1, h2⟩ := h
    simp only at h1 h2
    subst h2
    exact ⟨(_, ys), rfl, Ev.succ (by simp only [laws_markRuleS.l0, h1, if_neg (show ¬ (xs.length : Int) < (xs.length : Int) by omega)]; exact Ev.now _)⟩
theorem markRule_ev (xs : List S46) (hl : xs.length < 1152921504606846976 / 3) : ∃ m xm, 0 ≤ m ∧ Ev (fun k => laws_markRuleS.f k xs 1) (m, xm) := by
  obtain ⟨xm, h⟩ := markRuleFrom_ev xs 1 (by omega) (by omega) hl
  exact ⟨_, xm, by omega, h⟩

/-! a list of sets as numbers -/
def nat2 (L : List Nat) : List Int := L.map fun x : Nat => (x : Int)
theorem nat2_len (L : List Nat) : (nat2 L).length = L.length := by simp [nat2]
theorem nat2_snoc (L : List Nat) (x : Nat) : nat2 (L ++ [x]) = nat2 L ++ [(x : Int)] := by simp [nat2]
theorem nat2_rd (L : List Nat) (i : Nat) (h : i < L.length) : rd (nat2 L) (i : Int) = (L[i] : Int) := by
  unfold rd
  rw [getD_cast (nat2 L) i (by rw [nat2_len]; exact h)]
  simp [nat2]
theorem nodup_lenN : ∀ {l m : List Nat}, l.Nodup → (∀ x ∈ l, x ∈ m) → l.length ≤ m.length
  | [], m, _, _ => Nat.zero_le _
  | a :: l, m, h, hs => by
    have h1 := (List.nodup_cons.1 h)
    have ha := hs a List.mem_cons_self
    have := nodup_lenN (m := m.erase a) h1.2 (fun x hx => by
      have hne : x ≠ a := fun e => h1.1 (e ▸ hx)
      exact (List.mem_erase_of_ne hne).2 (hs x (List.mem_cons_of_mem _ hx)))
    rw [List.length_erase_of_mem ha] at this
    have hp : 0 < m.length := List.length_pos_of_mem ha
    simp only [List.length_cons]
    omega
theorem pow_le_256 {n : Nat} (hn : n ≤ 8) : 2 ^ n ≤ 256 := Nat.pow_le_pow_right (n := 2) (by omega) hn
/-! the distances to a set of switches, breadth first -/
theorem rd_set (F : List Int) (t x : Nat) (v : Int) (h : t < F.length) : rd (F.set t v) (x : Int) = if x = t then v else rd F (x : Int) := by
  unfold rd
  simp only [Int.toNat_natCast, List.getD_eq_getElem?_getD, List.getElem?_set]
  by_cases e : x = t
  · subst e; simp [h]
  · rw [if_neg (fun h => e h.symm), if_neg e]
theorem turn_turn (m i : Nat) : (m ^^^ 2 ^ i) ^^^ 2 ^ i = m := by rw [Nat.xor_assoc, Nat.xor_self, Nat.xor_zero]
structure FI (rs : List RU) (n g : Nat) (F : List Int) (L : List Nat) : Prop where
  len : F.length = 2 ^ n
  nodup : L.Nodup
  lt : ∀ x ∈ L, x < 2 ^ n
  mem : ∀ x : Nat, x < 2 ^ n → (0 ≤ rd F (x : Int) ↔ x ∈ L)
  zero : ∀ x ∈ L, rd F (x : Int) = 0 → x = g
  gmem : g ∈ L
  gzero : rd F (g : Int) = 0
  back : ∀ x ∈ L, x ≠ g → ∃ i, i < n ∧ okM rs (x ^^^ 2 ^ i) = true ∧ (x ^^^ 2 ^ i) ∈ L ∧ rd F ((x ^^^ 2 ^ i : Nat) : Int) = rd F (x : Int) - 1
  sorted : L.Pairwise fun a b : Nat => rd F (a : Int) ≤ rd F (b : Int)
  small : ∀ x ∈ L, rd F (x : Int) < (L.length : Int)
def Top (F : List Int) (L : List Nat) (top : Int) : Prop := ∀ x ∈ L, rd F (x : Int) ≤ top
def Clo (F : List Int) (L : List Nat) (m i : Nat) : Prop := (m ^^^ 2 ^ i) ∈ L ∧ rd F ((m ^^^ 2 ^ i : Nat) : Int) ≤ rd F (m : Int) + 1
structure Ext (F : List Int) (L : List Nat) (F' : List Int) (L' : List Nat) : Prop where
  pre : ∃ t, L' = L ++ t
  same : ∀ x ∈ L, rd F' (x : Int) = rd F (x : Int)
theorem Ext.mem {F F' : List Int} {L L' : List Nat} (h : Ext F L F' L') {x : Nat} (hx : x ∈ L) : x ∈ L' := by
  obtain ⟨t, rfl⟩ := h.pre
  exact List.mem_append_left _ hx
theorem Ext.clo {F F' : List Int} {L L' : List Nat} (h : Ext F L F' L') {m i : Nat} (hm : m ∈ L) (hc : Clo F L m i) : Clo F' L' m i :=
  ⟨h.mem hc.1, by rw [h.same _ hc.1, h.same _ hm]; exact hc.2⟩
theorem Ext.trans {F F' F2 : List Int} {L L' L2 : List Nat} (h : Ext F L F' L') (h2 : Ext F' L' F2 L2) : Ext F L F2 L2 := by
  obtain ⟨t, rfl⟩ := h.pre
  obtain ⟨t2, rfl⟩ := h2.pre
  exact ⟨⟨t ++ t2, by simp⟩, fun x hx => (h2.same x (List.mem_append_left _ hx)).trans (h.same x hx)⟩
theorem Ext.refl (F : List Int) (L : List Nat) : Ext F L F L := ⟨⟨[], by simp⟩, fun _ _ => rfl⟩
theorem Ext.at_ {F F' : List Int} {L L' : List Nat} (h : Ext F L F' L') (k : Nat) (hk : k < L.length) : ∃ hk' : k < L'.length, L'[k] = L[k] := by
  obtain ⟨t, rfl⟩ := h.pre
  exact ⟨by simp; omega, List.getElem_append_left hk⟩
def stepF (m : Nat) (s : List Int × List Nat) (i : Nat) : List Int × List Nat :=
  if rd s.1 ((m ^^^ 2 ^ i : Nat) : Int) < 0 then (s.1.set (m ^^^ 2 ^ i) (rd s.1 (m : Int) + 1), s.2 ++ [m ^^^ 2 ^ i]) else s
def rowF (m : Nat) (s : List Int × List Nat) : Nat → List Int × List Nat
  | 0 => s
  | i + 1 => stepF m (rowF m s i) i
theorem FI.ge {rs : List RU} {n g : Nat} {F : List Int} {L : List Nat} (h : FI rs n g F L) {x : Nat} (hx : x ∈ L) : 0 ≤ rd F (x : Int) := (h.mem x (h.lt x hx)).2 hx
theorem FI.leng {rs : List RU} {n g : Nat} {F : List Int} {L : List Nat} (h : FI rs n g F L) : L.length ≤ 2 ^ n := by
  have := nodup_lenN (m := List.range (2 ^ n)) h.nodup (fun x hx => List.mem_range.2 (h.lt x hx))
  rwa [List.length_range] at this
theorem stepF_ok {rs : List RU} {n g m i : Nat} {F : List Int} {L : List Nat} (h : FI rs n g F L) (ht : Top F L (rd F (m : Int) + 1)) (hm : m ∈ L) (hok : okM rs m = true) (hi : i < n) :
    FI rs n g (stepF m (F, L) i).1 (stepF m (F, L) i).2 ∧ Top (stepF m (F, L) i).1 (stepF m (F, L) i).2 (rd (stepF m (F, L) i).1 (m : Int) + 1) ∧ Ext F L (stepF m (F, L) i).1 (stepF m (F, L) i).2 ∧ Clo (stepF m (F, L) i).1 (stepF m (F, L) i).2 m i := by
  have htl : m ^^^ 2 ^ i < 2 ^ n := Nat.xor_lt_two_pow (h.lt m hm) (Nat.pow_lt_pow_right (by omega) hi)
  have htt := turn_turn m i
  unfold stepF
  by_cases c : rd F ((m ^^^ 2 ^ i : Nat) : Int) < 0
  · simp only [if_pos c]
    have htL : (m ^^^ 2 ^ i) ∉ L := fun e => by have := h.ge e; omega
    generalize hq : m ^^^ 2 ^ i = t at htl htt htL c
    have hset : ∀ x : Nat, rd (F.set t (rd F (m : Int) + 1)) (x : Int) = if x = t then rd F (m : Int) + 1 else rd F (x : Int) := fun x => rd_set F t x _ (by rw [h.len]; exact htl)
    have hsame : ∀ x ∈ L, rd (F.set t (rd F (m : Int) + 1)) (x : Int) = rd F (x : Int) := fun x hx => by rw [hset, if_neg (fun e : x = t => htL (e ▸ hx))]
    have hself : rd (F.set t (rd F (m : Int) + 1)) (t : Int) = rd F (m : Int) + 1 := by rw [hset, if_pos rfl]
    have hge := h.ge hm
    have hsm := h.small m hm
    refine ⟨⟨?_, ?_, ?_, ?_, ?_, ?_, ?_, ?_, ?_, ?_⟩, ?_, ⟨⟨[t], rfl⟩, hsame⟩, ?_⟩
    · rw [List.length_set]; exact h.len
    · rw [List.nodup_append]
      exact ⟨h.nodup, List.nodup_cons.2 ⟨by simp, List.nodup_nil⟩, fun a ha b hb => by
        rw [List.mem_singleton] at hb; subst hb
        exact fun e => htL (e ▸ ha)⟩
    · intro x hx
      rcases List.mem_append.1 hx with hx | hx
      · exact h.lt x hx
      · rw [List.mem_singleton] at hx; subst hx; exact htl
    · intro x hx
      rw [hset, List.mem_append, List.mem_singleton]
      by_cases e : x = t
      · rw [if_pos e]
        exact ⟨fun _ => .inr e, fun _ => by omega⟩
      · rw [if_neg e, h.mem x hx]
        exact ⟨.inl, fun h => h.resolve_right e⟩
    · intro x hx hz
      rcases List.mem_append.1 hx with hx | hx
      · rw [hsame x hx] at hz; exact h.zero x hx hz
      · rw [List.mem_singleton] at hx; subst hx
        rw [hself] at hz; omega
    · exact List.mem_append_left _ h.gmem
    · rw [hsame g h.gmem]; exact h.gzero
    · intro x hx hne
      rcases List.mem_append.1 hx with hx | hx
      · obtain ⟨j, h1, h2, h3, h4⟩ := h.back x hx hne
        exact ⟨j, h1, h2, List.mem_append_left _ h3, by rw [hsame _ h3, hsame x hx]; exact h4⟩
      · rw [List.mem_singleton] at hx; subst hx
        refine ⟨i, hi, ?_, ?_, ?_⟩
        · rw [htt]; exact hok
        · rw [htt]; exact List.mem_append_left _ hm
        · rw [htt, hself, hsame m hm]; omega
    · rw [List.pairwise_append]
      refine ⟨h.sorted.imp_of_mem (fun ha hb hab => by rw [hsame _ ha, hsame _ hb]; exact hab), List.pairwise_singleton _ _, fun a ha b hb => ?_⟩
      rw [List.mem_singleton] at hb; subst hb
      rw [hself, hsame a ha]; exact ht a ha
    · intro x hx
      rw [List.length_append, List.length_singleton]
      rcases List.mem_append.1 hx with hx | hx
      · have := h.small x hx
        rw [hsame x hx]; omega
      · rw [List.mem_singleton] at hx; subst hx
        rw [hself]; omega
    · intro x hx
      rw [hsame m hm]
      rcases List.mem_append.1 hx with hx | hx
      · rw [hsame x hx]; exact ht x hx
      · rw [List.mem_singleton] at hx; subst hx
        rw [hself]; exact Int.le_refl _
    · unfold Clo
      rw [hq]
      exact ⟨List.mem_append_right _ (by simp), by rw [hself, hsame m hm]; exact Int.le_refl _⟩
  · simp only [if_neg c]
    have hin := (h.mem _ htl).1 (by omega)
    exact ⟨h, ht, Ext.refl F L, hin, ht _ hin⟩
theorem rowF_ok {rs : List RU} {n g m : Nat} {F : List Int} {L : List Nat} (h : FI rs n g F L) (ht : Top F L (rd F (m : Int) + 1)) (hm : m ∈ L) (hok : okM rs m = true) :
    ∀ i, i ≤ n → FI rs n g (rowF m (F, L) i).1 (rowF m (F, L) i).2 ∧ Top (rowF m (F, L) i).1 (rowF m (F, L) i).2 (rd (rowF m (F, L) i).1 (m : Int) + 1) ∧ Ext F L (rowF m (F, L) i).1 (rowF m (F, L) i).2 ∧ ∀ j, j < i → Clo (rowF m (F, L) i).1 (rowF m (F, L) i).2 m j
  | 0, _ => ⟨h, ht, Ext.refl F L, fun j hj => absurd hj (Nat.not_lt_zero _)⟩
  | i + 1, hi => by
    obtain ⟨h1, h2, h3, h4⟩ := rowF_ok h ht hm hok i (by omega)
    obtain ⟨k1, k2, k3, k4⟩ := stepF_ok (i := i) h1 h2 (h3.mem hm) hok (by omega)
    refine ⟨k1, k2, h3.trans k3, fun j hj => ?_⟩
    by_cases e : j = i
    · subst e; exact k4
    · exact k3.clo (h3.mem hm) (h4 j (by omega))
/-- What is known when the places before a are done. -/
def DI (rs : List RU) (n g : Nat) (F : List Int) (L : List Nat) (a : Nat) : Prop :=
  FI rs n g F L ∧ (∀ h : a < L.length, Top F L (rd F (L[a] : Int) + 1)) ∧ ∀ k (hk : k < L.length), k < a → okM rs L[k] = true → ∀ i, i < n → Clo F L L[k] i
def Dist (rs : List RU) (n g : Nat) (F : List Int) : Prop := ∃ L, FI rs n g F L ∧ ∀ x ∈ L, okM rs x = true → ∀ i, i < n → Clo F L x i
theorem DI.next {rs : List RU} {n g : Nat} {F F' : List Int} {L L' : List Nat} {a : Nat} (ha : a < L.length) (h : DI rs n g F L a) (hf : FI rs n g F' L') (ht : Top F' L' (rd F' (L[a] : Int) + 1)) (he : Ext F L F' L')
    (hc : okM rs L[a] = true → ∀ i, i < n → Clo F' L' L[a] i) : DI rs n g F' L' (a + 1) := by
  obtain ⟨ha', hea⟩ := he.at_ a ha
  refine ⟨hf, fun hn x hx => ?_, fun k hk hlt => ?_⟩
  · have h1 := ht x hx
    have h2 : rd F' ((L'[a] : Nat) : Int) ≤ rd F' ((L'[a + 1] : Nat) : Int) := List.pairwise_iff_getElem.1 hf.sorted a (a + 1) ha' hn (by omega)
    rw [hea] at h2
    omega
  · by_cases e : k = a
    · subst e
      intro h1 i hi
      rw [hea] at h1 ⊢
      exact hc h1 i hi
    · have hkL : k < L.length := by omega
      obtain ⟨_, hek⟩ := he.at_ k hkL
      intro h1 i hi
      rw [hek] at h1 ⊢
      exact he.clo (List.getElem_mem hkL) (h.2.2 k hkL (by omega) h1 i hi)
theorem DI.done {rs : List RU} {n g : Nat} {F : List Int} {L : List Nat} {a : Nat} (h : DI rs n g F L a) (ha : L.length ≤ a) : Dist rs n g F :=
  ⟨L, h.1, fun x hx hok i hi => by
    obtain ⟨k, hk, rfl⟩ := List.getElem_of_mem hx
    exact h.2.2 k hk (by omega) hok i hi⟩

/-! two-clause rules: allowed states that are joined lie no farther apart than they differ -/
/-- Of three states, bit by bit, what two of them say. -/
def maj (a b c : Nat) : Nat := ((a &&& b) ||| (a &&& c)) ||| (b &&& c)
theorem maj_bit (a b c j : Nat) : (maj a b c).testBit j = ((a.testBit j && b.testBit j || a.testBit j && c.testBit j) || b.testBit j && c.testBit j) := by
  unfold maj
  rw [Nat.testBit_or, Nat.testBit_or, Nat.testBit_and, Nat.testBit_and, Nat.testBit_and]
theorem maj_lt {n a b c : Nat} (ha : a < 2 ^ n) (hb : b < 2 ^ n) : maj a b c < 2 ^ n := by
  unfold maj
  exact Nat.or_lt_two_pow (Nat.or_lt_two_pow (Nat.lt_of_le_of_lt Nat.and_le_left ha) (Nat.lt_of_le_of_lt Nat.and_le_left ha)) (Nat.lt_of_le_of_lt Nat.and_le_left hb)
theorem maj_aab (a b : Nat) : maj a a b = a := by
  apply Nat.eq_of_testBit_eq
  intro j
  rw [maj_bit]
  cases a.testBit j <;> cases b.testBit j <;> rfl
theorem maj_abb (a b : Nat) : maj a b b = b := by
  apply Nat.eq_of_testBit_eq
  intro j
  rw [maj_bit]
  cases a.testBit j <;> cases b.testBit j <;> rfl
theorem brk_maj (k : Int) (a1 a2 b1 b2 c1 c2 : Bool) (ha : brk k a1 a2 = false) (hb : brk k b1 b2 = false) (hc : brk k c1 c2 = false) :
    brk k ((a1 && b1 || a1 && c1) || b1 && c1) ((a2 && b2 || a2 && c2) || b2 && c2) = false := by
  unfold brk at *
  by_cases k1 : k = 1
  · simp only [if_pos k1] at *
    revert ha hb hc
    cases a1 <;> cases a2 <;> cases b1 <;> cases b2 <;> cases c1 <;> cases c2 <;> decide
  · by_cases k2 : k = 2
    · simp only [if_neg k1, if_pos k2] at *
      revert ha hb hc
      cases a1 <;> cases a2 <;> cases b1 <;> cases b2 <;> cases c1 <;> cases c2 <;> decide
    · simp only [if_neg k1, if_neg k2] at *
      revert ha hb hc
      cases a1 <;> cases a2 <;> cases b1 <;> cases b2 <;> cases c1 <;> cases c2 <;> decide
theorem ok_maj {rs : List RU} {a b c : Nat} (ha : okM rs a = true) (hb : okM rs b = true) (hc : okM rs c = true) : okM rs (maj a b c) = true := by
  unfold okM at *
  rw [allB_true] at *
  intro i hi
  have h1 := ha i hi
  have h2 := hb i hi
  have h3 := hc i hi
  unfold badM at *
  rw [Bool.not_eq_true'] at *
  rw [maj_bit, maj_bit]
  exact brk_maj _ _ _ _ _ _ _ h1 h2 h3
/-- One bit of the middle state turned: the same, or that bit turned. -/
theorem maj_turn (y q g i : Nat) : maj y (q ^^^ 2 ^ i) g = maj y q g ∨ maj y (q ^^^ 2 ^ i) g = maj y q g ^^^ 2 ^ i := by
  by_cases c : (maj y (q ^^^ 2 ^ i) g).testBit i = (maj y q g).testBit i
  · left
    apply Nat.eq_of_testBit_eq
    intro j
    by_cases e : j = i
    · subst e; exact c
    · rw [maj_bit, maj_bit, turn_bit, if_neg e]
  · right
    apply Nat.eq_of_testBit_eq
    intro j
    rw [turn_bit]
    by_cases e : j = i
    · subst e
      rw [if_pos rfl]
      revert c
      cases (maj y (q ^^^ 2 ^ j) g).testBit j <;> cases (maj y q g).testBit j <;> simp
    · rw [if_neg e, maj_bit, maj_bit, turn_bit, if_neg e]
theorem Dist.maj_in {rs : List RU} {n g y : Nat} {F : List Int} {L : List Nat} (h : FI rs n g F L) (hcl : ∀ x ∈ L, okM rs x = true → ∀ i, i < n → Clo F L x i) (hg : okM rs g = true) (hy : okM rs y = true) :
    ∀ (d : Nat) (q : Nat), q ∈ L → rd F (q : Int) = (d : Int) → okM rs q = true → maj y q g ∈ L ∧ okM rs (maj y q g) = true := by
  intro d
  induction d with
  | zero =>
    intro q hq hd hok
    have := h.zero q hq (by omega)
    subst this
    rw [maj_abb]
    exact ⟨hq, hok⟩
  | succ d ih =>
    intro q hq hd hok
    have hne : q ≠ g := fun e => by rw [e, h.gzero] at hd; omega
    obtain ⟨i, hi, ho, hm, hr⟩ := h.back q hq hne
    obtain ⟨h1, h2⟩ := ih _ hm (by omega) ho
    have ho2 := ok_maj hy hok hg
    refine ⟨?_, ho2⟩
    rcases maj_turn y q g i with e | e
    · rw [← e]; exact h1
    · have := (hcl _ h1 h2 i hi).1
      rw [e, turn_turn] at this
      exact this
/-- From a state that is joined with the end there is a step that brings it nearer. -/
theorem Dist.nearer {rs : List RU} {n g y : Nat} {F : List Int} {L : List Nat} (h : FI rs n g F L) (hcl : ∀ x ∈ L, okM rs x = true → ∀ i, i < n → Clo F L x i) (hg : okM rs g = true) (hy : okM rs y = true) (hyg : y ≠ g) :
    ∀ (d : Nat) (q : Nat), q ∈ L → rd F (q : Int) = (d : Int) → okM rs q = true → maj y q g = y → ∃ i, i < n ∧ y.testBit i ≠ g.testBit i ∧ okM rs (y ^^^ 2 ^ i) = true ∧ (y ^^^ 2 ^ i) ∈ L := by
  intro d
  induction d with
  | zero =>
    intro q hq hd hok hm
    have := h.zero q hq (by omega)
    subst this
    rw [maj_abb] at hm
    exact absurd hm.symm hyg
  | succ d ih =>
    intro q hq hd hok hmq
    have hne : q ≠ g := fun e => by rw [e, h.gzero] at hd; omega
    obtain ⟨i, hi, ho, hm, hr⟩ := h.back q hq hne
    rcases maj_turn y q g i with e | e
    · exact ih _ hm (by omega) ho (e.trans hmq)
    · obtain ⟨h1, h2⟩ := Dist.maj_in h hcl hg hy d _ hm (by omega) ho
      rw [e, hmq] at h1 h2
      refine ⟨i, hi, fun eq => ?_, h2, h1⟩
      have hb : (maj y (q ^^^ 2 ^ i) g).testBit i = (y ^^^ 2 ^ i).testBit i := by rw [e, hmq]
      rw [maj_bit, turn_bit, if_pos rfl, turn_bit, if_pos rfl, ← eq] at hb
      revert hb
      cases y.testBit i <;> cases q.testBit i <;> simp
/-- How many of the first places differ. -/
def ham (a b : Nat) : Nat → Nat
  | 0 => 0
  | i + 1 => ham a b i + if a.testBit i = b.testBit i then 0 else 1
theorem ham_le (a b : Nat) : ∀ i, ham a b i ≤ i
  | 0 => Nat.le_refl _
  | i + 1 => by
    have := ham_le a b i
    unfold ham
    split <;> omega
theorem ham_turn (a b j : Nat) (h : a.testBit j ≠ b.testBit j) : ∀ i, ham a b i = ham (a ^^^ 2 ^ j) b i + if j < i then 1 else 0
  | 0 => by simp [ham]
  | i + 1 => by
    have ih := ham_turn a b j h i
    unfold ham
    rw [turn_bit, ih]
    by_cases e : i = j
    · subst e
      rw [if_pos rfl, if_neg h, if_neg (Nat.lt_irrefl _), if_pos (Nat.lt_succ_self _), if_pos]
      revert h
      cases a.testBit i <;> cases b.testBit i <;> simp
    · rw [if_neg e]
      by_cases c : j < i
      · rw [if_pos c, if_pos (show j < i + 1 by omega)]; exact Nat.add_right_comm _ _ _
      · rw [if_neg c, if_neg (show ¬ j < i + 1 by omega)]; simp
theorem Dist.ham_ {rs : List RU} {n g : Nat} {F : List Int} {L : List Nat} (h : FI rs n g F L) (hcl : ∀ x ∈ L, okM rs x = true → ∀ i, i < n → Clo F L x i) (hg : okM rs g = true) :
    ∀ (d : Nat) (y : Nat), y ∈ L → okM rs y = true → ham y g n = d → rd F (y : Int) ≤ (d : Int) := by
  intro d
  induction d with
  | zero =>
    intro y hy hok hd
    by_cases e : y = g
    · subst e; rw [h.gzero]; exact Int.le_refl _
    · have hge := h.ge hy
      obtain ⟨i, hi, hb, _, _⟩ := Dist.nearer h hcl hg hok e (rd F (y : Int)).toNat y hy (by omega) hok (maj_aab y g)
      have := ham_turn y g i hb n
      rw [if_pos hi] at this
      omega
  | succ d ih =>
    intro y hy hok hd
    by_cases e : y = g
    · subst e; rw [h.gzero]; omega
    · have hge := h.ge hy
      obtain ⟨i, hi, hb, ho, hz⟩ := Dist.nearer h hcl hg hok e (rd F (y : Int)).toNat y hy (by omega) hok (maj_aab y g)
      have h1 := ham_turn y g i hb n
      rw [if_pos hi] at h1
      have h2 := ih _ hz ho (by omega)
      have h3 := (hcl _ hz ho i hi).2
      rw [turn_turn] at h3
      omega
theorem Dist.bound {rs : List RU} {n g x : Nat} {F : List Int} (h : Dist rs n g F) (hx : x < 2 ^ n) (h0 : 0 ≤ rd F (x : Int)) : rd F (x : Int) ≤ (n : Int) + 1 := by
  obtain ⟨L, hf, hcl⟩ := h
  have hxL := (hf.mem x hx).1 h0
  by_cases e : x = g
  · subst e; rw [hf.gzero]; omega
  · obtain ⟨i, hi, ho, hm, hr⟩ := hf.back x hxL e
    -- the end is allowed, or else the step before is the end
    by_cases hg : okM rs g = true
    · have h1 := Dist.ham_ hf hcl hg _ _ hm ho rfl
      have h2 := ham_le (x ^^^ 2 ^ i) g n
      omega
    · by_cases e2 : x ^^^ 2 ^ i = g
      · rw [e2] at ho; exact absurd ho hg
      · -- an allowed state's chain ends in an allowed one
        have key : ∀ (d : Nat) (q : Nat), q ∈ L → rd F (q : Int) = (d : Int) → okM rs q = true → okM rs g = true := by
          intro d
          induction d with
          | zero =>
            intro q hq hd hok
            have := hf.zero q hq (by omega)
            rwa [← this]
          | succ d ih =>
            intro q hq hd hok
            have hne : q ≠ g := fun e => by rw [e, hf.gzero] at hd; omega
            obtain ⟨j, hj, ho', hm', hr'⟩ := hf.back q hq hne
            exact ih _ hm' (by omega) ho'
        have hge := hf.ge hm
        exact absurd (key (rd F ((x ^^^ 2 ^ i : Nat) : Int)).toNat _ hm (by omega) ho) hg

/-- What the list of distances is in the end, from place a on. -/
def farF (rs : List RU) (n : Nat) (F : List Int) (L : List Nat) (a : Nat) : Nat → List Int
  | 0 => F
  | d + 1 => if h : a < L.length then (if okM rs L[a] = true then farF rs n (rowF L[a] (F, L) n).1 (rowF L[a] (F, L) n).2 (a + 1) d else farF rs n F L (a + 1) d) else F
theorem farF_dist (rs : List RU) (n g : Nat) : ∀ d a F L, DI rs n g F L a → a ≤ L.length → 2 ^ n < a + d → Dist rs n g (farF rs n F L a d) := by
  intro d
  induction d with
  | zero => intro a F L hg hat hd; have := hg.1.leng; omega
  | succ d ih =>
    intro a F L hg hat hd
    unfold farF
    by_cases ca : a < L.length
    · simp only [dif_pos ca]
      have hmL := List.getElem_mem ca
      by_cases ho : okM rs L[a] = true
      · simp only [if_pos ho]
        obtain ⟨r1, r2, r3, r4⟩ := rowF_ok hg.1 (hg.2.1 ca) hmL ho n (Nat.le_refl _)
        have := (r3.at_ a ca).1
        exact ih (a + 1) _ _ (DI.next ca hg r1 r2 r3 (fun _ => r4)) (by omega) (by omega)
      · simp only [if_neg ho]
        exact ih (a + 1) F L (DI.next ca hg hg.1 (hg.2.1 ca) (Ext.refl F L) (fun h => absurd h ho)) (by omega) (by omega)
    · simp only [dif_neg ca]
      exact hg.done (by omega)
theorem far_impl (rs : List RU) (n g : Nat) (c : validRules (n : Int) rs = true) :
    ∀ d a F L, DI rs n g F L a → a ≤ L.length → 2 ^ n < a + d → Ev (fun k => impl_distancesTo.l0 k (n : Int) rs F (nat2 (L.drop a))) (farF rs n F L a d) := by
  have hn := validRules_n c
  have hp := pow_le_256 (n := n) (by omega)
  intro d
  induction d with
  | zero => intro a F L hg hat hd; have := hg.1.leng; omega
  | succ d ih =>
    intro a F L hg hat hd
    have hlen := hg.1.leng
    unfold farF
    have hdl : (nat2 (L.drop a)).length = L.length - a := by rw [nat2_len, List.length_drop]
    by_cases ca : a < L.length
    · simp only [dif_pos ca]
      have hm := hg.1.lt _ (List.getElem_mem ca)
      have hmL := List.getElem_mem ca
      have ht := hg.2.1 ca
      have hnx := fun (F' : List Int) (L' : List Nat) => DI.next (rs := rs) (n := n) (g := g) (F' := F') (L' := L') ca hg
      have hrd : ∀ M : List Nat, (∃ h : a < M.length, M[a] = L[a]) → rd (nat2 (M.drop a)) 0 = (L[a] : Int) := fun M ⟨h, e⟩ => by
        have := nat2_rd (M.drop a) 0 (by rw [List.length_drop]; omega)
        rw [show ((0 : Nat) : Int) = 0 from rfl] at this
        rw [this, List.getElem_drop]
        simp only [Nat.add_zero, e]
      have hdr : ∀ M : List Nat, (nat2 (M.drop a)).drop (1 : Int).toNat = nat2 (M.drop (a + 1)) := fun M => by
        unfold nat2
        rw [show (1 : Int).toNat = 1 from rfl, ← List.map_drop, List.drop_drop]
      generalize hmm : L[a] = m at hm hmL ht hnx hrd
      have hm62 : m < 2 ^ 62 := Nat.lt_of_lt_of_le hm (Nat.pow_le_pow_right (by omega) (by omega))
      have h0 := hrd L ⟨ca, hmm⟩
      refine Ev.succ ?_
      simp only [impl_distancesTo.l0, hdl, if_pos (show ((L.length - a : Nat) : Int) > 0 by omega)]
      by_cases ho : okM rs m = true
      · simp only [if_pos ho]
        obtain ⟨r1, r2, r3, r4⟩ := rowF_ok hg.1 ht hmL ho n (Nat.le_refl _)
        have hnx' := hnx _ _ r1 r2 r3 (fun _ => r4)
        have hlt' : a < (rowF m (F, L) n).2.length := (r3.at_ a ca).1
        have ih' := ih (a + 1) _ _ hnx' (by omega) (by omega)
        refine fold_from (fun k (s : List Int × List Nat) i => impl_distancesTo.l1 k (n : Int) rs s.1 (nat2 (s.2.drop a)) i) 0 n (fun i => rowF m (F, L) i) _ (Nat.zero_le _) (fun i _ hi q hq => Ev.succ ?_) (Ev.succ ?_)
        · obtain ⟨q1, q2, q3, q4⟩ := rowF_ok hg.1 ht hmL ho i (by omega)
          have hat_ := q3.at_ a ca
          have hti : m ^^^ 2 ^ i < 2 ^ n := Nat.xor_lt_two_pow hm (Nat.pow_lt_pow_right (by omega) hi)
          have hq : Ev (fun k => impl_distancesTo.l1 k (n : Int) rs (stepF m (rowF m (F, L) i) i).1 (nat2 ((stepF m (rowF m (F, L) i) i).2.drop a)) ((i + 1 : Nat) : Int)) q := hq
          generalize rowF m (F, L) i = M at q1 q2 q3 q4 hat_ hq ⊢
          have hrd2 := hrd M.2 ⟨hat_.1, hat_.2.trans hmm⟩
          have hal := hat_.1
          have hmM : m ∈ M.2 := q3.mem hmL
          have hge := q1.ge hmM
          have hsm := q1.small m hmM
          have hlg := q1.leng
          have hFl := q1.len
          have hMl : (nat2 (M.2.drop a)).length = M.2.length - a := by rw [nat2_len, List.length_drop]
          simp only [impl_distancesTo.l1, if_pos (show (i : Int) < (n : Int) by omega), hMl, if_pos (show 0 < ((M.2.length - a : Nat) : Int) by omega), hrd2, allowed_eq rs n m c hm62, ho, Option.bind_some]
          refine Ev.succ ?_
          simp only [impl_distancesTo.j2, if_true, hMl, if_pos (show 0 < ((M.2.length - a : Nat) : Int) by omega), hrd2, if_pos (show 0 ≤ (i : Int) by omega), turn_eq m i hm62 (by omega), if_pos (show 0 ≤ ((m ^^^ 2 ^ i : Nat) : Int) by omega), hFl, if_pos (show ((m ^^^ 2 ^ i : Nat) : Int) < ((2 ^ n : Nat) : Int) by omega), w64s (show i < 9223372036854775807 by omega)]
          unfold stepF at hq
          by_cases c2 : rd M.1 ((m ^^^ 2 ^ i : Nat) : Int) < 0
          · simp only [if_pos c2, List.drop_append_of_le_length (Nat.le_of_lt hal), nat2_snoc] at hq
            simp only [if_pos c2, if_pos (show 0 ≤ (m : Int) by omega), if_pos (show (m : Int) < ((2 ^ n : Nat) : Int) by omega), if_pos (show M.2.length - a < 17592186044416 by omega), Int.toNat_natCast, w64 (x := rd M.1 (m : Int) + 1) (by omega) (by omega)]
            exact hq
          · simp only [if_neg c2] at hq ⊢
            exact hq
        · have hMl : (nat2 ((rowF m (F, L) n).2.drop a)).length = (rowF m (F, L) n).2.length - a := by rw [nat2_len, List.length_drop]
          simp only [impl_distancesTo.l1, if_neg (show ¬ (n : Int) < (n : Int) by omega)]
          refine Ev.succ ?_
          simp only [impl_distancesTo.j2, Bool.false_eq_true, if_false, hMl, if_pos (show 1 ≤ (((rowF m (F, L) n).2.length - a : Nat) : Int) by omega), hdr]
          exact ih'
      · simp only [if_neg ho]
        refine Ev.succ ?_
        have hof : okM rs m = false := by simpa using ho
        simp only [impl_distancesTo.l1, if_pos (show (0 : Int) < (n : Int) by omega), hdl, if_pos (show 0 < ((L.length - a : Nat) : Int) by omega), h0, allowed_eq rs n m c hm62, hof, Option.bind_some]
        refine Ev.succ ?_
        simp only [impl_distancesTo.j2, Bool.false_eq_true, if_false, hdl, if_pos (show 1 ≤ ((L.length - a : Nat) : Int) by omega), hdr]
        exact ih (a + 1) F L (hnx _ _ hg.1 ht (Ext.refl F L) (fun h => absurd h ho)) (by omega) (by omega)
    · simp only [dif_neg ca]
      refine Ev.succ ?_
      simp only [impl_distancesTo.l0, hdl, if_neg (show ¬ ((L.length - a : Nat) : Int) > 0 by omega)]
      exact Ev.now _
/-- How it begins: the end alone. -/
theorem DI.begin {rs : List RU} {n g : Nat} (hg : g < 2 ^ n) : DI rs n g ((List.replicate (2 ^ n) (-1 : Int)).set g 0) [g] 0 := by
  have hr : ∀ x : Nat, x < 2 ^ n → rd ((List.replicate (2 ^ n) (-1 : Int)).set g 0) (x : Int) = if x = g then 0 else -1 := fun x hx => by
    rw [rd_set _ _ _ _ (by simpa using hg)]
    by_cases e : x = g
    · rw [if_pos e, if_pos e]
    · rw [if_neg e, if_neg e]
      unfold rd
      simp [List.getD_eq_getElem?_getD, hx]
  have hgg := hr g hg
  rw [if_pos rfl] at hgg
  refine ⟨⟨by simp, by simp, fun x hx => ?_, fun x hx => ?_, fun x hx _ => by simpa using hx, by simp, hgg, fun x hx hne => absurd (by simpa using hx) hne, List.pairwise_singleton _ _, fun x hx => ?_⟩, fun h x hx => ?_, fun k hk hlt => absurd hlt (Nat.not_lt_zero _)⟩
  · rw [List.mem_singleton] at hx; subst hx; exact hg
  · rw [hr x hx, List.mem_singleton]
    by_cases e : x = g
    · rw [if_pos e]; exact ⟨fun _ => e, fun _ => Int.le_refl _⟩
    · rw [if_neg e]; exact ⟨fun h => absurd h (by omega), fun h => absurd h e⟩
  · rw [List.mem_singleton] at hx; subst hx
    rw [hgg]; simp
  · rw [List.mem_singleton] at hx; subst hx
    show rd _ (x : Int) ≤ rd _ (x : Int) + 1
    omega
/-- The distances to g. -/
def farOf (rs : List RU) (n g : Nat) : List Int := farF rs n ((List.replicate (2 ^ n) (-1 : Int)).set g 0) [g] 0 (2 ^ n + 1)
theorem farOf_dist (rs : List RU) (n g : Nat) (hg : g < 2 ^ n) : Dist rs n g (farOf rs n g) := farF_dist rs n g _ _ _ _ (DI.begin hg) (Nat.zero_le _) (by omega)
theorem mul_pow (n : Nat) (hn : n ≤ 8) : bits_Mul.f 1 ((2 ^ n : Nat) : Int) = some (0, ((2 ^ n : Nat) : Int)) := by
  have : n = 0 ∨ n = 1 ∨ n = 2 ∨ n = 3 ∨ n = 4 ∨ n = 5 ∨ n = 6 ∨ n = 7 ∨ n = 8 := by omega
  rcases this with rfl | rfl | rfl | rfl | rfl | rfl | rfl | rfl | rfl <;> decide
theorem repeat_eq (n : Nat) (hn : n ≤ 8) : slices_Repeat_int_int.f ([(-1)] : List Int) ((2 ^ n : Nat) : Int) = some (List.replicate (2 ^ n) (-1)) := by
  have hp := pow_le_256 (n := n) (by omega)
  have hp0 := Nat.two_pow_pos n
  unfold slices_Repeat_int_int.f
  rw [if_pos ⟨rfl, by omega, by omega, mul_pow n hn⟩, Int.toNat_natCast]
  rfl
theorem distancesTo_ev (rs : List RU) (n g : Nat) (c : validRules (n : Int) rs = true) (hg : g < 2 ^ n) : Ev (fun k => impl_distancesTo.f k (g : Int) (n : Int) rs) (farOf rs n g) := by
  have hn := validRules_n c
  have hp := pow_le_256 (n := n) (by omega)
  unfold impl_distancesTo.f
  simp only [shl1 n (by omega), if_pos (show 0 ≤ (n : Int) by omega), repeat_eq n (by omega), Option.bind_some, Int.toNat_natCast, if_pos (show 0 ≤ (g : Int) by omega), List.length_replicate, if_pos (show (g : Int) < ((2 ^ n : Nat) : Int) by omega)]
  exact far_impl rs n g c (2 ^ n + 1) 0 _ [g] (DI.begin hg) (Nat.zero_le _) (by omega)

/-! one of the shortest ways -/
theorem ordM_ne (m i : Nat) : ordM m i ≠ 0 := by unfold ordM; split <;> omega
theorem ordM_abs (m i : Nat) : (ordM m i).natAbs = i + 1 := by unfold ordM; split <;> omega
theorem ordM_le (m i n : Nat) (hi : i < n) : ordM m i ≤ (n : Int) := by unfold ordM; split <;> omega
def cond (rs : List RU) (F : List Int) (m i : Nat) : Bool := decide (rd F ((m ^^^ 2 ^ i : Nat) : Int) = rd F (m : Int) - 1) && okM rs (m ^^^ 2 ^ i)
/-- The least order among the first i valves that brings m nearer; 0. -/
def pick (rs : List RU) (F : List Int) (m : Nat) : Nat → Int
  | 0 => 0
  | i + 1 => if cond rs F m i = true then (if pick rs F m i = 0 then ordM m i else if ordM m i < pick rs F m i then ordM m i else pick rs F m i) else pick rs F m i
theorem pick_ok (rs : List RU) (F : List Int) (m : Nat) : ∀ i, (pick rs F m i = 0 ∧ ∀ j, j < i → cond rs F m j = false) ∨ ∃ j, j < i ∧ cond rs F m j = true ∧ pick rs F m i = ordM m j
  | 0 => .inl ⟨rfl, fun j hj => absurd hj (Nat.not_lt_zero _)⟩
  | i + 1 => by
    have ih := pick_ok rs F m i
    unfold pick
    by_cases c : cond rs F m i = true
    · rw [if_pos c]
      right
      rcases ih with ⟨h1, h2⟩ | ⟨j, h1, h2, h3⟩
      · rw [if_pos h1]; exact ⟨i, Nat.lt_succ_self _, c, rfl⟩
      · have hne : pick rs F m i ≠ 0 := by rw [h3]; exact ordM_ne m j
        rw [if_neg hne]
        split
        · exact ⟨i, Nat.lt_succ_self _, c, rfl⟩
        · exact ⟨j, by omega, h2, h3⟩
    · rw [if_neg c]
      rcases ih with ⟨h1, h2⟩ | ⟨j, h1, h2, h3⟩
      · left
        refine ⟨h1, fun j hj => ?_⟩
        by_cases e : j = i
        · subst e; simpa using c
        · exact h2 j (by omega)
      · exact .inr ⟨j, by omega, h2, h3⟩
theorem Dist.step {rs : List RU} {n g m : Nat} {F : List Int} (h : Dist rs n g F) (hm : m < 2 ^ n) (hp : 0 < rd F (m : Int)) : ∃ i, i < n ∧ cond rs F m i = true := by
  obtain ⟨L, hf, _⟩ := h
  have hmL := (hf.mem m hm).1 (by omega)
  obtain ⟨i, h1, h2, h3, h4⟩ := hf.back m hmL (fun e => by rw [e, hf.gzero] at hp; omega)
  exact ⟨i, h1, by unfold cond; rw [h2, decide_eq_true h4]; rfl⟩
theorem Dist.pick_ {rs : List RU} {n g m : Nat} {F : List Int} (h : Dist rs n g F) (hm : m < 2 ^ n) (hp : 0 < rd F (m : Int)) : ∃ j, j < n ∧ cond rs F m j = true ∧ pick rs F m n = ordM m j := by
  obtain ⟨i, hi, hc⟩ := h.step hm hp
  rcases pick_ok rs F m n with ⟨_, h2⟩ | h
  · rw [h2 i hi] at hc; cases hc
  · exact h
/-- The orders from m on, d of them. -/
def way (rs : List RU) (F : List Int) (n : Nat) : Nat → Nat → List Int
  | 0, _ => []
  | d + 1, m => pick rs F m n :: way rs F n d (m ^^^ 2 ^ ((pick rs F m n).natAbs - 1))
theorem way_len (rs : List RU) (F : List Int) (n : Nat) : ∀ d m, (way rs F n d m).length = d
  | 0, _ => rfl
  | d + 1, m => by simp [way, way_len rs F n d]
theorem Dist.pick_lt {rs : List RU} {n g m : Nat} {F : List Int} (h : Dist rs n g F) (hm : m < 2 ^ n) {d : Nat} (hd : rd F (m : Int) = ((d + 1 : Nat) : Int)) :
    ∃ j, j < n ∧ pick rs F m n = ordM m j ∧ (pick rs F m n).natAbs - 1 = j ∧ m ^^^ 2 ^ j < 2 ^ n ∧ okM rs (m ^^^ 2 ^ j) = true ∧ rd F ((m ^^^ 2 ^ j : Nat) : Int) = (d : Int) := by
  obtain ⟨j, h1, h2, h3⟩ := h.pick_ hm (by omega)
  unfold cond at h2
  simp only [Bool.and_eq_true, decide_eq_true_eq] at h2
  refine ⟨j, h1, h3, by rw [h3, ordM_abs]; omega, Nat.xor_lt_two_pow hm (Nat.pow_lt_pow_right (by omega) h1), h2.2, by omega⟩
theorem way_impl (rs : List RU) (n g : Nat) (F : List Int) (c : validRules (n : Int) rs = true) (h : Dist rs n g F) (x0 : List Bool) (hx0 : x0.length = n) :
    ∀ (d m : Nat) (out : List Int), m < 2 ^ n → rd F (m : Int) = (d : Int) → out.length + d ≤ 1000 → Ev (fun k => impl_ShortestOrders.l0 k x0 rs (m : Int) (g : Int) F out) (out ++ way rs F n d m, 0) := by
  have hn := validRules_n c
  have hp := pow_le_256 (n := n) (by omega)
  obtain ⟨L, hf, hcl⟩ := h
  have hFl := hf.len
  intro d
  induction d with
  | zero =>
    intro m out hm hd ho
    have : m = g := hf.zero m ((hf.mem m hm).1 (by omega)) (by omega)
    subst this
    refine Ev.succ ?_
    simp only [impl_ShortestOrders.l0, if_true, way, List.append_nil]
    exact Ev.now _
  | succ d ih =>
    intro m out hm hd ho
    have hm62 : m < 2 ^ 62 := Nat.lt_of_lt_of_le hm (Nat.pow_le_pow_right (by omega) (by omega))
    obtain ⟨j, hj, hpj, hpa, hjm, hjo, hjd⟩ := Dist.pick_lt ⟨L, hf, hcl⟩ hm hd
    have hne : ¬ (m : Int) = (g : Int) := fun e => by
      have : m = g := by omega
      rw [this, hf.gzero] at hd; omega
    have ih' := ih (m ^^^ 2 ^ j) (out ++ [pick rs F m n]) hjm hjd (by simp; omega)
    have e1 : out ++ way rs F n (d + 1) m = (out ++ [pick rs F m n]) ++ way rs F n d (m ^^^ 2 ^ j) := by simp only [way, hpa, List.append_assoc, List.singleton_append]
    rw [e1]
    have hpl : pick rs F m n ≤ (n : Int) := by rw [hpj]; exact ordM_le m j n hj
    have hpn : pick rs F m n ≠ 0 := by rw [hpj]; exact ordM_ne m j
    refine Ev.succ ?_
    simp only [impl_ShortestOrders.l0, if_neg hne, hx0]
    refine fold_from (fun k s i => impl_ShortestOrders.l1 k x0 rs (m : Int) (g : Int) F out s (n : Int) i) 0 n (fun i => if pick rs F m i = 0 then 9 else pick rs F m i) _ (Nat.zero_le _) (fun i _ hi q hq => Ev.succ ?_) (Ev.succ ?_)
    · have hti : m ^^^ 2 ^ i < 2 ^ n := Nat.xor_lt_two_pow hm (Nat.pow_lt_pow_right (by omega) hi)
      have hol := ordM_le m i n hi
      have hon := ordM_ne m i
      simp only [impl_ShortestOrders.l1, if_pos (show (i : Int) < (n : Int) by omega), if_pos (show 0 ≤ (i : Int) by omega), turn_eq m i hm62 (by omega), allowed_eq rs n _ c (turn_lt hm62 (show i ≤ 61 by omega)), Option.bind_some, if_pos (show 0 ≤ ((m ^^^ 2 ^ i : Nat) : Int) by omega), hFl, if_pos (show ((m ^^^ 2 ^ i : Nat) : Int) < ((2 ^ n : Nat) : Int) by omega), if_pos (show 0 ≤ (m : Int) by omega), if_pos (show (m : Int) < ((2 ^ n : Nat) : Int) by omega), implOrder_eq m i hm62 (by omega), w64s (show i < 9223372036854775807 by omega), hd, w64 (x := ((d + 1 : Nat) : Int) - 1) (by omega) (by omega)]
      unfold pick cond at hq
      simp only [hd] at hq
      by_cases c1 : okM rs (m ^^^ 2 ^ i) = true
      · by_cases c2 : rd F ((m ^^^ 2 ^ i : Nat) : Int) = ((d + 1 : Nat) : Int) - 1
        · simp only [c1, c2, decide_true, Bool.and_self, if_true] at hq
          simp only [c1, c2, if_true]
          by_cases c3 : pick rs F m i = 0
          · simp only [if_pos c3, if_neg hon] at hq
            simp only [if_pos c3]
            rw [show mn 9 (ordM m i) = ordM m i by unfold mn; omega]
            exact hq
          · simp only [if_neg c3] at hq ⊢
            by_cases c4 : ordM m i < pick rs F m i
            · simp only [if_pos c4, if_neg hon] at hq
              rw [show mn (pick rs F m i) (ordM m i) = ordM m i by unfold mn; omega]
              exact hq
            · simp only [if_neg c4, if_neg c3] at hq
              rw [show mn (pick rs F m i) (ordM m i) = pick rs F m i by unfold mn; omega]
              exact hq
        · simp only [c1, decide_eq_false c2, Bool.false_and, Bool.false_eq_true, if_false] at hq
          simp only [c1, if_true, if_neg c2]
          exact hq
      · simp only [Bool.not_eq_true] at c1
        simp only [c1, Bool.and_false, Bool.false_eq_true, if_false] at hq ⊢
        exact hq
    · have ha : impl_abs.f (pick rs F m n) = some ((j + 1 : Nat) : Int) := by
        unfold impl_abs.f
        rw [hpj, w64 (x := -ordM m j) (by unfold ordM; split <;> omega) (by unfold ordM; split <;> omega)]
        congr 1
        unfold mx ordM
        split <;> omega
      simp only [impl_ShortestOrders.l1, if_neg (show ¬ (n : Int) < (n : Int) by omega), if_neg hpn, if_pos (show out.length < 17592186044416 by omega), ha, Option.bind_some, show ((j + 1 : Nat) : Int) - 1 = (j : Int) by omega, w64 (x := (j : Int)) (by omega) (by omega), if_pos (show 0 ≤ (j : Int) by omega), turn_eq m j hm62 (by omega)]
      exact ih'

theorem far_spec (rs : List RU) (n g : Nat) (c : validRules (n : Int) rs = true) :
    ∀ d a F L, DI rs n g F L a → a ≤ L.length → 2 ^ n < a + d → Ev (fun k => spec_l25Far.l1 k rs (n : Int) F (nat2 L) (a : Int)) (farF rs n F L a d) := by
  have hn := validRules_n c
  have hp := pow_le_256 (n := n) (by omega)
  intro d
  induction d with
  | zero => intro a F L hg hat hd; have := hg.1.leng; omega
  | succ d ih =>
    intro a F L hg hat hd
    have hlen := hg.1.leng
    unfold farF
    by_cases ca : a < L.length
    · simp only [dif_pos ca]
      have hm := hg.1.lt _ (List.getElem_mem ca)
      have hmL := List.getElem_mem ca
      have ht := hg.2.1 ca
      have hnx := fun (F' : List Int) (L' : List Nat) => DI.next (rs := rs) (n := n) (g := g) (F' := F') (L' := L') ca hg
      have hrd := nat2_rd L a ca
      generalize hmm : L[a] = m at hm hmL ht hnx hrd
      have hm62 : m < 2 ^ 62 := Nat.lt_of_lt_of_le hm (Nat.pow_le_pow_right (by omega) (by omega))
      refine Ev.succ ?_
      simp only [spec_l25Far.l1, nat2_len, if_pos (show (a : Int) < (L.length : Int) by omega), if_pos (show 0 ≤ (a : Int) by omega), hrd]
      refine Ev.bind (states_ev n m (by omega) hm62) (Ev.bind (specKeeps_ev rs n m c) ?_)
      by_cases ho : okM rs m = true
      · simp only [if_pos ho]
        obtain ⟨r1, r2, r3, r4⟩ := rowF_ok hg.1 ht hmL ho n (Nat.le_refl _)
        have hnx' := hnx _ _ r1 r2 r3 (fun _ => r4)
        have hlt' : a < (rowF m (F, L) n).2.length := (r3.at_ a ca).1
        have ih' := ih (a + 1) _ _ hnx' (by omega) (by omega)
        refine fold_from (fun k (s : List Int × List Nat) i => spec_l25Far.l2 k rs (n : Int) s.1 (nat2 s.2) (a : Int) (stN n m) i) 0 n (fun i => rowF m (F, L) i) _ (Nat.zero_le _) (fun i _ hi q hq => Ev.succ ?_) (Ev.succ ?_)
        · obtain ⟨q1, q2, q3, q4⟩ := rowF_ok hg.1 ht hmL ho i (by omega)
          have hat_ := q3.at_ a ca
          have hti : m ^^^ 2 ^ i < 2 ^ n := Nat.xor_lt_two_pow hm (Nat.pow_lt_pow_right (by omega) hi)
          have hq : Ev (fun k => spec_l25Far.l2 k rs (n : Int) (stepF m (rowF m (F, L) i) i).1 (nat2 (stepF m (rowF m (F, L) i) i).2) (a : Int) (stN n m) ((i + 1 : Nat) : Int)) q := hq
          generalize rowF m (F, L) i = M at q1 q2 q3 q4 hat_ hq ⊢
          obtain ⟨hal, hae⟩ := hat_
          rw [hmm] at hae
          have hrd2 := nat2_rd M.2 a hal
          rw [hae] at hrd2
          have hmM : m ∈ M.2 := q3.mem hmL
          have hge := q1.ge hmM
          have hsm := q1.small m hmM
          have hlg := q1.leng
          have hFl := q1.len
          simp only [spec_l25Far.l2, if_pos (show (i : Int) < (n : Int) by omega), own_eq n m i hi (by omega), Option.bind_some]
          refine Ev.bind (number_ev n _ (by omega) hti) ?_
          simp only [if_pos (show 0 ≤ ((m ^^^ 2 ^ i : Nat) : Int) by omega), hFl, if_pos (show ((m ^^^ 2 ^ i : Nat) : Int) < ((2 ^ n : Nat) : Int) by omega), w64s (show i < 9223372036854775807 by omega)]
          unfold stepF at hq
          by_cases c2 : rd M.1 ((m ^^^ 2 ^ i : Nat) : Int) < 0
          · simp only [if_pos c2, nat2_snoc] at hq
            simp only [if_pos c2, nat2_len, if_pos (show 0 ≤ (a : Int) by omega), if_pos (show (a : Int) < (M.2.length : Int) by omega), hrd2, if_pos (show 0 ≤ (m : Int) by omega), if_pos (show (m : Int) < ((2 ^ n : Nat) : Int) by omega), if_pos (show M.2.length < 17592186044416 by omega), Int.toNat_natCast, w64 (x := rd M.1 (m : Int) + 1) (by omega) (by omega)]
            exact hq
          · simp only [if_neg c2] at hq ⊢
            exact hq
        · simp only [spec_l25Far.l2, if_neg (show ¬ (n : Int) < (n : Int) by omega), w64s (show a < 9223372036854775807 by omega)]
          exact ih'
      · simp only [if_neg ho, w64s (show a < 9223372036854775807 by omega)]
        exact ih (a + 1) F L (hnx _ _ hg.1 ht (Ext.refl F L) (fun h => absurd h ho)) (by omega) (by omega)
    · simp only [dif_neg ca]
      refine Ev.succ ?_
      simp only [spec_l25Far.l1, nat2_len, if_neg (show ¬ (a : Int) < (L.length : Int) by omega)]
      exact Ev.now _
theorem far_ev (n : Nat) (rs : List RU) (g : Nat) (c : validRules (n : Int) rs = true) (hg : g < 2 ^ n) : Ev (fun k => spec_l25Far.f k (stN n g) rs) (farOf rs n g) := by
  have hn := validRules_n c
  have hp := pow_le_256 (n := n) (by omega)
  have eu : IntKind.u64.wrap (n : Int) = (n : Int) := by rw [IntKind.wrap_u64]; omega
  unfold spec_l25Far.f
  rw [stN_len]
  refine fold_from (fun k s i => spec_l25Far.l0 k (stN n g) rs (n : Int) s i) 0 (2 ^ n) (fun i => List.replicate i (-1 : Int)) _ (Nat.zero_le _) (fun i _ hi r hr => Ev.succ ?_) (Ev.succ ?_)
  · simp only [spec_l25Far.l0, eu, if_pos (show 0 ≤ (n : Int) by omega), shl1 n (by omega), if_pos (show (i : Int) < ((2 ^ n : Nat) : Int) by omega), List.length_replicate, if_pos (show i < 17592186044416 by omega), w64s (show i < 9223372036854775807 by omega)]
    rw [List.replicate_succ'] at hr
    exact hr
  · simp only [spec_l25Far.l0, eu, if_pos (show 0 ≤ (n : Int) by omega), shl1 n (by omega), if_neg (show ¬ ((2 ^ n : Nat) : Int) < ((2 ^ n : Nat) : Int) by omega)]
    refine Ev.bind (number_ev n g (by omega) hg) ?_
    have er : rd [(g : Int)] 0 = (g : Int) := rfl
    simp only [Option.bind_some, List.length_singleton, er, if_pos (show (0 : Int) < ((1 : Nat) : Int) by omega), if_pos (show 0 ≤ (g : Int) by omega), List.length_replicate, if_pos (show (g : Int) < ((2 ^ n : Nat) : Int) by omega), Int.toNat_natCast]
    exact far_spec rs n g c (2 ^ n + 1) 0 _ [g] (DI.begin hg) (Nat.zero_le _) (by omega)
theorem way_spec (rs : List RU) (n g : Nat) (F : List Int) (c : validRules (n : Int) rs = true) (h : Dist rs n g F) :
    ∀ (d m : Nat) (out : List Int), m < 2 ^ n → rd F (m : Int) = (d : Int) → out.length + d ≤ 1000 → Ev (fun k => spec_ShortestOrders.l0 k rs F (stN n m) out) (out ++ way rs F n d m, 0) := by
  have hn := validRules_n c
  have hp := pow_le_256 (n := n) (by omega)
  obtain ⟨L, hf, hcl⟩ := h
  have hFl := hf.len
  intro d
  induction d with
  | zero =>
    intro m out hm hd ho
    refine Ev.succ ?_
    simp only [spec_ShortestOrders.l0, way, List.append_nil]
    refine Ev.bind (number_ev n m (by omega) hm) ?_
    simp only [if_pos (show 0 ≤ (m : Int) by omega), hFl, if_pos (show (m : Int) < ((2 ^ n : Nat) : Int) by omega), if_neg (show ¬ rd F (m : Int) > 0 by omega)]
    exact Ev.now _
  | succ d ih =>
    intro m out hm hd ho
    have hm62 : m < 2 ^ 62 := Nat.lt_of_lt_of_le hm (Nat.pow_le_pow_right (by omega) (by omega))
    obtain ⟨j, hj, hpj, hpa, hjm, hjo, hjd⟩ := Dist.pick_lt ⟨L, hf, hcl⟩ hm hd
    have ih' := ih (m ^^^ 2 ^ j) (out ++ [pick rs F m n]) hjm hjd (by simp; omega)
    have e1 : out ++ way rs F n (d + 1) m = (out ++ [pick rs F m n]) ++ way rs F n d (m ^^^ 2 ^ j) := by simp only [way, hpa, List.append_assoc, List.singleton_append]
    rw [e1]
    refine Ev.succ ?_
    simp only [spec_ShortestOrders.l0]
    refine Ev.bind (number_ev n m (by omega) hm) ?_
    simp only [if_pos (show 0 ≤ (m : Int) by omega), hFl, if_pos (show (m : Int) < ((2 ^ n : Nat) : Int) by omega), if_pos (show rd F (m : Int) > 0 by omega)]
    refine fold_from (fun k s i => spec_ShortestOrders.l1 k rs F (stN n m) out s i) 0 n (fun i => pick rs F m i) _ (Nat.zero_le _) (fun i _ hi q hq => Ev.succ ?_) (Ev.succ ?_)
    · have hti : m ^^^ 2 ^ i < 2 ^ n := Nat.xor_lt_two_pow hm (Nat.pow_lt_pow_right (by omega) hi)
      simp only [spec_ShortestOrders.l1, stN_len, if_pos (show (i : Int) < (n : Int) by omega), own_eq n m i hi (by omega), Option.bind_some]
      refine Ev.bind (number_ev n _ (by omega) hti) ?_
      simp only [if_pos (show 0 ≤ ((m ^^^ 2 ^ i : Nat) : Int) by omega), hFl, if_pos (show ((m ^^^ 2 ^ i : Nat) : Int) < ((2 ^ n : Nat) : Int) by omega)]
      refine Ev.bind (number_ev n m (by omega) hm) ?_
      simp only [if_pos (show 0 ≤ (m : Int) by omega), if_pos (show (m : Int) < ((2 ^ n : Nat) : Int) by omega), hd, w64 (x := ((d + 1 : Nat) : Int) - 1) (by omega) (by omega)]
      unfold pick cond at hq
      simp only [hd] at hq
      by_cases c2 : rd F ((m ^^^ 2 ^ i : Nat) : Int) = ((d + 1 : Nat) : Int) - 1
      · simp only [c2, if_true]
        refine Ev.bind (specKeeps_ev rs n _ c) ?_
        refine Ev.succ ?_
        by_cases c1 : okM rs (m ^^^ 2 ^ i) = true
        · simp only [c1, c2, decide_true, Bool.and_self, if_true] at hq
          simp only [spec_ShortestOrders.j2, c1, Bool.not_true, Bool.false_eq_true, if_false, specOrder_eq n m i hi (by omega), Option.bind_some, w64s (show i < 9223372036854775807 by omega)]
          by_cases c3 : pick rs F m i = 0
          · simp only [if_pos c3] at hq ⊢; exact hq
          · simp only [if_neg c3] at hq ⊢
            by_cases c4 : ordM m i < pick rs F m i
            · simp only [if_pos c4] at hq ⊢; exact hq
            · simp only [if_neg c4] at hq ⊢; exact hq
        · simp only [Bool.not_eq_true] at c1
          simp only [c1, Bool.and_false, Bool.false_eq_true, if_false] at hq
          simp only [spec_ShortestOrders.j2, c1, Bool.not_false, if_true, w64s (show i < 9223372036854775807 by omega)]
          exact hq
      · simp only [decide_eq_false c2, Bool.false_and, Bool.false_eq_true, if_false] at hq
        simp only [if_neg c2]
        refine Ev.succ ?_
        simp only [spec_ShortestOrders.j2, if_true, w64s (show i < 9223372036854775807 by omega)]
        exact hq
    · have ha : spec_l00Max.f (pick rs F m n) (wrap64 (-pick rs F m n)) = some ((j + 1 : Nat) : Int) := by
        unfold spec_l00Max.f
        rw [hpj, w64 (x := -ordM m j) (by unfold ordM; split <;> omega) (by unfold ordM; split <;> omega)]
        unfold ordM
        by_cases q : m.testBit j = true
        · simp only [if_pos q, if_neg (show ¬ (-(j : Int) - 1 > -(-(j : Int) - 1)) by omega)]
          congr 1; omega
        · simp only [if_neg q, if_pos (show ((j : Int) + 1 > -((j : Int) + 1)) by omega)]
          congr 1
      simp only [spec_ShortestOrders.l1, stN_len, if_neg (show ¬ (n : Int) < (n : Int) by omega), if_pos (show out.length < 17592186044416 by omega), ha, Option.bind_some, show ((j + 1 : Nat) : Int) - 1 = (j : Int) by omega, w64 (x := (j : Int)) (by omega) (by omega), own_eq n m j hj (by omega)]
      exact ih'
def res (xs ys : List Bool) (rs : List RU) : List Int × Int :=
  if validRules (xs.length : Int) rs = true then (if xs.length = ys.length then (if rd (farOf rs xs.length (setN ys ys.length)) ((setN xs xs.length : Nat) : Int) < 0 then ([], 3) else (way rs (farOf rs xs.length (setN ys ys.length)) xs.length (rd (farOf rs xs.length (setN ys ys.length)) ((setN xs xs.length : Nat) : Int)).toNat (setN xs xs.length), 0)) else ([], 7)) else ([], 1)
theorem far_bd (xs ys : List Bool) (rs : List RU) (c : validRules (xs.length : Int) rs = true) (he : xs.length = ys.length) : Dist rs xs.length (setN ys ys.length) (farOf rs xs.length (setN ys ys.length)) ∧ (¬ rd (farOf rs xs.length (setN ys ys.length)) ((setN xs xs.length : Nat) : Int) < 0 → rd (farOf rs xs.length (setN ys ys.length)) ((setN xs xs.length : Nat) : Int) ≤ 9) := by
  have hn := validRules_n c
  have hy := setN_lt ys ys.length
  rw [← he] at hy ⊢
  have h := farOf_dist rs xs.length (setN ys xs.length) hy
  refine ⟨h, fun h0 => ?_⟩
  have := h.bound (setN_lt xs xs.length) (by omega)
  omega
theorem res_len (xs ys : List Bool) (rs : List RU) : (res xs ys rs).1.length < 4611686018427387904 := by
  unfold res
  by_cases c : validRules (xs.length : Int) rs = true
  · rw [if_pos c]
    by_cases he : xs.length = ys.length
    · rw [if_pos he]
      obtain ⟨h, hb⟩ := far_bd xs ys rs c he
      split
      · simp
      · rename_i h0
        have := hb h0
        rw [way_len]; omega
    · rw [if_neg he]; simp
  · rw [if_neg c]; simp
theorem spec_ev (xs ys : List Bool) (rs : List RU) (h : rs.length < 9223372036854775807) : Ev (fun k => spec_ShortestOrders.f k xs ys rs) (res xs ys rs) := by
  unfold spec_ShortestOrders.f
  refine Ev.bind (specRules_ev _ rs h) ?_
  unfold res
  by_cases c : validRules (xs.length : Int) rs = true
  · simp only [if_pos c]
    by_cases he : xs.length = ys.length
    · simp only [if_pos he, if_pos (show (xs.length : Int) = (ys.length : Int) by omega)]
      have hn := validRules_n c
      obtain ⟨hd, hb⟩ := far_bd xs ys rs c he
      have hgl := setN_lt ys ys.length
      have hml := setN_lt xs xs.length
      have hsx := stN_setN xs
      have hsy := stN_setN ys
      rw [← he] at hgl hd hb hsy ⊢
      generalize setN ys xs.length = g at hgl hd hb hsy ⊢
      generalize setN xs xs.length = m at hml hb hsx ⊢
      generalize xs.length = n at hn c he hgl hml hsx hsy hd hb ⊢
      subst hsx
      subst hsy
      refine Ev.bind (far_ev n rs g c hgl) ?_
      obtain ⟨L, hf, _⟩ := id hd
      have hFl := hf.len
      simp only [Option.bind_some, List.length_nil, stN_len, if_pos (show 0 + n < 140737488355328 by omega), List.nil_append]
      refine Ev.bind (number_ev n m (by omega) hml) ?_
      have hp := pow_le_256 (n := n) (by omega)
      simp only [if_pos (show 0 ≤ (m : Int) by omega), hFl, if_pos (show (m : Int) < ((2 ^ n : Nat) : Int) by omega)]
      by_cases c0 : rd (farOf rs n g) (m : Int) < 0
      · simp only [if_pos c0]; exact Ev.now _
      · simp only [if_neg c0]
        have hbb := hb c0
        exact way_spec rs n g _ c hd (rd (farOf rs n g) (m : Int)).toNat m [] hml (by omega) (by simp only [List.length_nil]; omega)
    · simp only [if_neg he, if_neg (show ¬ (xs.length : Int) = (ys.length : Int) by omega)]; exact Ev.now _
  · simp only [if_neg c]; exact Ev.now _
theorem impl_ev (xs ys : List Bool) (rs : List RU) (h : rs.length < 9223372036854775807) : Ev (fun k => impl_ShortestOrders.f k xs ys rs) (res xs ys rs) := by
  unfold impl_ShortestOrders.f
  refine Ev.bind (implRules_ev _ rs h) ?_
  unfold res
  by_cases c : validRules (xs.length : Int) rs = true
  · simp only [if_pos c]
    by_cases he : xs.length = ys.length
    · simp only [if_pos he, if_pos (show (ys.length : Int) = (xs.length : Int) by omega)]
      have hn := validRules_n c
      have hp := pow_le_256 (n := xs.length) (by omega)
      obtain ⟨hd, hb⟩ := far_bd xs ys rs c he
      have hgl := setN_lt ys ys.length
      have hml := setN_lt xs xs.length
      refine Ev.bind (switchSet_ev xs (by omega)) (Ev.bind (switchSet_ev ys (by omega)) (Ev.bind (switchSet_ev ys (by omega)) ?_))
      rw [← he] at hgl hd hb ⊢
      refine Ev.bind (distancesTo_ev rs xs.length _ c hgl) ?_
      obtain ⟨L, hf, _⟩ := id hd
      have hFl := hf.len
      generalize setN ys xs.length = g at hgl hd hb hFl ⊢
      generalize setN xs xs.length = m at hml hb ⊢
      simp only [if_pos (show 0 ≤ (m : Int) by omega), hFl, if_pos (show (m : Int) < ((2 ^ xs.length : Nat) : Int) by omega)]
      by_cases c0 : rd (farOf rs xs.length g) (m : Int) < 0
      · simp only [if_pos c0]
        refine Ev.succ ?_
        simp only [impl_ShortestOrders.j0, if_true]; exact Ev.now _
      · simp only [if_neg c0]
        have hbb := hb c0
        refine Ev.succ ?_
        simp only [impl_ShortestOrders.j0, decide_eq_false (show ¬ rd (farOf rs xs.length g) (m : Int) > 24 by omega), Bool.false_eq_true, if_false]
        exact way_impl rs xs.length g _ c hd xs rfl (rd (farOf rs xs.length g) (m : Int)).toNat m [] hml (by omega) (by simp only [List.length_nil]; omega)
    · simp only [if_neg he, if_neg (show ¬ (ys.length : Int) = (xs.length : Int) by omega)]; exact Ev.now _
  · simp only [if_neg c]; exact Ev.now _
end Go.Proofs.Ytffodlggihmonaa.PFnExactShortestOrders
namespace Go.Proofs.Ytffodlggihmonaa.Pure
open Go.RowKit Go.Proofs.YtffodlggihmonaaW.PrintWords Go.Proofs.YtffodlggihmonaaW.PLib Go.Proofs.Ytffodlggihmonaa.PFnExactShortestOrders

theorem FnExactShortestOrders : PFnExactShortestOrders.Pure := by
  intro xs ys rs hx hx2 hy
  obtain ⟨_, hxl, _⟩ := hx
  obtain ⟨_, hyl, _⟩ := hx2
  obtain ⟨_, hl, _⟩ := hy
  have hs : (rs.map cvRule).length < 9223372036854775807 := by simp; omega
  have hr := res_len xs ys (rs.map cvRule)
  obtain ⟨r, hz⟩ := szRule_ev rs 1048576 (by omega)
  obtain ⟨xm, hm1⟩ := markBools_ev xs 1 (by omega) (by omega) (by omega)
  obtain ⟨ym, hm3⟩ := markBools_ev ys (1 + (xs.length : Int)) (by omega) (by omega) (by omega)
  obtain ⟨rm, hm2⟩ := markRuleFrom_ev (rs.map cvRule) (1 + (xs.length : Int) + (ys.length : Int)) (by omega) (by omega) (by simp; omega)
  refine Ev.get ?_
  unfold laws_FnExactShortestOrders.f
  by_cases cp : (xs.length : Int) > 1048576
  · simp only [if_pos cp]; exact Ev.now _
  simp only [if_neg cp]
  by_cases cq : (ys.length : Int) > 1048576
  · simp only [if_pos cq]; exact Ev.now _
  simp only [if_neg cq]
  simp only [hz, Option.bind_some]
  by_cases c : r < 0
  · simp only [if_pos c]; exact Ev.now _
  simp only [if_neg c]
  refine Ev.bind (toBools_ev xs (by omega)) (Ev.bind (toBools_ev ys (by omega)) (Ev.bind (toRule_ev rs hl) (Ev.bind (spec_ev _ _ _ hs) (Ev.bind (toBools_ev xs (by omega)) (Ev.bind (toBools_ev ys (by omega)) (Ev.bind (toRule_ev rs hl) (Ev.bind (impl_ev _ _ _ hs) (Ev.bind (eqInts_ev _ (by omega)) ?_))))))))
  simp only [if_true, bne_self_eq_false]
  refine Ev.succ ?_
  simp only [laws_FnExactShortestOrders.j0, Bool.false_eq_true, if_false]
  refine Ev.bind (toBools_ev xs (by omega)) (Ev.bind (eqBools_ev _ (by omega)) ?_)
  simp only [if_true]
  refine Ev.bind (toBools_ev ys (by omega)) (Ev.bind (eqBools_ev _ (by omega)) ?_)
  simp only [if_true]
  refine Ev.bind (toRule_ev rs hl) (Ev.bind (eqRule_ev _ hs) ?_)
  simp only [if_true]
  refine Ev.bind hm1 (Ev.bind hm3 (Ev.bind hm2 ?_))
  simp only [if_neg (show ¬ 1 + (xs.length : Int) + (ys.length : Int) + 3 * ((rs.map cvRule).length : Int) < 0 by omega)]
  refine Ev.bind (eqInts_ev _ (by omega)) ?_
  simp only [if_true, bne_self_eq_false]
  refine Ev.succ ?_
  simp only [laws_FnExactShortestOrders.j1, Bool.false_eq_true, if_false]
  refine Ev.bind (markInts_ev _ hr) (Ev.bind (heldInts_ev _ hr) ?_)
  simp only [if_neg (show ¬ ((res xs ys (rs.map cvRule)).1.length : Int) + 1 < 0 by omega), if_true]
  refine Ev.bind (toBools_ev xs (by omega)) (Ev.bind (toBools_ev ys (by omega)) (Ev.bind (toRule_ev rs hl) (Ev.bind (impl_ev _ _ _ hs) (Ev.bind (eqInts_ev _ (by omega)) ?_))))
  simp only [if_true, bne_self_eq_false]
  refine Ev.succ ?_
  simp only [laws_FnExactShortestOrders.j2, Bool.false_eq_true, if_false]
  refine Ev.bind (heldInts_ev _ hr) ?_
  simp only [if_neg (show ¬ ((res xs ys (rs.map cvRule)).1.length : Int) + 1 < 0 by omega), if_true]
  exact Ev.now _
end Go.Proofs.Ytffodlggihmonaa.Pure

