/- The law FnExactCountReached, in numbers and lists alone: the program's CountReached and the reference's give one answer, and what they are handed stays as it was. No condition. -/
import Derived.Test.YtnmehknpphoolaaQFnExactCountReached
import Derived.Test.YtnmehknpphoolaaPLib
set_option linter.unusedVariables false
set_option linter.unusedSimpArgs false
namespace Go.Proofs.Ytnmehknpphoolaa.PFnExactCountReached
open Go.RowKit Go.Proofs.YtnmehknpphoolaaW.PrintWords Go.Proofs.YtnmehknpphoolaaW.PLib

theorem l00In_eq (a b c : Int) : spec_l00In.f a b c = some (decide (b ≤ a) && decide (a ≤ c)) := by
  unfold spec_l00In.f; by_cases h : a ≥ b
  · rw [if_pos h]; simp [show b ≤ a from h]
  · rw [if_neg h]; simp [show ¬ b ≤ a from h]

theorem within_eq (a b c : Int) : impl_within.f a b c = some (decide (b ≤ a) && decide (a ≤ c)) := by
  unfold impl_within.f; by_cases h : a ≥ b
  · rw [if_pos h]; simp [show b ≤ a from h]
  · rw [if_neg h]; simp [show ¬ b ≤ a from h]

/-! Rule -/
theorem rdl_Rule (xs : List S93) (i : Nat) (h : i < xs.length) : rd_T93 xs (i : Int) = xs[i] := by unfold rd_T93; exact getD_cast xs i h _
theorem rdi_Rule (xs : List S91) (i : Nat) (h : i < xs.length) : rd_T91 xs (i : Int) = xs[i] := by unfold rd_T91; exact getD_cast xs i h _
theorem rd1_Rule (x : S91) : rd_T91 [x] 0 = x := rfl
def cvRule (x : S93) : S91 := ⟨x.f0, x.f1, x.f2⟩
theorem toRule_ev (xs : List S93) (hl : xs.length * 24 ≤ 140737488351232) : Ev (fun k => laws_toRuleS.f k xs) (xs.map cvRule) := by
  refine ⟨xs.length + 1, fun k hk => ?_⟩
  simp only [laws_toRuleS.f]
  rw [if_pos (by omega), if_pos (by omega)]
  refine to_loop (fun k ys i => laws_toRuleS.l0 k xs ys i) xs cvRule (fun k ys i h hy => ?_) (fun k ys hy => ?_) _ (by simp) k (by omega)
  · simp only [laws_toRuleS.l0]
    rw [if_pos (by omega), if_pos (by omega)]
    simp only [laws_toRule.f, Option.bind_some, rdl_Rule xs i h]
    rw [if_pos (by omega), w64s (by omega)]
    rfl
  · simp only [laws_toRuleS.l0]
    rw [if_neg (by omega)]
theorem eqRule_ev (xs : List S91) (hl : xs.length < 9223372036854775807) : Ev (fun k => laws_eqRuleS.f k xs xs) true := by
  unfold laws_eqRuleS.f
  simp only [if_true]
  have := all_ev (fun k i => laws_eqRuleS.l0 k xs xs i) xs.length true (fun _ => true) (fun i hi => ⟨0, fun k _ => ?_⟩) ⟨0, fun k _ => ?_⟩
  · rw [allB_const] at this; exact this
  · simp only [laws_eqRuleS.l0]
    rw [if_pos (by omega), if_pos (by omega), if_pos (by omega)]
    simp only [laws_eqRule.f, if_true, bne_self_eq_false, Bool.false_eq_true, if_false, Option.bind_some, w64s (show i < 9223372036854775807 by omega)]
  · simp only [laws_eqRuleS.l0]
    rw [if_neg (by omega)]
theorem szRule_ev (xs : List S93) (a : Int) (hl : xs.length < 9223372036854775807) : ∃ r, laws_szRuleS.f xs a = some r := by
  unfold laws_szRuleS.f
  split
  all_goals exact ⟨_, rfl⟩

/-! rules -/
abbrev RU := S91
def okR (m : Int) (r : RU) : Bool := (decide (1 ≤ r.f0) && decide (r.f0 ≤ 3)) && ((decide (0 ≤ r.f1) && decide (r.f1 ≤ m)) && ((decide (0 ≤ r.f2) && decide (r.f2 ≤ m)) && !decide (r.f1 = r.f2)))
def okRs (n : Int) (xs : List RU) (i : Nat) : Bool := if h : i < xs.length then okR (wrap64 (n - 1)) xs[i] else false
def validRules (n : Int) (xs : List RU) : Bool := allB (okRs n xs) xs.length && ((decide (1 ≤ n) && decide (n ≤ 8)) && decide ((xs.length : Int) ≤ 12))
theorem specRules_ev (n : Int) (xs : List RU) (hl : xs.length < 9223372036854775807) : Ev (fun k => spec_l25Rules.f k n xs) (validRules n xs) := by
  unfold spec_l25Rules.f validRules
  refine all_ev (fun k i => spec_l25Rules.l0 k n xs i) xs.length _ (okRs n xs) (fun i h => ⟨0, fun k _ => ?_⟩) ⟨0, fun k _ => ?_⟩
  · simp only [spec_l25Rules.l0]
    rw [if_pos (by omega), if_pos (by omega)]
    rw [show okRs n xs i = okR (wrap64 (n - 1)) xs[i] from by unfold okRs; rw [dif_pos h]]
    simp only [l00In_eq, rdi_Rule xs i h, Option.bind_some, w64s (show i < 9223372036854775807 by omega), okR]
    by_cases c1 : (decide (1 ≤ xs[i].f0) && decide (xs[i].f0 ≤ 3)) = true
    · rw [if_pos c1]
      by_cases c2 : (decide (0 ≤ xs[i].f1) && decide (xs[i].f1 ≤ wrap64 (n - 1))) = true
      · rw [if_pos c2]
        by_cases c3 : (decide (0 ≤ xs[i].f2) && decide (xs[i].f2 ≤ wrap64 (n - 1))) = true
        · rw [if_pos c3]
          by_cases c4 : xs[i].f1 = xs[i].f2
          · rw [if_pos c4]; simp [c4]
          · rw [if_neg c4]; simp only [c1, c2, c3]; simp [c4]
        · rw [if_neg c3]; simp only [Bool.not_eq_true] at c3; simp only [c3]; simp
      · rw [if_neg c2]; simp only [Bool.not_eq_true] at c2; simp only [c2]; simp
    · rw [if_neg c1]; simp only [Bool.not_eq_true] at c1; simp only [c1]; simp
  · simp only [spec_l25Rules.l0]
    rw [if_neg (by omega)]
    simp only [l00In_eq, Option.bind_some]
    by_cases c : (decide (1 ≤ n) && decide (n ≤ 8)) = true
    · rw [if_pos c]; simp [c]
    · rw [if_neg c]; simp only [Bool.not_eq_true] at c; simp [c]
theorem implRules_loop (n : Int) (xs : List RU) (hl : xs.length < 9223372036854775807) : Ev (fun k => impl_ValidRules.l0 k n xs xs.length 0) (allB (okRs n xs) xs.length && true) := by
  refine all_ev (fun k i => impl_ValidRules.l0 k n xs xs.length i) xs.length _ (okRs n xs) (fun i h => ⟨0, fun k _ => ?_⟩) ⟨0, fun k _ => ?_⟩
  · simp only [impl_ValidRules.l0]
    rw [if_pos (by omega), if_pos (by omega), if_pos (by omega)]
    rw [show okRs n xs i = okR (wrap64 (n - 1)) xs[i] from by unfold okRs; rw [dif_pos h]]
    simp only [within_eq, rdi_Rule xs i h, Option.bind_some, w64s (show i < 9223372036854775807 by omega), okR]
    by_cases c1 : (decide (1 ≤ xs[i].f0) && decide (xs[i].f0 ≤ 3)) = true
    · rw [if_pos c1]
      by_cases c2 : (decide (0 ≤ xs[i].f1) && decide (xs[i].f1 ≤ wrap64 (n - 1))) = true
      · rw [if_pos c2]
        by_cases c3 : (decide (0 ≤ xs[i].f2) && decide (xs[i].f2 ≤ wrap64 (n - 1))) = true
        · rw [if_pos c3]
          by_cases c4 : xs[i].f1 = xs[i].f2
          · rw [if_pos c4]; simp [c4]
          · rw [if_neg c4]; simp only [c1, c2, c3]; simp [c4]
        · rw [if_neg c3]; simp only [Bool.not_eq_true] at c3; simp only [c3]; simp
      · rw [if_neg c2]; simp only [Bool.not_eq_true] at c2; simp only [c2]; simp
    · rw [if_neg c1]; simp only [Bool.not_eq_true] at c1; simp only [c1]; simp
  · simp only [impl_ValidRules.l0]
    rw [if_neg (by omega)]
theorem implRules_ev (n : Int) (xs : List RU) (hl : xs.length < 9223372036854775807) : Ev (fun k => impl_ValidRules.f k n xs) (validRules n xs) := by
  obtain ⟨k0, h0⟩ := implRules_loop n xs hl
  refine ⟨k0 + 2, fun k hk => ?_⟩
  obtain ⟨k, rfl⟩ : ∃ m, k = m + 1 := ⟨k - 1, by omega⟩
  simp only [impl_ValidRules.f, within_eq, Option.bind_some]
  unfold validRules
  by_cases c : (decide (1 ≤ n) && decide (n ≤ 8)) = true
  · rw [if_pos c]
    simp only [impl_ValidRules.j0]
    by_cases c2 : (xs.length : Int) > 12
    · rw [if_pos (decide_eq_true c2)]
      rw [decide_eq_false (show ¬ (xs.length : Int) ≤ 12 by omega)]; simp
    · rw [if_neg (by simpa using c2), show impl_ValidRules.l0 k n xs (xs.length : Int) 0 = _ from h0 k (by omega)]
      rw [decide_eq_true (show (xs.length : Int) ≤ 12 by omega), c]; simp
  · rw [if_neg c]
    simp only [impl_ValidRules.j0]
    simp only [Bool.not_eq_true] at c
    simp [c]
theorem validRules_n {n : Int} {xs : List RU} (h : validRules n xs = true) : 1 ≤ n ∧ n ≤ 8 ∧ xs.length ≤ 12 := by
  unfold validRules at h
  simp only [Bool.and_eq_true, decide_eq_true_eq] at h
  exact ⟨h.2.1.1, h.2.1.2, by omega⟩
theorem validRules_at {n : Int} {xs : List RU} (h : validRules n xs = true) (i : Nat) (hi : i < xs.length) :
    (1 ≤ xs[i].f0 ∧ xs[i].f0 ≤ 3) ∧ (0 ≤ xs[i].f1 ∧ xs[i].f1 < n) ∧ (0 ≤ xs[i].f2 ∧ xs[i].f2 < n) ∧ xs[i].f1 ≠ xs[i].f2 := by
  have hn := validRules_n h
  unfold validRules at h
  simp only [Bool.and_eq_true] at h
  have := allB_true.1 h.1 i hi
  unfold okRs at this
  rw [dif_pos hi, w64 (by omega) (by omega)] at this
  unfold okR at this
  simp only [Bool.and_eq_true, decide_eq_true_eq, Bool.not_eq_true', decide_eq_false_iff_not] at this
  exact ⟨this.1, ⟨this.2.1.1, by omega⟩, ⟨this.2.2.1.1, by omega⟩, this.2.2.2⟩

/-! switches, as a list and as bits -/
theorem wr62 (n : Int) (h0 : 0 ≤ n) (h1 : n < 2 ^ 62) : IntKind.i64.wrap n = n := by rw [IntKind.wrap_i64]; omega
theorem tb (a i : Nat) (ha : a < 2 ^ 62) (hi : i ≤ 61) : Go.bits .and .i64 (shr .i64 (a : Int) (i : Int)) 1 = if a.testBit i = true then 1 else 0 := by
  have e : shr .i64 (a : Int) (i : Int) = ((a / 2 ^ i : Nat) : Int) := by
    unfold shr
    rw [show ((i : Int)).toNat = i by omega, show min i IntKind.i64.bits = i from Nat.min_eq_left (show i ≤ 64 by omega)]
    simp
  have h := (bits_nat .i64 62 (by decide) wr62 (a / 2 ^ i) 1 (Nat.lt_of_le_of_lt (Nat.div_le_self _ _) ha) (by decide)).1
  rw [e, show (1 : Int) = ((1 : Nat) : Int) from rfl, h, Nat.and_one_is_mod, Nat.testBit_eq_decide_div_mod_eq]
  by_cases c : a / 2 ^ i % 2 = 1
  · rw [if_pos (by simpa using c), c]
  · rw [if_neg (by simpa using c)]
    omega
theorem shl1 (i : Nat) (hi : i ≤ 61) : shl .i64 1 (i : Int) = ((2 ^ i : Nat) : Int) := by
  unfold shl
  rw [show ((i : Int)).toNat = i by omega, show min i IntKind.i64.bits = i from Nat.min_eq_left (show i ≤ 64 by omega), Int.one_mul]
  have h : (2 : Nat) ^ i < 2 ^ 62 := Nat.pow_lt_pow_right (by omega) (by omega)
  have h2 : ((2 ^ i : Nat) : Int) < 2 ^ 62 := by exact_mod_cast h
  rw [show (2 : Int) ^ i = ((2 ^ i : Nat) : Int) by simp]
  exact wr62 _ (Int.natCast_nonneg _) h2
/-- The number whose bits are the first i switches. -/
def setN (xs : List Bool) : Nat → Nat
  | 0 => 0
  | i + 1 => if rdOf false xs (i : Int) = true then setN xs i ||| 2 ^ i else setN xs i
theorem setN_lt (xs : List Bool) : ∀ i, setN xs i < 2 ^ i
  | 0 => by simp [setN]
  | i + 1 => by
    have h := setN_lt xs i
    have h2 : (2 : Nat) ^ (i + 1) = 2 ^ i * 2 := Nat.pow_succ 2 i
    unfold setN
    split
    · exact Nat.or_lt_two_pow (by omega) (by have := Nat.two_pow_pos i; omega)
    · omega
theorem setN_bit (xs : List Bool) (j : Nat) : ∀ i, (setN xs i).testBit j = (decide (j < i) && rdOf false xs (j : Int))
  | 0 => by simp [setN]
  | i + 1 => by
    have h := setN_bit xs j i
    unfold setN
    by_cases e : j = i
    · subst e
      split
      · rename_i c; rw [Nat.testBit_or, Nat.testBit_two_pow_self, Bool.or_true, decide_eq_true (by omega), c]; rfl
      · rename_i c; rw [h, decide_eq_false (by omega)]; simp only [Bool.not_eq_true] at c; rw [c]; simp
    · split
      · rw [Nat.testBit_or, h, Nat.testBit_two_pow_of_ne (by omega), Bool.or_false]
        by_cases c : j < i
        · rw [decide_eq_true c, decide_eq_true (by omega)]
        · rw [decide_eq_false c, decide_eq_false (by omega)]
      · rw [h]
        by_cases c : j < i
        · rw [decide_eq_true c, decide_eq_true (by omega)]
        · rw [decide_eq_false c, decide_eq_false (by omega)]
theorem setN_lt62 (xs : List Bool) (i : Nat) (h : i ≤ 61) : setN xs i < 2 ^ 62 := Nat.lt_of_lt_of_le (setN_lt xs i) (Nat.pow_le_pow_right (by omega) (by omega))

theorem switchSet_ev (xs : List Bool) (hl : xs.length ≤ 61) : Ev (fun k => impl_switchSet.f k xs) ((setN xs xs.length : Nat) : Int) := by
  unfold impl_switchSet.f
  refine fold_from (fun k s i => impl_switchSet.l0 k s xs (xs.length : Int) i) 0 xs.length (fun i => ((setN xs i : Nat) : Int)) _ (Nat.zero_le _) (fun i _ hi r hr => Ev.succ ?_) (Ev.succ ?_)
  · simp only [impl_switchSet.l0, if_pos (show (i : Int) < (xs.length : Int) by omega), if_pos (show 0 ≤ (i : Int) by omega), w64s (show i < 9223372036854775807 by omega)]
    simp only [setN] at hr
    by_cases c : rdOf false xs (i : Int) = true
    · simp only [if_pos c] at hr ⊢
      have e := (bits_nat .i64 62 (by decide) wr62 (setN xs i) (2 ^ i) (setN_lt62 xs i (by omega)) (Nat.pow_lt_pow_right (by omega) (by omega))).2
      rw [shl1 i (by omega), e]
      exact hr
    · simp only [if_neg c] at hr ⊢
      exact hr
  · simp only [impl_switchSet.l0, if_neg (show ¬ (xs.length : Int) < (xs.length : Int) by omega)]; exact Ev.now _

/-- Is a rule broken where its two switches stand so? -/
def brk (kind : Int) (a b : Bool) : Bool := if kind = 1 then a && b else if kind = 2 then !a && !b else a && !b
theorem specBreaks_eq (xs : List Bool) (kind i j : Int) (h1 : 0 ≤ i) (h2 : i < (xs.length : Int)) (h3 : 0 ≤ j) (h4 : j < (xs.length : Int)) :
    spec_l25Breaks.f xs kind i j = some (brk kind (rdOf false xs i) (rdOf false xs j)) := by
  unfold spec_l25Breaks.f brk
  rw [if_pos h1, if_pos h2, if_pos h3, if_pos h4]
  by_cases c1 : kind = 1
  · rw [if_pos c1, if_pos c1]; cases rdOf false xs i <;> rfl
  · rw [if_neg c1, if_neg c1]
    by_cases c2 : kind = 2
    · rw [if_pos c2, if_pos c2]; cases rdOf false xs i <;> rfl
    · rw [if_neg c2, if_neg c2]; cases rdOf false xs i <;> rfl

/-! the rules over a set of switches that is a number -/
theorem implBreaksN (m : Nat) (hm : m < 2 ^ 62) (kind i j : Int) (h1 : 0 ≤ i) (h2 : i ≤ 61) (h3 : 0 ≤ j) (h4 : j ≤ 61) :
    impl_switches_breaks.f (m : Int) kind i j = some (brk kind (m.testBit i.toNat) (m.testBit j.toNat)) := by
  obtain ⟨a, rfl⟩ := Int.eq_ofNat_of_zero_le h1
  obtain ⟨b, rfl⟩ := Int.eq_ofNat_of_zero_le h3
  unfold impl_switches_breaks.f brk
  rw [if_pos h1, if_pos h3, tb m a hm (by omega), tb m b hm (by omega)]
  simp only [Int.toNat_natCast]
  by_cases c1 : kind = 1
  · rw [if_pos c1, if_pos c1]; cases m.testBit a <;> cases m.testBit b <;> rfl
  · rw [if_neg c1, if_neg c1]
    by_cases c2 : kind = 2
    · rw [if_pos c2, if_pos c2]; cases m.testBit a <;> cases m.testBit b <;> rfl
    · rw [if_neg c2, if_neg c2]; cases m.testBit a <;> cases m.testBit b <;> rfl
def stN (n m : Nat) : List Bool := (List.range n).map fun j => m.testBit j
theorem stN_len (n m : Nat) : (stN n m).length = n := by simp [stN]
theorem stN_at (n m : Nat) (j : Int) (h0 : 0 ≤ j) (h1 : j < (n : Int)) : rdOf false (stN n m) j = m.testBit j.toNat := by
  obtain ⟨a, rfl⟩ := Int.eq_ofNat_of_zero_le h0
  rw [rdOf_cast _ a (by rw [stN_len]; omega)]
  simp [stN]
def badM (m : Nat) (rs : List RU) (i : Nat) : Bool := brk (rd_T91 rs (i : Int)).f0 (m.testBit (rd_T91 rs (i : Int)).f1.toNat) (m.testBit (rd_T91 rs (i : Int)).f2.toNat)
def okM (rs : List RU) (m : Nat) : Bool := allB (fun i => !(badM m rs i)) rs.length
theorem specKeeps_ev (rs : List RU) (n m : Nat) (h : validRules (n : Int) rs = true) : Ev (fun k => spec_l25Keeps.f k (stN n m) rs) (okM rs m) := by
  have hn := validRules_n h
  unfold spec_l25Keeps.f okM
  have h := all_ev (fun k i => spec_l25Keeps.l0 k (stN n m) rs i) rs.length true (fun i => !(badM m rs i)) (fun i hi => ⟨0, fun k _ => ?_⟩) ⟨0, fun k _ => ?_⟩
  · rw [Bool.and_true] at h; exact h
  · have ha := validRules_at h i hi
    have e : spec_l25Breaks.f (stN n m) (rd_T91 rs (i : Int)).f0 (rd_T91 rs (i : Int)).f1 (rd_T91 rs (i : Int)).f2 = some (badM m rs i) := by
      unfold badM
      rw [rdi_Rule rs i hi, specBreaks_eq _ _ _ _ ha.2.1.1 (by rw [stN_len]; exact ha.2.1.2) ha.2.2.1.1 (by rw [stN_len]; exact ha.2.2.1.2), stN_at n m _ ha.2.1.1 ha.2.1.2, stN_at n m _ ha.2.2.1.1 ha.2.2.1.2]
    simp only [spec_l25Keeps.l0, if_pos (show (i : Int) < (rs.length : Int) by omega), if_pos (show 0 ≤ (i : Int) by omega), e, Option.bind_some, w64s (show i < 9223372036854775807 by omega)]
    cases badM m rs i <;> rfl
  · simp only [spec_l25Keeps.l0, if_neg (show ¬ (rs.length : Int) < (rs.length : Int) by omega)]
theorem allowed_eq (rs : List RU) (n m : Nat) (h : validRules (n : Int) rs = true) (hm : m < 2 ^ 62) : impl_switches_allowed.f (m : Int) rs = some (okM rs m) := by
  have hn := validRules_n h
  have hb : ∀ i (hi : i < rs.length), impl_switches_breaks.f (m : Int) rs[i].f0 rs[i].f1 rs[i].f2 = some (badM m rs i) := fun i hi => by
    have ha := validRules_at h i hi
    rw [implBreaksN m hm _ _ _ ha.2.1.1 (by omega) ha.2.2.1.1 (by omega)]
    unfold badM
    rw [rdi_Rule rs i hi]
  unfold impl_switches_allowed.f
  rw [if_pos (by
    rw [List.all_eq_true]
    intro x hx
    obtain ⟨i, hi, rfl⟩ := List.getElem_of_mem hx
    rw [hb i hi]; rfl)]
  congr 1
  unfold okM
  rw [Bool.eq_iff_iff, allB_true]
  simp only [Bool.not_eq_true', List.any_eq_false]
  constructor
  · intro h2 i hi
    have := h2 rs[i] (List.getElem_mem hi)
    rw [hb i hi] at this
    simpa using this
  · intro h2 x hx
    obtain ⟨i, hi, rfl⟩ := List.getElem_of_mem hx
    rw [hb i hi]
    have := h2 i hi
    simpa using this

/-! one switch turned over -/
theorem bits_xorN (a b : Nat) (ha : a < 2 ^ 62) (hb : b < 2 ^ 62) : Go.bits .xor .i64 (a : Int) (b : Int) = ((a ^^^ b : Nat) : Int) := by
  have hp : (2 : Nat) ^ 62 ≤ 2 ^ IntKind.i64.bits := Nat.pow_le_pow_right (by decide) (show 62 ≤ 64 by omega)
  have ha' : a % 2 ^ IntKind.i64.bits = a := Nat.mod_eq_of_lt (Nat.lt_of_lt_of_le ha hp)
  have hb' : b % 2 ^ IntKind.i64.bits = b := Nat.mod_eq_of_lt (Nat.lt_of_lt_of_le hb hp)
  simp only [Go.bits, BitVec.ofInt_natCast, BitVec.toNat_xor, BitVec.toNat_ofNat, ha', hb']
  exact wr62 _ (Int.natCast_nonneg _) (by exact_mod_cast Nat.xor_lt_two_pow ha hb)
theorem pow62 {i : Nat} (hi : i ≤ 61) : (2 : Nat) ^ i < 2 ^ 62 := Nat.pow_lt_pow_right (by omega) (by omega)
theorem turn_eq (m i : Nat) (hm : m < 2 ^ 62) (hi : i ≤ 61) : Go.bits .xor .i64 (m : Int) (shl .i64 1 (i : Int)) = ((m ^^^ 2 ^ i : Nat) : Int) := by
  rw [shl1 i hi, bits_xorN m _ hm (pow62 hi)]
theorem turn_lt {m i : Nat} (hm : m < 2 ^ 62) (hi : i ≤ 61) : m ^^^ 2 ^ i < 2 ^ 62 := Nat.xor_lt_two_pow hm (pow62 hi)
theorem turn_bit (m i j : Nat) : (m ^^^ 2 ^ i).testBit j = if j = i then !m.testBit j else m.testBit j := by
  rw [Nat.testBit_xor]
  by_cases e : j = i
  · subst e; rw [if_pos rfl, Nat.testBit_two_pow_self]; cases m.testBit j <;> rfl
  · rw [if_neg e, Nat.testBit_two_pow_of_ne (by omega)]; cases m.testBit j <;> rfl
theorem stN_setN (xs : List Bool) : stN xs.length (setN xs xs.length) = xs := by
  apply List.ext_getElem
  · simp [stN]
  · intro j h1 h2
    simp only [stN, List.getElem_map, List.getElem_range]
    rw [setN_bit, decide_eq_true h2, rdOf_cast xs j h2]; rfl
theorem own_eq (n m i : Nat) (hi : i < n) (hn : n ≤ 60) : spec_l25Own.f (stN n m) (i : Int) = some (stN n (m ^^^ 2 ^ i)) := by
  unfold spec_l25Own.f
  have hl := stN_len n m
  simp only [Option.bind_some, List.nil_append, List.length_nil]
  rw [if_pos (by omega), if_pos (by omega), if_pos (by omega), stN_at n m _ (by omega) (by omega), Int.toNat_natCast]
  congr 1
  apply List.ext_getElem
  · simp [stN]
  · intro j h1 h2
    have hj : j < n := by simpa [stN] using h2
    by_cases e : j = i
    · subst e
      rw [List.getElem_set_self]
      simp only [stN, List.getElem_map, List.getElem_range]
      rw [turn_bit, if_pos rfl]
    · rw [List.getElem_set_ne (by omega)]
      simp only [stN, List.getElem_map, List.getElem_range]
      rw [turn_bit, if_neg e]

def stI (n m i : Nat) : List Bool := (List.range n).map fun j => if j < i then m.testBit j else false
theorem stI_len (n m i : Nat) : (stI n m i).length = n := by simp [stI]
theorem stI_0 (n m : Nat) : stI n m 0 = List.replicate n false := by
  apply List.ext_getElem
  · simp [stI]
  · intro j h1 h2; simp [stI]
theorem stI_n (n m : Nat) : stI n m n = stN n m := by
  apply List.ext_getElem
  · simp [stI, stN]
  · intro j h1 h2
    have : j < n := by simpa [stI] using h1
    simp [stI, stN, this]
theorem stI_set (n m i : Nat) (h : i < n) : (stI n m i).set i (m.testBit i) = stI n m (i + 1) := by
  apply List.ext_getElem
  · simp [stI]
  · intro j h1 h2
    by_cases e : j = i
    · subst e
      rw [List.getElem_set_self]
      simp [stI]
    · rw [List.getElem_set_ne (by omega)]
      simp only [stI, List.getElem_map, List.getElem_range]
      by_cases d : j < i
      · rw [if_pos d, if_pos (by omega)]
      · rw [if_neg d, if_neg (by omega)]

theorem states_ev (n m : Nat) (hn : n ≤ 60) (hm : m < 2 ^ 62) : Ev (fun k => spec_l25States.f k (n : Int) (m : Int)) (stN n m) := by
  unfold spec_l25States.f
  simp only [if_pos (show 0 ≤ (n : Int) by omega), Int.toNat_natCast, if_pos (show n ≤ 281474976710656 by omega)]
  have h := fold_from (fun k (s : Int × List Bool) i => spec_l25States.l0 k (n : Int) s.1 s.2 i) 0 n (fun i => (((m / 2 ^ i : Nat) : Int), stI n m i)) (stN n m) (Nat.zero_le _) (fun i _ hi r hr => Ev.succ ?_) (Ev.succ ?_)
  · simpa [stI_0] using h
  · have hq : m / 2 ^ i ≤ m := Nat.div_le_self _ _
    have e1 : wrap64 (Int.tdiv ((m / 2 ^ i : Nat) : Int) 2) = ((m / 2 ^ (i + 1) : Nat) : Int) := by
      rw [Nat.pow_succ, ← Nat.div_div_eq_div_mul]
      generalize m / 2 ^ i = q at hq
      rw [Int.tdiv_eq_ediv_of_nonneg (by omega), w64 (by omega) (by omega)]
      omega
    have e2 : ((Int.tmod ((m / 2 ^ i : Nat) : Int) 2) == 1) = m.testBit i := by
      rw [Nat.testBit_eq_decide_div_mod_eq]
      generalize m / 2 ^ i = q
      rw [Int.tmod_eq_emod_of_nonneg (by omega)]
      by_cases c : q % 2 = 1
      · rw [decide_eq_true c]; simp; omega
      · rw [decide_eq_false c]; simp; omega
    have hs := stI_set n m i hi
    simp only at hr
    simp only [spec_l25States.l0, if_pos (show (i : Int) < (n : Int) by omega), if_pos (show 0 ≤ (i : Int) by omega), stI_len, Int.toNat_natCast, e1, e2, hs, w64s (show i < 9223372036854775807 by omega)]
    exact hr
  · simp only [spec_l25States.l0, if_neg (show ¬ (n : Int) < (n : Int) by omega), stI_n]; exact Ev.now _

/-! the number of a list of switches -/
theorem number_loop (n m : Nat) (hn : n ≤ 60) (hm : m < 2 ^ n) : ∀ i, i ≤ n → Ev (fun k => spec_l25Number.l0 k (stN n m) ((m / 2 ^ i : Nat) : Int) ((i : Int) - 1)) (m : Int)
  | 0, _ => by
    refine Ev.succ ?_
    simp only [spec_l25Number.l0, if_neg (show ¬ ((0 : Nat) : Int) - 1 ≥ 0 by omega), Nat.pow_zero, Nat.div_one]; exact Ev.now _
  | i + 1, hi => by
    have ih := number_loop n m hn hm i (by omega)
    have hl := stN_len n m
    have e1 : ((i + 1 : Nat) : Int) - 1 = (i : Int) := by omega
    have hq : m / 2 ^ (i + 1) < 2 ^ 60 := Nat.lt_of_le_of_lt (Nat.div_le_self _ _) (Nat.lt_of_lt_of_le hm (Nat.pow_le_pow_right (by omega) hn))
    have hd : m / 2 ^ i = 2 * (m / 2 ^ (i + 1)) + (if m.testBit i = true then 1 else 0) := by
      rw [Nat.testBit_eq_decide_div_mod_eq, Nat.pow_succ, ← Nat.div_div_eq_div_mul]
      generalize m / 2 ^ i = q
      by_cases c : q % 2 = 1
      · rw [if_pos (by simpa using c)]; omega
      · rw [if_neg (by simpa using c)]; omega
    refine Ev.succ ?_
    rw [e1]
    simp only [spec_l25Number.l0, if_pos (show (i : Int) ≥ 0 by omega), if_pos (show 0 ≤ (i : Int) by omega), hl, if_pos (show (i : Int) < (n : Int) by omega), stN_at n m (i : Int) (by omega) (by omega), Int.toNat_natCast, w64 (x := (i : Int) - 1) (by omega) (by omega)]
    rw [show (2 : Nat) ^ 60 = 1152921504606846976 by decide] at hq
    generalize hqq : m / 2 ^ (i + 1) = q at hd hq
    rw [w64 (x := (q : Int) * 2) (by omega) (by omega)]
    by_cases c : m.testBit i = true
    · rw [if_pos c] at hd
      simp only [if_pos c, w64 (x := (q : Int) * 2 + 1) (by omega) (by omega)]
      rw [show (q : Int) * 2 + 1 = ((m / 2 ^ i : Nat) : Int) by omega]; exact ih
    · rw [if_neg c] at hd
      simp only [if_neg c]
      rw [show (q : Int) * 2 = ((m / 2 ^ i : Nat) : Int) by omega]; exact ih
theorem number_ev (n m : Nat) (hn : n ≤ 60) (hm : m < 2 ^ n) : Ev (fun k => spec_l25Number.f k (stN n m)) (m : Int) := by
  unfold spec_l25Number.f
  have h := number_loop n m hn hm n (Nat.le_refl _)
  rw [Nat.div_eq_of_lt hm] at h
  rw [stN_len, w64 (x := (n : Int) - 1) (by omega) (by omega)]
  exact h

theorem toBools_ev (xs : List Bool) (hl : xs.length ≤ 140737488351232) : Ev (fun k => laws_toBoolS.f k xs) xs := by
  refine ⟨xs.length + 1, fun k hk => ?_⟩
  simp only [laws_toBoolS.f]
  rw [if_pos (by omega), if_pos (by omega)]
  have h := to_loop (fun k ys i => laws_toBoolS.l0 k xs ys i) xs id (fun k ys i h hy => ?_) (fun k ys hy => ?_) (List.replicate ((xs.length : Int) : Int).toNat false) (by simp) k (by omega)
  · rw [List.map_id] at h; exact h
  · simp only [laws_toBoolS.l0]
    rw [if_pos (by omega), if_pos (by omega), if_pos (by omega), w64s (by omega), rdOf_cast xs i h]
    rfl
  · simp only [laws_toBoolS.l0]
    rw [if_neg (by omega)]
theorem eqBools_ev (xs : List Bool) (hl : xs.length < 9223372036854775807) : Ev (fun k => laws_eqBoolS.f k xs xs) true := by
  unfold laws_eqBoolS.f
  simp only [if_true]
  have := all_ev (fun k i => laws_eqBoolS.l0 k xs xs i) xs.length true (fun _ => true) (fun i hi => ⟨0, fun k _ => ?_⟩) ⟨0, fun k _ => ?_⟩
  · rw [allB_const] at this; exact this
  · simp only [laws_eqBoolS.l0]
    rw [if_pos (by omega), if_pos (by omega), if_pos (by omega)]
    simp only [bne_self_eq_false, Bool.false_eq_true, if_false, if_true, w64s (show i < 9223372036854775807 by omega)]
  · simp only [laws_eqBoolS.l0]
    rw [if_neg (by omega)]

end Go.Proofs.Ytnmehknpphoolaa.PFnExactCountReached
namespace Go.Proofs.Ytnmehknpphoolaa.Pure
open Go.RowKit Go.Proofs.YtnmehknpphoolaaW.PrintWords Go.Proofs.YtnmehknpphoolaaW.PLib Go.Proofs.Ytnmehknpphoolaa.PFnExactCountReached

/-- A list of sets as numbers. -/
def nat2 (L : List Nat) : List Int := L.map fun x : Nat => (x : Int)
theorem nat2_len (L : List Nat) : (nat2 L).length = L.length := by simp [nat2]
theorem nat2_snoc (L : List Nat) (x : Nat) : nat2 (L ++ [x]) = nat2 L ++ [(x : Int)] := by simp [nat2]
theorem nat2_rd (L : List Nat) (i : Nat) (h : i < L.length) : rd (nat2 L) (i : Int) = (L[i] : Int) := by
  unfold rd
  rw [getD_cast (nat2 L) i (by rw [nat2_len]; exact h)]
  simp [nat2]
def seenL (N : Nat) (L : List Nat) : List Bool := (List.range N).map fun j => decide (j ∈ L)
theorem seenL_len (N : Nat) (L : List Nat) : (seenL N L).length = N := by simp [seenL]
theorem seenL_at (N : Nat) (L : List Nat) (j : Nat) (h : j < N) : rdOf false (seenL N L) (j : Int) = decide (j ∈ L) := by
  rw [rdOf_cast _ j (by rw [seenL_len]; exact h)]
  simp [seenL]
theorem seenL_set (N : Nat) (L : List Nat) (j : Nat) (h : j < N) : (seenL N L).set j true = seenL N (L ++ [j]) := by
  apply List.ext_getElem
  · simp [seenL]
  · intro i h1 h2
    have hi : i < N := by simpa [seenL] using h2
    by_cases e : i = j
    · subst e
      rw [List.getElem_set_self]
      simp [seenL]
    · rw [List.getElem_set_ne (by omega)]
      simp only [seenL, List.getElem_map, List.getElem_range]
      simp [e]
theorem containsS_ev (L : List Nat) (a : Nat) (hl : L.length < 9223372036854775807) : Ev (fun k => impl_switches_118.f k (nat2 L) (a : Int)) (decide (a ∈ L)) := by
  unfold impl_switches_118.f impl_switches_160.f
  have hn := nat2_len L
  have key : ∀ d i, i + d = L.length → ∃ r, decide (r ≥ 0) = decide (a ∈ L.drop i) ∧ Ev (fun k => impl_switches_160.l0 k (nat2 L) (a : Int) ((nat2 L).length : Int) (i : Int)) r := by
    intro d
    induction d with
    | zero =>
      intro i hi
      refine ⟨-1, ?_, Ev.succ ?_⟩
      · rw [List.drop_eq_nil_of_le (by omega)]; simp
      · simp only [impl_switches_160.l0, if_neg (show ¬ (i : Int) < ((nat2 L).length : Int) by omega)]; exact Ev.now _
    | succ d ih =>
      intro i hi
      have hlt : i < L.length := by omega
      by_cases c : a = L[i]
      · refine ⟨(i : Int), ?_, Ev.succ ?_⟩
        · rw [List.drop_eq_getElem_cons hlt, decide_eq_true (show (i : Int) ≥ 0 by omega), decide_eq_true (by rw [c]; exact List.mem_cons_self)]
        · simp only [impl_switches_160.l0, if_pos (show (i : Int) < ((nat2 L).length : Int) by omega), if_pos (show 0 ≤ (i : Int) by omega), nat2_rd L i hlt, if_pos (show (a : Int) = (L[i] : Int) by omega)]; exact Ev.now _
      · obtain ⟨r, h1, h2⟩ := ih (i + 1) (by omega)
        refine ⟨r, ?_, Ev.succ ?_⟩
        · rw [h1, List.drop_eq_getElem_cons hlt]
          exact decide_eq_decide.2 ⟨fun h => List.mem_cons_of_mem _ h, fun h => (List.mem_cons.1 h).resolve_left c⟩
        · simp only [impl_switches_160.l0, if_pos (show (i : Int) < ((nat2 L).length : Int) by omega), if_pos (show 0 ≤ (i : Int) by omega), nat2_rd L i hlt, if_neg (show ¬ (a : Int) = (L[i] : Int) by omega), w64s (show i < 9223372036854775807 by omega)]; exact h2
  obtain ⟨r, h1, h2⟩ := key L.length 0 (by omega)
  rw [List.drop_zero] at h1
  rw [← h1]
  exact Ev.bind h2 (Ev.now _)
/-- One switch turned over, if that is allowed and new. -/
def stepR (rs : List RU) (m : Nat) (L : List Nat) (i : Nat) : List Nat := if okM rs (m ^^^ 2 ^ i) = true then (if m ^^^ 2 ^ i ∈ L then L else L ++ [m ^^^ 2 ^ i]) else L
def rowR (rs : List RU) (m : Nat) (L : List Nat) : Nat → List Nat
  | 0 => L
  | i + 1 => stepR rs m (rowR rs m L i) i
structure GoodR (N : Nat) (L : List Nat) : Prop where
  nodup : L.Nodup
  lt : ∀ x ∈ L, x < N
theorem nodup_lenN : ∀ {l m : List Nat}, l.Nodup → (∀ x ∈ l, x ∈ m) → l.length ≤ m.length
  | [], m, _, _ => Nat.zero_le _
  | a :: l, m, h, hs => by
    have h1 := (List.nodup_cons.1 h)
    have ha := hs a List.mem_cons_self
    have := nodup_lenN (m := m.erase a) h1.2 (fun x hx => by
      have hne : x ≠ a := fun e => h1.1 (e ▸ hx)
      exact (List.mem_erase_of_ne hne).2 (hs x (List.mem_cons_of_mem _ hx)))
    rw [List.length_erase_of_mem ha] at this
    have hp : 0 < m.length := List.length_pos_of_mem ha
    simp only [List.length_cons]
    omega
theorem GoodR.len {N : Nat} {L : List Nat} (h : GoodR N L) : L.length ≤ N := by
  have := nodup_lenN (m := List.range N) h.nodup (fun x hx => List.mem_range.2 (h.lt x hx))
  rwa [List.length_range] at this
theorem stepR_good {rs : List RU} {n m : Nat} {L : List Nat} (h : GoodR (2 ^ n) L) (hm : m < 2 ^ n) (i : Nat) (hi : i < n) : GoodR (2 ^ n) (stepR rs m L i) := by
  unfold stepR
  split
  · split
    · exact h
    · rename_i c
      refine ⟨?_, fun x hx => ?_⟩
      · rw [List.nodup_append]
        exact ⟨h.nodup, List.nodup_cons.2 ⟨by simp, List.nodup_nil⟩, fun a ha b hb => by
          rw [List.mem_singleton] at hb; subst hb
          exact fun e => c (e ▸ ha)⟩
      · rcases List.mem_append.1 hx with hx | hx
        · exact h.lt x hx
        · rw [List.mem_singleton] at hx; subst hx
          exact Nat.xor_lt_two_pow hm (Nat.pow_lt_pow_right (by omega) hi)
  · exact h
theorem rowR_good {rs : List RU} {n m : Nat} {L : List Nat} (h : GoodR (2 ^ n) L) (hm : m < 2 ^ n) : ∀ i, i ≤ n → GoodR (2 ^ n) (rowR rs m L i)
  | 0, _ => h
  | i + 1, hi => stepR_good (rowR_good h hm i (by omega)) hm i (by omega)
theorem rowR_pre (rs : List RU) (m : Nat) (L : List Nat) : ∀ i, ∃ t, rowR rs m L i = L ++ t
  | 0 => ⟨[], by simp [rowR]⟩
  | i + 1 => by
    obtain ⟨t, ht⟩ := rowR_pre rs m L i
    show ∃ t', stepR rs m (rowR rs m L i) i = L ++ t'
    rw [ht]
    unfold stepR
    split
    · split
      · exact ⟨t, rfl⟩
      · exact ⟨t ++ [m ^^^ 2 ^ i], by simp⟩
    · exact ⟨t, rfl⟩
theorem rowR_at (rs : List RU) (m : Nat) (L : List Nat) (i at' : Nat) (h : at' < L.length) : at' < (rowR rs m L i).length ∧ rd (nat2 (rowR rs m L i)) (at' : Int) = (L[at'] : Int) := by
  obtain ⟨t, ht⟩ := rowR_pre rs m L i
  rw [ht]
  have hl : at' < (L ++ t).length := by simp; omega
  refine ⟨hl, ?_⟩
  rw [nat2_rd _ at' hl, List.getElem_append_left h]
theorem pow_le_256 {n : Nat} (hn : n ≤ 8) : 2 ^ n ≤ 256 := Nat.pow_le_pow_right (n := 2) (by omega) hn
theorem reach (rs : List RU) (n : Nat) (x0 : List Bool) (h0 : x0.length = n) (c : validRules (n : Int) rs = true) :
    ∀ d at' L, GoodR (2 ^ n) L → at' ≤ L.length → 2 ^ n < at' + d → ∃ r, Ev (fun k => impl_CountReached.l0 k x0 rs (nat2 L) (at' : Int)) r ∧ Ev (fun k => spec_CountReached.l0 k x0 rs (seenL (2 ^ n) L) (nat2 L) (at' : Int)) r := by
  have hn := validRules_n c
  have hp := pow_le_256 (n := n) (by omega)
  intro d
  induction d with
  | zero => intro at' L hg hat hd; have := hg.len; omega
  | succ d ih =>
    intro at' L hg hat hd
    have hlen := hg.len
    by_cases ca : at' < L.length
    · have hm := hg.lt _ (List.getElem_mem ca)
      generalize hmm : L[at'] = m at hm
      have hm62 : m < 2 ^ 62 := Nat.lt_of_lt_of_le hm (Nat.pow_le_pow_right (by omega) (by omega))
      have hg' := rowR_good (rs := rs) hg hm n (Nat.le_refl _)
      obtain ⟨r, hr1, hr2⟩ := ih (at' + 1) (rowR rs m L n) hg' (by have := (rowR_at rs m L n at' ca).1; omega) (by omega)
      refine ⟨r, Ev.succ ?_, Ev.succ ?_⟩
      · simp only [impl_CountReached.l0, nat2_len, if_pos (show (at' : Int) < (L.length : Int) by omega), h0]
        refine fold_from (fun k s i => impl_CountReached.l1 k x0 rs s (at' : Int) (n : Int) i) 0 n (fun i => nat2 (rowR rs m L i)) r (Nat.zero_le _) (fun i _ hi q hq => Ev.succ ?_) (Ev.succ ?_)
        · obtain ⟨b1, b2⟩ := rowR_at rs m L i at' ca
          rw [hmm] at b2
          have hgi := (rowR_good (rs := rs) hg hm i (by omega)).len
          have hq : Ev (fun k => impl_CountReached.l1 k x0 rs (nat2 (stepR rs m (rowR rs m L i) i)) (at' : Int) (n : Int) ((i + 1 : Nat) : Int)) q := hq
          generalize hLL : rowR rs m L i = M at b1 b2 hgi hq
          simp only [impl_CountReached.l1, if_pos (show (i : Int) < (n : Int) by omega), if_pos (show 0 ≤ (at' : Int) by omega), nat2_len, if_pos (show (at' : Int) < (M.length : Int) by omega), if_pos (show 0 ≤ (i : Int) by omega), b2, turn_eq m i hm62 (by omega), allowed_eq rs n _ c (turn_lt hm62 (show i ≤ 61 by omega)), Option.bind_some, w64s (show i < 9223372036854775807 by omega)]
          unfold stepR at hq
          by_cases c1 : okM rs (m ^^^ 2 ^ i) = true
          · simp only [if_pos c1] at hq ⊢
            refine Ev.bind (containsS_ev M _ (by omega)) ?_
            by_cases c2 : m ^^^ 2 ^ i ∈ M
            · simp only [if_pos c2] at hq
              simp only [decide_eq_true c2, if_true]; exact hq
            · simp only [if_neg c2, nat2_snoc] at hq
              simp only [decide_eq_false c2, Bool.false_eq_true, if_false, if_pos (show M.length < 17592186044416 by omega)]; exact hq
          · simp only [if_neg c1] at hq ⊢; exact hq
        · simp only [impl_CountReached.l1, if_neg (show ¬ (n : Int) < (n : Int) by omega), w64s (show at' < 9223372036854775807 by omega)]
          exact hr1
      · simp only [spec_CountReached.l0, nat2_len, if_pos (show (at' : Int) < (L.length : Int) by omega), if_pos (show 0 ≤ (at' : Int) by omega), nat2_rd L at' ca, hmm, h0]
        refine Ev.bind (states_ev n m (by omega) hm62) ?_
        refine fold_from (fun k (s : List Nat) i => spec_CountReached.l1 k x0 rs (seenL (2 ^ n) s) (nat2 s) (at' : Int) (stN n m) i) 0 n (fun i => rowR rs m L i) r (Nat.zero_le _) (fun i _ hi q hq => Ev.succ ?_) (Ev.succ ?_)
        · have hgi := (rowR_good (rs := rs) hg hm i (by omega)).len
          have ht : m ^^^ 2 ^ i < 2 ^ n := Nat.xor_lt_two_pow hm (Nat.pow_lt_pow_right (by omega) hi)
          have hq : Ev (fun k => spec_CountReached.l1 k x0 rs (seenL (2 ^ n) (stepR rs m (rowR rs m L i) i)) (nat2 (stepR rs m (rowR rs m L i) i)) (at' : Int) (stN n m) ((i + 1 : Nat) : Int)) q := hq
          generalize hLL : rowR rs m L i = M at hgi hq
          simp only [spec_CountReached.l1, h0, if_pos (show (i : Int) < (n : Int) by omega), own_eq n m i hi (by omega), Option.bind_some, w64s (show i < 9223372036854775807 by omega)]
          refine Ev.bind (number_ev n _ (by omega) ht) ?_
          simp only [if_pos (show 0 ≤ ((m ^^^ 2 ^ i : Nat) : Int) by omega), seenL_len, if_pos (show ((m ^^^ 2 ^ i : Nat) : Int) < ((2 ^ n : Nat) : Int) by omega), seenL_at _ M _ ht, Int.toNat_natCast]
          unfold stepR at hq
          by_cases c2 : m ^^^ 2 ^ i ∈ M
          · simp only [decide_eq_true c2, if_true]
            by_cases c1 : okM rs (m ^^^ 2 ^ i) = true
            · simp only [if_pos c1, if_pos c2] at hq; exact hq
            · simp only [if_neg c1] at hq; exact hq
          · simp only [decide_eq_false c2, Bool.false_eq_true, if_false]
            refine Ev.bind (specKeeps_ev rs n _ c) ?_
            by_cases c1 : okM rs (m ^^^ 2 ^ i) = true
            · simp only [if_pos c1, if_neg c2, nat2_snoc] at hq
              simp only [if_pos c1, nat2_len, if_pos (show M.length < 17592186044416 by omega), seenL_set _ M _ ht]; exact hq
            · simp only [if_neg c1] at hq ⊢; exact hq
        · simp only [spec_CountReached.l1, h0, if_neg (show ¬ (n : Int) < (n : Int) by omega), w64s (show at' < 9223372036854775807 by omega)]
          exact hr2
    · refine ⟨((L.length : Int), 0), Ev.succ ?_, Ev.succ ?_⟩
      · simp only [impl_CountReached.l0, nat2_len, if_neg (show ¬ (at' : Int) < (L.length : Int) by omega)]; exact Ev.now _
      · simp only [spec_CountReached.l0, nat2_len, if_neg (show ¬ (at' : Int) < (L.length : Int) by omega)]; exact Ev.now _
theorem both (xs : List Bool) (rs : List RU) (h : rs.length < 9223372036854775807) : ∃ r, Ev (fun k => spec_CountReached.f k xs rs) r ∧ Ev (fun k => impl_CountReached.f k xs rs) r := by
  by_cases c : validRules (xs.length : Int) rs = true
  · have hn := validRules_n c
    have hm := setN_lt xs xs.length
    have hst := stN_setN xs
    have hp := pow_le_256 (n := xs.length) (by omega)
    have hp0 := Nat.two_pow_pos xs.length
    obtain ⟨r, h1, h2⟩ := reach rs xs.length xs rfl c (2 ^ xs.length + 1) 0 [setN xs xs.length] ⟨List.nodup_cons.2 ⟨by simp, List.nodup_nil⟩, fun x hx => by rw [List.mem_singleton] at hx; subst hx; exact hm⟩ (Nat.zero_le _) (by omega)
    have hnum := number_ev xs.length _ (by omega) hm
    rw [hst] at hnum
    refine ⟨r, ?_, ?_⟩
    · unfold spec_CountReached.f
      refine Ev.bind (specRules_ev _ rs h) ?_
      have eu : IntKind.u64.wrap ((xs.length : Int)) = (xs.length : Int) := by rw [IntKind.wrap_u64]; omega
      simp only [if_pos c, eu, if_pos (show 0 ≤ (xs.length : Int) by omega), shl1 xs.length (by omega), if_pos (show 0 ≤ ((2 ^ xs.length : Nat) : Int) by omega), Int.toNat_natCast, if_pos (show 2 ^ xs.length ≤ 281474976710656 by omega), Option.bind_some]
      refine Ev.bind hnum ?_
      have er : rd [((setN xs xs.length : Nat) : Int)] 0 = ((setN xs xs.length : Nat) : Int) := rfl
      simp only [Option.bind_some, List.length_singleton, List.length_replicate, er, if_pos (show (0 : Int) < ((1 : Nat) : Int) by omega), if_pos (show 0 ≤ ((setN xs xs.length : Nat) : Int) by omega), if_pos (show ((setN xs xs.length : Nat) : Int) < ((2 ^ xs.length : Nat) : Int) by omega), Int.toNat_natCast]
      have e0 : List.replicate (2 ^ xs.length) false = seenL (2 ^ xs.length) [] := by
        apply List.ext_getElem
        · simp [seenL]
        · intro j h1 h2; simp [seenL]
      rw [e0, seenL_set _ [] _ hm, List.nil_append]
      exact h2
    · unfold impl_CountReached.f
      refine Ev.bind (implRules_ev _ rs h) ?_
      simp only [if_pos c]
      exact Ev.bind (switchSet_ev xs (by omega)) h1
  · refine ⟨(0, 1), ?_, ?_⟩
    · unfold spec_CountReached.f
      exact Ev.bind (specRules_ev _ rs h) (by simp only [if_neg c]; exact Ev.now _)
    · unfold impl_CountReached.f
      exact Ev.bind (implRules_ev _ rs h) (by simp only [if_neg c]; exact Ev.now _)
theorem FnExactCountReached : PFnExactCountReached.Pure := by
  intro xs rs hx hy
  obtain ⟨_, hxl, _⟩ := hx
  obtain ⟨_, hl, _⟩ := hy
  have hs : (rs.map cvRule).length < 9223372036854775807 := by simp; omega
  obtain ⟨q, hq1, hq2⟩ := both xs (rs.map cvRule) hs
  obtain ⟨r, hz⟩ := szRule_ev rs 1048576 (by omega)
  refine Ev.get ?_
  unfold laws_FnExactCountReached.f
  by_cases cp : (xs.length : Int) > 1048576
  · simp only [if_pos cp]; exact Ev.now _
  simp only [if_neg cp]
  simp only [hz, Option.bind_some]
  by_cases c : r < 0
  · simp only [if_pos c]; exact Ev.now _
  simp only [if_neg c]
  refine Ev.bind (toBools_ev xs (by omega)) (Ev.bind (toRule_ev rs hl) (Ev.bind hq1 (Ev.bind (toBools_ev xs (by omega)) (Ev.bind (toRule_ev rs hl) (Ev.bind hq2 ?_)))))
  simp only [if_true, bne_self_eq_false]
  refine Ev.succ ?_
  simp only [laws_FnExactCountReached.j0, Bool.false_eq_true, if_false]
  refine Ev.bind (toBools_ev xs (by omega)) (Ev.bind (eqBools_ev _ (by omega)) ?_)
  simp only [if_true]
  refine Ev.bind (toRule_ev rs hl) (Ev.bind (eqRule_ev _ hs) ?_)
  simp only [if_true]; exact Ev.now _
end Go.Proofs.Ytnmehknpphoolaa.Pure

