/- The law FnExactRunOrders, in numbers and lists alone: the program's RunOrders and the reference's give one answer, what they are handed stays as it was, and what is handed back is new. No condition. -/
import Derived.Test.YtnmehknpphoolaaQFnExactRunOrders
import Derived.Test.YtnmehknpphoolaaPLib
set_option linter.unusedVariables false
set_option linter.unusedSimpArgs false
namespace Go.Proofs.Ytnmehknpphoolaa.PFnExactRunOrders
open Go.RowKit Go.Proofs.YtnmehknpphoolaaW.PrintWords Go.Proofs.YtnmehknpphoolaaW.PLib

theorem l00In_eq (a b c : Int) : spec_l00In.f a b c = some (decide (b ≤ a) && decide (a ≤ c)) := by
  unfold spec_l00In.f; by_cases h : a ≥ b
  · rw [if_pos h]; simp [show b ≤ a from h]
  · rw [if_neg h]; simp [show ¬ b ≤ a from h]

theorem within_eq (a b c : Int) : impl_within.f a b c = some (decide (b ≤ a) && decide (a ≤ c)) := by
  unfold impl_within.f; by_cases h : a ≥ b
  · rw [if_pos h]; simp [show b ≤ a from h]
  · rw [if_neg h]; simp [show ¬ b ≤ a from h]

/-! Rule -/
theorem rdl_Rule (xs : List S93) (i : Nat) (h : i < xs.length) : rd_T93 xs (i : Int) = xs[i] := by unfold rd_T93; exact getD_cast xs i h _
theorem rdi_Rule (xs : List S91) (i : Nat) (h : i < xs.length) : rd_T91 xs (i : Int) = xs[i] := by unfold rd_T91; exact getD_cast xs i h _
theorem rd1_Rule (x : S91) : rd_T91 [x] 0 = x := rfl
def cvRule (x : S93) : S91 := ⟨x.f0, x.f1, x.f2⟩
theorem toRule_ev (xs : List S93) (hl : xs.length * 24 ≤ 140737488351232) : Ev (fun k => laws_toRuleS.f k xs) (xs.map cvRule) := by
  refine ⟨xs.length + 1, fun k hk => ?_⟩
  simp only [laws_toRuleS.f]
  rw [if_pos (by omega), if_pos (by omega)]
  refine to_loop (fun k ys i => laws_toRuleS.l0 k xs ys i) xs cvRule (fun k ys i h hy => ?_) (fun k ys hy => ?_) _ (by simp) k (by omega)
  · simp only [laws_toRuleS.l0]
    rw [if_pos (by omega), if_pos (by omega)]
    simp only [laws_toRule.f, Option.bind_some, rdl_Rule xs i h]
    rw [if_pos (by omega), w64s (by omega)]
    rfl
  · simp only [laws_toRuleS.l0]
    rw [if_neg (by omega)]
theorem eqRule_ev (xs : List S91) (hl : xs.length < 9223372036854775807) : Ev (fun k => laws_eqRuleS.f k xs xs) true := by
  unfold laws_eqRuleS.f
  simp only [if_true]
  have := all_ev (fun k i => laws_eqRuleS.l0 k xs xs i) xs.length true (fun _ => true) (fun i hi => ⟨0, fun k _ => ?_⟩) ⟨0, fun k _ => ?_⟩
  · rw [allB_const] at this; exact this
  · simp only [laws_eqRuleS.l0]
    rw [if_pos (by omega), if_pos (by omega), if_pos (by omega)]
    simp only [laws_eqRule.f, if_true, bne_self_eq_false, Bool.false_eq_true, if_false, Option.bind_some, w64s (show i < 9223372036854775807 by omega)]
  · simp only [laws_eqRuleS.l0]
    rw [if_neg (by omega)]
theorem szRule_ev (xs : List S93) (a : Int) (hl : xs.length < 9223372036854775807) : ∃ r, laws_szRuleS.f xs a = some r := by
  unfold laws_szRuleS.f
  split
  all_goals exact ⟨_, rfl⟩

/-! rules -/
abbrev RU := S91
def okR (m : Int) (r : RU) : Bool := (decide (1 ≤ r.f0) && decide (r.f0 ≤ 3)) && ((decide (0 ≤ r.f1) && decide (r.f1 ≤ m)) && ((decide (0 ≤ r.f2) && decide (r.f2 ≤ m)) && !decide (r.f1 = r.f2)))
def okRs (n : Int) (xs : List RU) (i : Nat) : Bool := if h : i < xs.length then okR (wrap64 (n - 1)) xs[i] else false
def validRules (n : Int) (xs : List RU) : Bool := allB (okRs n xs) xs.length && ((decide (1 ≤ n) && decide (n ≤ 8)) && decide ((xs.length : Int) ≤ 12))
theorem specRules_ev (n : Int) (xs : List RU) (hl : xs.length < 9223372036854775807) : Ev (fun k => spec_l25Rules.f k n xs) (validRules n xs) := by
  unfold spec_l25Rules.f validRules
  refine all_ev (fun k i => spec_l25Rules.l0 k n xs i) xs.length _ (okRs n xs) (fun i h => ⟨0, fun k _ => ?_⟩) ⟨0, fun k _ => ?_⟩
  · simp only [spec_l25Rules.l0]
    rw [if_pos (by omega), if_pos (by omega)]
    rw [show okRs n xs i = okR (wrap64 (n - 1)) xs[i] from by unfold okRs; rw [dif_pos h]]
    simp only [l00In_eq, rdi_Rule xs i h, Option.bind_some, w64s (show i < 9223372036854775807 by omega), okR]
    by_cases c1 : (decide (1 ≤ xs[i].f0) && decide (xs[i].f0 ≤ 3)) = true
    · rw [if_pos c1]
      by_cases c2 : (decide (0 ≤ xs[i].f1) && decide (xs[i].f1 ≤ wrap64 (n - 1))) = true
      · rw [if_pos c2]
        by_cases c3 : (decide (0 ≤ xs[i].f2) && decide (xs[i].f2 ≤ wrap64 (n - 1))) = true
        · rw [if_pos c3]
          by_cases c4 : xs[i].f1 = xs[i].f2
          · rw [if_pos c4]; simp [c4]
          · rw [if_neg c4]; simp only [c1, c2, c3]; simp [c4]
        · rw [if_neg c3]; simp only [Bool.not_eq_true] at c3; simp only [c3]; simp
      · rw [if_neg c2]; simp only [Bool.not_eq_true] at c2; simp only [c2]; simp
    · rw [if_neg c1]; simp only [Bool.not_eq_true] at c1; simp only [c1]; simp
  · simp only [spec_l25Rules.l0]
    rw [if_neg (by omega)]
    simp only [l00In_eq, Option.bind_some]
    by_cases c : (decide (1 ≤ n) && decide (n ≤ 8)) = true
    · rw [if_pos c]; simp [c]
    · rw [if_neg c]; simp only [Bool.not_eq_true] at c; simp [c]
theorem implRules_loop (n : Int) (xs : List RU) (hl : xs.length < 9223372036854775807) : Ev (fun k => impl_ValidRules.l0 k n xs xs.length 0) (allB (okRs n xs) xs.length && true) := by
  refine all_ev (fun k i => impl_ValidRules.l0 k n xs xs.length i) xs.length _ (okRs n xs) (fun i h => ⟨0, fun k _ => ?_⟩) ⟨0, fun k _ => ?_⟩
  · simp only [impl_ValidRules.l0]
    rw [if_pos (by omega), if_pos (by omega), if_pos (by omega)]
    rw [show okRs n xs i = okR (wrap64 (n - 1)) xs[i] from by unfold okRs; rw [dif_pos h]]
    simp only [within_eq, rdi_Rule xs i h, Option.bind_some, w64s (show i < 9223372036854775807 by omega), okR]
    by_cases c1 : (decide (1 ≤ xs[i].f0) && decide (xs[i].f0 ≤ 3)) = true
    · rw [if_pos c1]
      by_cases c2 : (decide (0 ≤ xs[i].f1) && decide (xs[i].f1 ≤ wrap64 (n - 1))) = true
      · rw [if_pos c2]
        by_cases c3 : (decide (0 ≤ xs[i].f2) && decide (xs[i].f2 ≤ wrap64 (n - 1))) = true
        · rw [if_pos c3]
          by_cases c4 : xs[i].f1 = xs[i].f2
          · rw [if_pos c4]; simp [c4]
          · rw [if_neg c4]; simp only [c1, c2, c3]; simp [c4]
        · rw [if_neg c3]; simp only [Bool.not_eq_true] at c3; simp only [c3]; simp
      · rw [if_neg c2]; simp only [Bool.not_eq_true] at c2; simp only [c2]; simp
    · rw [if_neg c1]; simp only [Bool.not_eq_true] at c1; simp only [c1]; simp
  · simp only [impl_ValidRules.l0]
    rw [if_neg (by omega)]
theorem implRules_ev (n : Int) (xs : List RU) (hl : xs.length < 9223372036854775807) : Ev (fun k => impl_ValidRules.f k n xs) (validRules n xs) := by
  obtain ⟨k0, h0⟩ := implRules_loop n xs hl
  refine ⟨k0 + 2, fun k hk => ?_⟩
  obtain ⟨k, rfl⟩ : ∃ m, k = m + 1 := ⟨k - 1, by omega⟩
  simp only [impl_ValidRules.f, within_eq, Option.bind_some]
  unfold validRules
  by_cases c : (decide (1 ≤ n) && decide (n ≤ 8)) = true
  · rw [if_pos c]
    simp only [impl_ValidRules.j0]
    by_cases c2 : (xs.length : Int) > 12
    · rw [if_pos (decide_eq_true c2)]
      rw [decide_eq_false (show ¬ (xs.length : Int) ≤ 12 by omega)]; simp
    · rw [if_neg (by simpa using c2), show impl_ValidRules.l0 k n xs (xs.length : Int) 0 = _ from h0 k (by omega)]
      rw [decide_eq_true (show (xs.length : Int) ≤ 12 by omega), c]; simp
  · rw [if_neg c]
    simp only [impl_ValidRules.j0]
    simp only [Bool.not_eq_true] at c
    simp [c]
theorem validRules_n {n : Int} {xs : List RU} (h : validRules n xs = true) : 1 ≤ n ∧ n ≤ 8 ∧ xs.length ≤ 12 := by
  unfold validRules at h
  simp only [Bool.and_eq_true, decide_eq_true_eq] at h
  exact ⟨h.2.1.1, h.2.1.2, by omega⟩
theorem validRules_at {n : Int} {xs : List RU} (h : validRules n xs = true) (i : Nat) (hi : i < xs.length) :
    (1 ≤ xs[i].f0 ∧ xs[i].f0 ≤ 3) ∧ (0 ≤ xs[i].f1 ∧ xs[i].f1 < n) ∧ (0 ≤ xs[i].f2 ∧ xs[i].f2 < n) ∧ xs[i].f1 ≠ xs[i].f2 := by
  have hn := validRules_n h
  unfold validRules at h
  simp only [Bool.and_eq_true] at h
  have := allB_true.1 h.1 i hi
  unfold okRs at this
  rw [dif_pos hi, w64 (by omega) (by omega)] at this
  unfold okR at this
  simp only [Bool.and_eq_true, decide_eq_true_eq, Bool.not_eq_true', decide_eq_false_iff_not] at this
  exact ⟨this.1, ⟨this.2.1.1, by omega⟩, ⟨this.2.2.1.1, by omega⟩, this.2.2.2⟩

/-! switches, as a list and as bits -/
theorem wr62 (n : Int) (h0 : 0 ≤ n) (h1 : n < 2 ^ 62) : IntKind.i64.wrap n = n := by rw [IntKind.wrap_i64]; omega
theorem tb (a i : Nat) (ha : a < 2 ^ 62) (hi : i ≤ 61) : Go.bits .and .i64 (shr .i64 (a : Int) (i : Int)) 1 = if a.testBit i = true then 1 else 0 := by
  have e : shr .i64 (a : Int) (i : Int) = ((a / 2 ^ i : Nat) : Int) := by
    unfold shr
    rw [show ((i : Int)).toNat = i by omega, show min i IntKind.i64.bits = i from Nat.min_eq_left (show i ≤ 64 by omega)]
    simp
  have h := (bits_nat .i64 62 (by decide) wr62 (a / 2 ^ i) 1 (Nat.lt_of_le_of_lt (Nat.div_le_self _ _) ha) (by decide)).1
  rw [e, show (1 : Int) = ((1 : Nat) : Int) from rfl, h, Nat.and_one_is_mod, Nat.testBit_eq_decide_div_mod_eq]
  by_cases c : a / 2 ^ i % 2 = 1
  · rw [if_pos (by simpa using c), c]
  · rw [if_neg (by simpa using c)]
    omega
theorem shl1 (i : Nat) (hi : i ≤ 61) : shl .i64 1 (i : Int) = ((2 ^ i : Nat) : Int) := by
  unfold shl
  rw [show ((i : Int)).toNat = i by omega, show min i IntKind.i64.bits = i from Nat.min_eq_left (show i ≤ 64 by omega), Int.one_mul]
  have h : (2 : Nat) ^ i < 2 ^ 62 := Nat.pow_lt_pow_right (by omega) (by omega)
  have h2 : ((2 ^ i : Nat) : Int) < 2 ^ 62 := by exact_mod_cast h
  rw [show (2 : Int) ^ i = ((2 ^ i : Nat) : Int) by simp]
  exact wr62 _ (Int.natCast_nonneg _) h2
/-- The number whose bits are the first i switches. -/
def setN (xs : List Bool) : Nat → Nat
  | 0 => 0
  | i + 1 => if rdOf false xs (i : Int) = true then setN xs i ||| 2 ^ i else setN xs i
theorem setN_lt (xs : List Bool) : ∀ i, setN xs i < 2 ^ i
  | 0 => by simp [setN]
  | i + 1 => by
    have h := setN_lt xs i
    have h2 : (2 : Nat) ^ (i + 1) = 2 ^ i * 2 := Nat.pow_succ 2 i
    unfold setN
    split
    · exact Nat.or_lt_two_pow (by omega) (by have := Nat.two_pow_pos i; omega)
    · omega
theorem setN_bit (xs : List Bool) (j : Nat) : ∀ i, (setN xs i).testBit j = (decide (j < i) && rdOf false xs (j : Int))
  | 0 => by simp [setN]
  | i + 1 => by
    have h := setN_bit xs j i
    unfold setN
    by_cases e : j = i
    · subst e
      split
      · rename_i c; rw [Nat.testBit_or, Nat.testBit_two_pow_self, Bool.or_true, decide_eq_true (by omega), c]; rfl
      · rename_i c; rw [h, decide_eq_false (by omega)]; simp only [Bool.not_eq_true] at c; rw [c]; simp
    · split
      · rw [Nat.testBit_or, h, Nat.testBit_two_pow_of_ne (by omega), Bool.or_false]
        by_cases c : j < i
        · rw [decide_eq_true c, decide_eq_true (by omega)]
        · rw [decide_eq_false c, decide_eq_false (by omega)]
      · rw [h]
        by_cases c : j < i
        · rw [decide_eq_true c, decide_eq_true (by omega)]
        · rw [decide_eq_false c, decide_eq_false (by omega)]
theorem setN_lt62 (xs : List Bool) (i : Nat) (h : i ≤ 61) : setN xs i < 2 ^ 62 := Nat.lt_of_lt_of_le (setN_lt xs i) (Nat.pow_le_pow_right (by omega) (by omega))

theorem switchSet_ev (xs : List Bool) (hl : xs.length ≤ 61) : Ev (fun k => impl_switchSet.f k xs) ((setN xs xs.length : Nat) : Int) := by
  unfold impl_switchSet.f
  refine fold_from (fun k s i => impl_switchSet.l0 k s xs (xs.length : Int) i) 0 xs.length (fun i => ((setN xs i : Nat) : Int)) _ (Nat.zero_le _) (fun i _ hi r hr => Ev.succ ?_) (Ev.succ ?_)
  · simp only [impl_switchSet.l0, if_pos (show (i : Int) < (xs.length : Int) by omega), if_pos (show 0 ≤ (i : Int) by omega), w64s (show i < 9223372036854775807 by omega)]
    simp only [setN] at hr
    by_cases c : rdOf false xs (i : Int) = true
    · simp only [if_pos c] at hr ⊢
      have e := (bits_nat .i64 62 (by decide) wr62 (setN xs i) (2 ^ i) (setN_lt62 xs i (by omega)) (Nat.pow_lt_pow_right (by omega) (by omega))).2
      rw [shl1 i (by omega), e]
      exact hr
    · simp only [if_neg c] at hr ⊢
      exact hr
  · simp only [impl_switchSet.l0, if_neg (show ¬ (xs.length : Int) < (xs.length : Int) by omega)]; exact Ev.now _

/-- Is a rule broken where its two switches stand so? -/
def brk (kind : Int) (a b : Bool) : Bool := if kind = 1 then a && b else if kind = 2 then !a && !b else a && !b
theorem specBreaks_eq (xs : List Bool) (kind i j : Int) (h1 : 0 ≤ i) (h2 : i < (xs.length : Int)) (h3 : 0 ≤ j) (h4 : j < (xs.length : Int)) :
    spec_l25Breaks.f xs kind i j = some (brk kind (rdOf false xs i) (rdOf false xs j)) := by
  unfold spec_l25Breaks.f brk
  rw [if_pos h1, if_pos h2, if_pos h3, if_pos h4]
  by_cases c1 : kind = 1
  · rw [if_pos c1, if_pos c1]; cases rdOf false xs i <;> rfl
  · rw [if_neg c1, if_neg c1]
    by_cases c2 : kind = 2
    · rw [if_pos c2, if_pos c2]; cases rdOf false xs i <;> rfl
    · rw [if_neg c2, if_neg c2]; cases rdOf false xs i <;> rfl

/-! the rules over a set of switches that is a number -/
theorem implBreaksN (m : Nat) (hm : m < 2 ^ 62) (kind i j : Int) (h1 : 0 ≤ i) (h2 : i ≤ 61) (h3 : 0 ≤ j) (h4 : j ≤ 61) :
    impl_switches_breaks.f (m : Int) kind i j = some (brk kind (m.testBit i.toNat) (m.testBit j.toNat)) := by
  obtain ⟨a, rfl⟩ := Int.eq_ofNat_of_zero_le h1
  obtain ⟨b, rfl⟩ := Int.eq_ofNat_of_zero_le h3
  unfold impl_switches_breaks.f brk
  rw [if_pos h1, if_pos h3, tb m a hm (by omega), tb m b hm (by omega)]
  simp only [Int.toNat_natCast]
  by_cases c1 : kind = 1
  · rw [if_pos c1, if_pos c1]; cases m.testBit a <;> cases m.testBit b <;> rfl
  · rw [if_neg c1, if_neg c1]
    by_cases c2 : kind = 2
    · rw [if_pos c2, if_pos c2]; cases m.testBit a <;> cases m.testBit b <;> rfl
    · rw [if_neg c2, if_neg c2]; cases m.testBit a <;> cases m.testBit b <;> rfl
def stN (n m : Nat) : List Bool := (List.range n).map fun j => m.testBit j
theorem stN_len (n m : Nat) : (stN n m).length = n := by simp [stN]
theorem stN_at (n m : Nat) (j : Int) (h0 : 0 ≤ j) (h1 : j < (n : Int)) : rdOf false (stN n m) j = m.testBit j.toNat := by
  obtain ⟨a, rfl⟩ := Int.eq_ofNat_of_zero_le h0
  rw [rdOf_cast _ a (by rw [stN_len]; omega)]
  simp [stN]
def badM (m : Nat) (rs : List RU) (i : Nat) : Bool := brk (rd_T91 rs (i : Int)).f0 (m.testBit (rd_T91 rs (i : Int)).f1.toNat) (m.testBit (rd_T91 rs (i : Int)).f2.toNat)
def okM (rs : List RU) (m : Nat) : Bool := allB (fun i => !(badM m rs i)) rs.length
theorem specKeeps_ev (rs : List RU) (n m : Nat) (h : validRules (n : Int) rs = true) : Ev (fun k => spec_l25Keeps.f k (stN n m) rs) (okM rs m) := by
  have hn := validRules_n h
  unfold spec_l25Keeps.f okM
  have h := all_ev (fun k i => spec_l25Keeps.l0 k (stN n m) rs i) rs.length true (fun i => !(badM m rs i)) (fun i hi => ⟨0, fun k _ => ?_⟩) ⟨0, fun k _ => ?_⟩
  · rw [Bool.and_true] at h; exact h
  · have ha := validRules_at h i hi
    have e : spec_l25Breaks.f (stN n m) (rd_T91 rs (i : Int)).f0 (rd_T91 rs (i : Int)).f1 (rd_T91 rs (i : Int)).f2 = some (badM m rs i) := by
      unfold badM
      rw [rdi_Rule rs i hi, specBreaks_eq _ _ _ _ ha.2.1.1 (by rw [stN_len]; exact ha.2.1.2) ha.2.2.1.1 (by rw [stN_len]; exact ha.2.2.1.2), stN_at n m _ ha.2.1.1 ha.2.1.2, stN_at n m _ ha.2.2.1.1 ha.2.2.1.2]
    simp only [spec_l25Keeps.l0, if_pos (show (i : Int) < (rs.length : Int) by omega), if_pos (show 0 ≤ (i : Int) by omega), e, Option.bind_some, w64s (show i < 9223372036854775807 by omega)]
    cases badM m rs i <;> rfl
  · simp only [spec_l25Keeps.l0, if_neg (show ¬ (rs.length : Int) < (rs.length : Int) by omega)]
theorem allowed_eq (rs : List RU) (n m : Nat) (h : validRules (n : Int) rs = true) (hm : m < 2 ^ 62) : impl_switches_allowed.f (m : Int) rs = some (okM rs m) := by
  have hn := validRules_n h
  have hb : ∀ i (hi : i < rs.length), impl_switches_breaks.f (m : Int) rs[i].f0 rs[i].f1 rs[i].f2 = some (badM m rs i) := fun i hi => by
    have ha := validRules_at h i hi
    rw [implBreaksN m hm _ _ _ ha.2.1.1 (by omega) ha.2.2.1.1 (by omega)]
    unfold badM
    rw [rdi_Rule rs i hi]
  unfold impl_switches_allowed.f
  rw [if_pos (by
    rw [List.all_eq_true]
    intro x hx
    obtain ⟨i, hi, rfl⟩ := List.getElem_of_mem hx
    rw [hb i hi]; rfl)]
  congr 1
  unfold okM
  rw [Bool.eq_iff_iff, allB_true]
  simp only [Bool.not_eq_true', List.any_eq_false]
  constructor
  · intro h2 i hi
    have := h2 rs[i] (List.getElem_mem hi)
    rw [hb i hi] at this
    simpa using this
  · intro h2 x hx
    obtain ⟨i, hi, rfl⟩ := List.getElem_of_mem hx
    rw [hb i hi]
    have := h2 i hi
    simpa using this

/-! one switch turned over -/
theorem bits_xorN (a b : Nat) (ha : a < 2 ^ 62) (hb : b < 2 ^ 62) : Go.bits .xor .i64 (a : Int) (b : Int) = ((a ^^^ b : Nat) : Int) := by
  have hp : (2 : Nat) ^ 62 ≤ 2 ^ IntKind.i64.bits := Nat.pow_le_pow_right (by decide) (show 62 ≤ 64 by omega)
  have ha' : a % 2 ^ IntKind.i64.bits = a := Nat.mod_eq_of_lt (Nat.lt_of_lt_of_le ha hp)
  have hb' : b % 2 ^ IntKind.i64.bits = b := Nat.mod_eq_of_lt (Nat.lt_of_lt_of_le hb hp)
  simp only [Go.bits, BitVec.ofInt_natCast, BitVec.toNat_xor, BitVec.toNat_ofNat, ha', hb']
  exact wr62 _ (Int.natCast_nonneg _) (by exact_mod_cast Nat.xor_lt_two_pow ha hb)
theorem pow62 {i : Nat} (hi : i ≤ 61) : (2 : Nat) ^ i < 2 ^ 62 := Nat.pow_lt_pow_right (by omega) (by omega)
theorem turn_eq (m i : Nat) (hm : m < 2 ^ 62) (hi : i ≤ 61) : Go.bits .xor .i64 (m : Int) (shl .i64 1 (i : Int)) = ((m ^^^ 2 ^ i : Nat) : Int) := by
  rw [shl1 i hi, bits_xorN m _ hm (pow62 hi)]
theorem turn_lt {m i : Nat} (hm : m < 2 ^ 62) (hi : i ≤ 61) : m ^^^ 2 ^ i < 2 ^ 62 := Nat.xor_lt_two_pow hm (pow62 hi)
theorem turn_bit (m i j : Nat) : (m ^^^ 2 ^ i).testBit j = if j = i then !m.testBit j else m.testBit j := by
  rw [Nat.testBit_xor]
  by_cases e : j = i
  · subst e; rw [if_pos rfl, Nat.testBit_two_pow_self]; cases m.testBit j <;> rfl
  · rw [if_neg e, Nat.testBit_two_pow_of_ne (by omega)]; cases m.testBit j <;> rfl
theorem stN_setN (xs : List Bool) : stN xs.length (setN xs xs.length) = xs := by
  apply List.ext_getElem
  · simp [stN]
  · intro j h1 h2
    simp only [stN, List.getElem_map, List.getElem_range]
    rw [setN_bit, decide_eq_true h2, rdOf_cast xs j h2]; rfl
theorem own_eq (n m i : Nat) (hi : i < n) (hn : n ≤ 60) : spec_l25Own.f (stN n m) (i : Int) = some (stN n (m ^^^ 2 ^ i)) := by
  unfold spec_l25Own.f
  have hl := stN_len n m
  simp only [Option.bind_some, List.nil_append, List.length_nil]
  rw [if_pos (by omega), if_pos (by omega), if_pos (by omega), stN_at n m _ (by omega) (by omega), Int.toNat_natCast]
  congr 1
  apply List.ext_getElem
  · simp [stN]
  · intro j h1 h2
    have hj : j < n := by simpa [stN] using h2
    by_cases e : j = i
    · subst e
      rw [List.getElem_set_self]
      simp only [stN, List.getElem_map, List.getElem_range]
      rw [turn_bit, if_pos rfl]
    · rw [List.getElem_set_ne (by omega)]
      simp only [stN, List.getElem_map, List.getElem_range]
      rw [turn_bit, if_neg e]
/-- The order that turns switch i over. -/
def ordM (m i : Nat) : Int := if m.testBit i = true then -(i : Int) - 1 else (i : Int) + 1
theorem specOrder_eq (n m i : Nat) (hi : i < n) (hn : n ≤ 60) : spec_l25Order.f (stN n m) (i : Int) = some (ordM m i) := by
  unfold spec_l25Order.f ordM
  have hl := stN_len n m
  rw [if_pos (by omega), if_pos (by omega), stN_at n m _ (by omega) (by omega), Int.toNat_natCast, w64 (x := -(i : Int)) (by omega) (by omega), w64 (x := -(i : Int) - 1) (by omega) (by omega), w64 (x := (i : Int) + 1) (by omega) (by omega)]
  by_cases c : m.testBit i = true
  · rw [if_pos c, if_pos c]
  · rw [if_neg c, if_neg c]
theorem implOrder_eq (m i : Nat) (hm : m < 2 ^ 62) (hi : i ≤ 60) : impl_switches_order.f (m : Int) (i : Int) = some (ordM m i) := by
  unfold impl_switches_order.f ordM
  rw [if_pos (by omega), tb m i hm (by omega), w64 (x := -(i : Int)) (by omega) (by omega), w64 (x := -(i : Int) - 1) (by omega) (by omega), w64 (x := (i : Int) + 1) (by omega) (by omega)]
  cases m.testBit i <;> rfl

theorem rd_at (xs : List Int) (i : Nat) (h : i < xs.length) : rd xs (i : Int) = xs[i] := by unfold rd; exact getD_cast xs i h _
theorem eqInts_ev (xs : List Int) (hl : xs.length < 9223372036854775807) : Ev (fun k => laws_eqInt64S.f k xs xs) true := by
  unfold laws_eqInt64S.f
  simp only [if_true]
  have := all_ev (fun k i => laws_eqInt64S.l0 k xs xs i) xs.length true (fun _ => true) (fun i hi => ⟨0, fun k _ => ?_⟩) ⟨0, fun k _ => ?_⟩
  · rw [allB_const] at this; exact this
  · simp only [laws_eqInt64S.l0]
    rw [if_pos (by omega), if_pos (by omega), if_pos (by omega)]
    simp only [if_true, w64s (show i < 9223372036854775807 by omega)]
  · simp only [laws_eqInt64S.l0]
    rw [if_neg (by omega)]

/-! allWithin, as a test of each place -/
def inB (lo hi : Int) (xs : List Int) (i : Nat) : Bool := decide (lo ≤ rd xs (i : Int)) && decide (rd xs (i : Int) ≤ hi)
theorem all_rd (p : Int → Bool) (xs : List Int) : xs.all p = allB (fun i => p (rd xs (i : Int))) xs.length := by
  rw [Bool.eq_iff_iff, allB_true, List.all_eq_true]
  constructor
  · intro h i hi
    rw [rd_at xs i hi]
    exact h _ (List.getElem_mem hi)
  · intro h x hx
    obtain ⟨i, hi, rfl⟩ := List.getElem_of_mem hx
    have := h i hi
    rw [rd_at xs i hi] at this
    exact this
theorem allWithin_eq (xs : List Int) (lo hi : Int) : impl_allWithin.f xs lo hi = some (allB (inB lo hi xs) xs.length) := by
  unfold impl_allWithin.f
  rw [all_rd]
  rfl
theorem inB_at {lo hi : Int} {xs : List Int} (h : allB (inB lo hi xs) xs.length = true) (i : Nat) (hi' : i < xs.length) : lo ≤ rd xs (i : Int) ∧ rd xs (i : Int) ≤ hi := by
  have := allB_true.1 h i hi'
  unfold inB at this
  simpa using this

/-! orders -/
def okO (xs : List Int) (i : Nat) : Bool := !decide (rd xs (i : Int) = 0) && (decide (-8 ≤ rd xs (i : Int)) && decide (rd xs (i : Int) ≤ 8))
def validOrders (xs : List Int) : Bool := allB (okO xs) xs.length && decide ((xs.length : Int) ≤ 24)
theorem specOrders_ev (xs : List Int) (hl : xs.length < 9223372036854775807) : Ev (fun k => spec_l25Orders.f k xs) (validOrders xs) := by
  unfold spec_l25Orders.f validOrders
  refine all_ev (fun k i => spec_l25Orders.l0 k xs i) xs.length _ (okO xs) (fun i hi => ⟨0, fun k _ => ?_⟩) ⟨0, fun k _ => ?_⟩
  · simp only [spec_l25Orders.l0, if_pos (show (i : Int) < (xs.length : Int) by omega), if_pos (show 0 ≤ (i : Int) by omega), l00In_eq, Option.bind_some, w64s (show i < 9223372036854775807 by omega)]
    by_cases c1 : rd xs (i : Int) = 0
    · rw [if_pos c1, if_neg (by unfold okO; rw [decide_eq_true c1]; simp)]
    · rw [if_neg c1]
      by_cases c2 : (decide (-8 ≤ rd xs (i : Int)) && decide (rd xs (i : Int) ≤ 8)) = true
      · rw [if_pos c2, if_pos (by unfold okO; rw [decide_eq_false c1, c2]; rfl)]
      · rw [if_neg c2, if_neg (by unfold okO; rw [decide_eq_false c1]; simp only [Bool.not_eq_true] at c2; rw [c2]; simp)]
  · simp only [spec_l25Orders.l0, if_neg (show ¬ (xs.length : Int) < (xs.length : Int) by omega)]
/-- The first place, from 0 on, where a stands. -/
def noneOf (xs : List Int) (a : Int) : Bool := allB (fun i => !decide (a = rd xs (i : Int))) xs.length
theorem contains_ev (xs : List Int) (a : Int) (hl : xs.length < 9223372036854775807) : Ev (fun k => slices_Contains_int64_int64.f k xs a) (!(noneOf xs a)) := by
  unfold slices_Contains_int64_int64.f slices_Index_int64_int64.f
  have key := inv_evE (fun k (s : Unit) i => slices_Index_int64_int64.l0 k xs a (xs.length : Int) i) xs.length (fun i _ => ∀ j, j < i → ¬ a = rd xs (j : Int)) (fun r => decide (r ≥ 0) = !(noneOf xs a)) (fun i s hi h => ?_) (fun s h => ?_) xs.length 0 () (by omega) (fun j hj => absurd hj (Nat.not_lt_zero _))
  · obtain ⟨r, hp, h⟩ := key
    refine Ev.bind h ?_
    rw [← hp]
    exact Ev.now _
  · by_cases c : a = rd xs (i : Int)
    · refine .inl ⟨(i : Int), ?_, Ev.succ ?_⟩
      · rw [decide_eq_true (show (i : Int) ≥ 0 by omega)]
        have : ¬ noneOf xs a = true := fun h2 => by
          have := allB_true.1 h2 i hi
          simp [← c] at this
        simp only [Bool.not_eq_true] at this
        rw [this]; rfl
      · simp only [slices_Index_int64_int64.l0, if_pos (show (i : Int) < (xs.length : Int) by omega), if_pos (show 0 ≤ (i : Int) by omega), if_pos c]; exact Ev.now _
    · refine .inr ⟨(), fun j hj => ?_, fun r hr => Ev.succ ?_⟩
      · by_cases e : j = i
        · subst e; exact c
        · exact h j (by omega)
      · simp only [slices_Index_int64_int64.l0, if_pos (show (i : Int) < (xs.length : Int) by omega), if_pos (show 0 ≤ (i : Int) by omega), if_neg c, w64s (show i < 9223372036854775807 by omega)]; exact hr
  · refine ⟨-1, ?_, Ev.succ ?_⟩
    · have : noneOf xs a = true := by
        unfold noneOf
        rw [allB_true]
        intro i hi
        rw [decide_eq_false (h i hi)]; rfl
      rw [this]; rfl
    · simp only [slices_Index_int64_int64.l0, if_neg (show ¬ (xs.length : Int) < (xs.length : Int) by omega)]; exact Ev.now _
theorem validOrders_eq (xs : List Int) : validOrders xs = (decide ((xs.length : Int) ≤ 24) && (allB (inB (-8) 8 xs) xs.length && noneOf xs 0)) := by
  unfold validOrders noneOf
  rw [Bool.eq_iff_iff]
  simp only [Bool.and_eq_true, allB_true, okO, inB]
  constructor
  · rintro ⟨h1, h2⟩
    refine ⟨h2, fun i hi => (h1 i hi).2, fun i hi => ?_⟩
    have := (h1 i hi).1
    simp only [Bool.not_eq_true', decide_eq_false_iff_not] at this ⊢
    exact fun e => this e.symm
  · rintro ⟨h1, h2, h3⟩
    refine ⟨fun i hi => ⟨?_, h2 i hi⟩, h1⟩
    have := h3 i hi
    simp only [Bool.not_eq_true', decide_eq_false_iff_not] at this ⊢
    exact fun e => this e.symm
theorem implOrders_ev (xs : List Int) (hl : xs.length < 9223372036854775807) : Ev (fun k => impl_ordersOk.f k xs) (validOrders xs) := by
  unfold impl_ordersOk.f
  rw [validOrders_eq]
  by_cases c : (xs.length : Int) ≤ 24
  · simp only [if_pos c, allWithin_eq, Option.bind_some, decide_eq_true c, Bool.true_and]
    by_cases c2 : allB (inB (-8) 8 xs) xs.length = true
    · simp only [if_pos c2]
      refine Ev.bind (contains_ev xs 0 hl) ?_
      rw [c2, Bool.true_and, Bool.not_not]
      exact Ev.now _
    · simp only [if_neg c2]
      simp only [Bool.not_eq_true] at c2
      rw [c2]
      exact Ev.now _
  · simp only [if_neg c]
    rw [decide_eq_false c]
    exact Ev.now _
theorem validOrders_len {xs : List Int} (h : validOrders xs = true) : xs.length ≤ 24 := by
  unfold validOrders at h
  simp only [Bool.and_eq_true, decide_eq_true_eq] at h
  omega

theorem toInts_ev (xs : List Int) (hl : xs.length * 8 ≤ 140737488351232) : Ev (fun k => laws_toInt64S.f k xs) xs := by
  refine ⟨xs.length + 1, fun k hk => ?_⟩
  simp only [laws_toInt64S.f]
  rw [if_pos (by omega), if_pos (by omega)]
  have h := to_loop (fun k ys i => laws_toInt64S.l0 k xs ys i) xs id (fun k ys i h hy => ?_) (fun k ys hy => ?_) (List.replicate ((xs.length : Int) : Int).toNat 0) (by simp) k (by omega)
  · rw [List.map_id] at h; exact h
  · simp only [laws_toInt64S.l0]
    rw [if_pos (by omega), if_pos (by omega), if_pos (by omega), w64s (by omega), rd_at xs i h]
    rfl
  · simp only [laws_toInt64S.l0]
    rw [if_neg (by omega)]

theorem toBools_ev (xs : List Bool) (hl : xs.length ≤ 140737488351232) : Ev (fun k => laws_toBoolS.f k xs) xs := by
  refine ⟨xs.length + 1, fun k hk => ?_⟩
  simp only [laws_toBoolS.f]
  rw [if_pos (by omega), if_pos (by omega)]
  have h := to_loop (fun k ys i => laws_toBoolS.l0 k xs ys i) xs id (fun k ys i h hy => ?_) (fun k ys hy => ?_) (List.replicate ((xs.length : Int) : Int).toNat false) (by simp) k (by omega)
  · rw [List.map_id] at h; exact h
  · simp only [laws_toBoolS.l0]
    rw [if_pos (by omega), if_pos (by omega), if_pos (by omega), w64s (by omega), rdOf_cast xs i h]
    rfl
  · simp only [laws_toBoolS.l0]
    rw [if_neg (by omega)]
theorem eqBools_ev (xs : List Bool) (hl : xs.length < 9223372036854775807) : Ev (fun k => laws_eqBoolS.f k xs xs) true := by
  unfold laws_eqBoolS.f
  simp only [if_true]
  have := all_ev (fun k i => laws_eqBoolS.l0 k xs xs i) xs.length true (fun _ => true) (fun i hi => ⟨0, fun k _ => ?_⟩) ⟨0, fun k _ => ?_⟩
  · rw [allB_const] at this; exact this
  · simp only [laws_eqBoolS.l0]
    rw [if_pos (by omega), if_pos (by omega), if_pos (by omega)]
    simp only [bne_self_eq_false, Bool.false_eq_true, if_false, if_true, w64s (show i < 9223372036854775807 by omega)]
  · simp only [laws_eqBoolS.l0]
    rw [if_neg (by omega)]

theorem markIntsFrom_ev (xs : List Int) (a : Int) (h0 : 0 ≤ a) (h9 : a ≤ 1152921504606846976) (hl : xs.length < 1152921504606846976) : ∃ xm, Ev (fun k => laws_markInt64S.f k xs a) (a + (xs.length : Int), xm) := by
  unfold laws_markInt64S.f
  have key := inv_evE (fun k (s : List Int × Int) i => laws_markInt64S.l0 k s.1 s.2 i) xs.length (fun i s => s.1.length = xs.length ∧ s.2 = a + (i : Int)) (fun r => r.1 = a + (xs.length : Int)) (fun i s hi h => .inr ?_) (fun s h => ?_) xs.length 0 (xs, a) (by omega) ⟨rfl, by simp⟩
  · obtain ⟨⟨r, xm⟩, hp, h⟩ := key
    simp only at hp
    subst hp
    exact ⟨xm, h⟩
  · obtain ⟨ys, n⟩ := s
    obtain ⟨h1, h2⟩ := h
    simp only at h1 h2
    subst h2
    refine ⟨(?ys, a + ((i + 1 : Nat) : Int)), ⟨?len, rfl⟩, fun r hr => Ev.succ ?step⟩
    case step =>
      simp only [laws_markInt64S.l0, h1, if_pos (show (i : Int) < (xs.length : Int) by omega), if_pos (show 0 ≤ (i : Int) by omega), Option.bind_some, w64s (show i < 9223372036854775807 by omega), show wrap64 (a + (i : Int) + 1) = a + ((i + 1 : Nat) : Int) from by rw [w64] <;> omega]
      exact hr
    case len => simp [h1]
  · obtain ⟨ys, n⟩ := s
    obtain ⟨h1, h2⟩ := h
    simp only at h1 h2
    subst h2
    exact ⟨(_, ys), rfl, Ev.succ (by simp only [laws_markInt64S.l0, h1, if_neg (show ¬ (xs.length : Int) < (xs.length : Int) by omega)]; exact Ev.now _)⟩

theorem markBools_ev (xs : List Bool) (a : Int) (h0 : 0 ≤ a) (h9 : a ≤ 1152921504606846976) (hl : xs.length < 1152921504606846976) : ∃ xm, Ev (fun k => laws_markBoolS.f k xs a) (a + (xs.length : Int), xm) := by
  unfold laws_markBoolS.f
  have key := inv_evE (fun k (s : List Bool × Int) i => laws_markBoolS.l0 k s.1 s.2 i) xs.length (fun i s => s.1.length = xs.length ∧ s.2 = a + (i : Int)) (fun r => r.1 = a + (xs.length : Int)) (fun i s hi h => .inr ?_) (fun s h => ?_) xs.length 0 (xs, a) (by omega) ⟨rfl, by simp⟩
  · obtain ⟨⟨r, xm⟩, hp, h⟩ := key
    simp only at hp
    subst hp
    exact ⟨xm, h⟩
  · obtain ⟨ys, n⟩ := s
    obtain ⟨h1, h2⟩ := h
    simp only at h1 h2
    subst h2
    refine ⟨(?ys, a + ((i + 1 : Nat) : Int)), ⟨?len, rfl⟩, fun r hr => Ev.succ ?step⟩
    case step =>
      simp only [laws_markBoolS.l0, h1, if_pos (show (i : Int) < (xs.length : Int) by omega), if_pos (show 0 ≤ (i : Int) by omega), Option.bind_some, w64s (show i < 9223372036854775807 by omega), show wrap64 (a + (i : Int) + 1) = a + ((i + 1 : Nat) : Int) from by rw [w64] <;> omega]
      exact hr
    case len => simp [h1]
  · obtain ⟨ys, n⟩ := s
    obtain ⟨h1, h2⟩ := h
    simp only at h1 h2
    subst h2
    exact ⟨(_, ys), rfl, Ev.succ (by simp only [laws_markBoolS.l0, h1, if_neg (show ¬ (xs.length : Int) < (xs.length : Int) by omega)]; exact Ev.now _)⟩

/-- What a list reads behind its marking, i of its truths being marked. -/
def mb1 (xs : List Bool) (i : Nat) : List Bool := (List.range i).map (fun j : Nat => (Int.tmod ((j : Int) + 1) 3 == 0)) ++ xs.drop i
theorem mb1_len (xs : List Bool) (i : Nat) (h : i ≤ xs.length) : (mb1 xs i).length = xs.length := by simp [mb1]; omega
theorem mb1_set (xs : List Bool) (i : Nat) (h : i < xs.length) : (mb1 xs i).set i (Int.tmod ((i : Int) + 1) 3 == 0) = mb1 xs (i + 1) := by
  unfold mb1
  rw [List.set_append_right _ _ (by simp)]
  simp only [List.length_map, List.length_range, Nat.sub_self]
  rw [List.range_succ, List.map_append, List.append_assoc]
  congr 1
  rw [List.drop_eq_getElem_cons h]
  rfl
theorem markB_ev (xs : List Bool) (hl : xs.length < 4611686018427387904) : Ev (fun k => laws_markBoolS.f k xs 1) ((xs.length : Int) + 1, mb1 xs xs.length) := by
  unfold laws_markBoolS.f
  have h := fold_ev (fun k (s : List Bool × Int) i => laws_markBoolS.l0 k s.1 s.2 i) xs.length (fun i => (mb1 xs i, (i : Int) + 1)) ((xs.length : Int) + 1, mb1 xs xs.length) (fun i hi => ⟨0, fun k _ => ?_⟩) ⟨0, fun k _ => ?_⟩ 0 (by omega)
  · simpa [mb1] using h
  · simp only [laws_markBoolS.l0, mb1_len xs i (by omega)]
    rw [if_pos (by omega), if_pos (by omega), w64s (by omega)]
    rw [show ((i : Int)).toNat = i from by omega, mb1_set xs i hi, show wrap64 ((i : Int) + 1 + 1) = ((i + 1 : Nat) : Int) + 1 from by rw [w64] <;> omega]
  · simp only [laws_markBoolS.l0, mb1_len xs xs.length (Nat.le_refl _)]
    rw [if_neg (by omega)]
theorem heldB_ev (xs : List Bool) (hl : xs.length < 4611686018427387904) : Ev (fun k => laws_heldBoolS.f k (mb1 xs xs.length) 1) ((xs.length : Int) + 1) := by
  unfold laws_heldBoolS.f
  have e := mb1_len xs xs.length (Nat.le_refl _)
  have h := fold_ev (fun k (s : Int) i => laws_heldBoolS.l0 k (mb1 xs xs.length) s i) xs.length (fun i => (i : Int) + 1) ((xs.length : Int) + 1) (fun i hi => ⟨0, fun k _ => ?_⟩) ⟨0, fun k _ => ?_⟩ 0 (by omega)
  · simpa using h
  · simp only [laws_heldBoolS.l0, e]
    have hr : rdOf false (mb1 xs xs.length) (i : Int) = (Int.tmod ((i : Int) + 1) 3 == 0) := by
      rw [rdOf_cast _ i (by rw [e]; exact hi)]
      simp [mb1, List.getElem_append, hi]
    rw [if_pos (by omega), if_pos (by omega), hr, if_neg (by simp), w64s (by omega), show wrap64 ((i : Int) + 1 + 1) = ((i + 1 : Nat) : Int) + 1 from by rw [w64] <;> omega]
  · simp only [laws_heldBoolS.l0, e]
    rw [if_neg (by omega)]

theorem markRuleFrom_ev (xs : List S91) (a : Int) (h0 : 0 ≤ a) (h9 : a ≤ 1152921504606846976) (hl : xs.length < 1152921504606846976 / 3) : ∃ xm, Ev (fun k => laws_markRuleS.f k xs a) (a + 3 * (xs.length : Int), xm) := by
  unfold laws_markRuleS.f
  have key := inv_evE (fun k (s : List S91 × Int) i => laws_markRuleS.l0 k s.1 s.2 i) xs.length (fun i s => s.1.length = xs.length ∧ s.2 = a + 3 * (i : Int)) (fun r => r.1 = a + 3 * (xs.length : Int)) (fun i s hi h => .inr ?_) (fun s h => ?_) xs.length 0 (xs, a) (by omega) ⟨rfl, by simp⟩
  · obtain ⟨⟨r, xm⟩, hp, h⟩ := key
    simp only at hp
    subst hp
    exact ⟨xm, h⟩
  · obtain ⟨ys, n⟩ := s
    obtain ⟨h1, h2⟩ := h
    simp only at h1 h2
    subst h2
    refine ⟨(?ys, a + 3 * ((i + 1 : Nat) : Int)), ⟨?len, rfl⟩, fun r hr => Ev.succ ?step⟩
    case step =>
      simp only [laws_markRuleS.l0, h1, if_pos (show (i : Int) < (xs.length : Int) by omega), if_pos (show 0 ≤ (i : Int) by omega), Option.bind_some, w64s (show i < 9223372036854775807 by omega), show wrap64 (a + 3 * (i : Int) + 1) = a + 3 * (i : Int) + 1 from by rw [w64] <;> omega, show wrap64 (a + 3 * (i : Int) + 1 + 1) = a + 3 * (i : Int) + 1 + 1 from by rw [w64] <;> omega, show wrap64 (a + 3 * (i : Int) + 1 + 1 + 1) = a + 3 * ((i + 1 : Nat) : Int) from by rw [w64] <;> omega]
      exact hr
    case len => simp [h1]
  · obtain ⟨ys, n⟩ := s
    obtain ⟨h1, h2⟩ := h
    simp only at h1 h2
    subst h2
    exact ⟨(_, ys), rfl, Ev.succ (by simp only [laws_markRuleS.l0, h1, if_neg (show ¬ (xs.length : Int) < (xs.length : Int) by omega)]; exact Ev.now _)⟩
theorem markRule_ev (xs : List S91) (hl : xs.length < 1152921504606846976 / 3) : ∃ m xm, 0 ≤ m ∧ Ev (fun k => laws_markRuleS.f k xs 1) (m, xm) := by
  obtain ⟨xm, h⟩ := markRuleFrom_ev xs 1 (by omega) (by omega) hl
  exact ⟨_, xm, by omega, h⟩

def stI (n m i : Nat) : List Bool := (List.range n).map fun j => if j < i then m.testBit j else false
theorem stI_len (n m i : Nat) : (stI n m i).length = n := by simp [stI]
theorem stI_0 (n m : Nat) : stI n m 0 = List.replicate n false := by
  apply List.ext_getElem
  · simp [stI]
  · intro j h1 h2; simp [stI]
theorem stI_n (n m : Nat) : stI n m n = stN n m := by
  apply List.ext_getElem
  · simp [stI, stN]
  · intro j h1 h2
    have : j < n := by simpa [stI] using h1
    simp [stI, stN, this]
theorem stI_set (n m i : Nat) (h : i < n) : (stI n m i).set i (m.testBit i) = stI n m (i + 1) := by
  apply List.ext_getElem
  · simp [stI]
  · intro j h1 h2
    by_cases e : j = i
    · subst e
      rw [List.getElem_set_self]
      simp [stI]
    · rw [List.getElem_set_ne (by omega)]
      simp only [stI, List.getElem_map, List.getElem_range]
      by_cases d : j < i
      · rw [if_pos d, if_pos (by omega)]
      · rw [if_neg d, if_neg (by omega)]

/-- The switch that an order turns over. -/
def swO (o : Int) : Nat := o.natAbs - 1
/-- What follows from orders i, i + 1, .. on. -/
def run (rs : List RU) (n : Nat) (os : List Int) : Nat → Nat → Nat → List Bool × Int × Int
  | _, 0, m => (stN n m, 0, 0)
  | i, d + 1, m => if swO (rd os (i : Int)) < n then (if ordM m (swO (rd os (i : Int))) = rd os (i : Int) then (if okM rs (m ^^^ 2 ^ swO (rd os (i : Int))) = true then run rs n os (i + 1) d (m ^^^ 2 ^ swO (rd os (i : Int))) else ([], (i : Int), 6)) else ([], (i : Int), 6)) else ([], (i : Int), 6)
theorem run_len (rs : List RU) (n : Nat) (os : List Int) : ∀ d i m, (run rs n os i d m).1.length ≤ n
  | 0, i, m => by simp [run, stN_len]
  | d + 1, i, m => by
    have h := run_len rs n os d (i + 1) (m ^^^ 2 ^ swO (rd os (i : Int)))
    unfold run
    by_cases c1 : swO (rd os (i : Int)) < n
    · rw [if_pos c1]
      by_cases c2 : ordM m (swO (rd os (i : Int))) = rd os (i : Int)
      · rw [if_pos c2]
        by_cases c3 : okM rs (m ^^^ 2 ^ swO (rd os (i : Int))) = true
        · rw [if_pos c3]; exact h
        · rw [if_neg c3]; simp
      · rw [if_neg c2]; simp
    · rw [if_neg c1]; simp
theorem validOrders_at {os : List Int} (h : validOrders os = true) (i : Nat) (hi : i < os.length) : rd os (i : Int) ≠ 0 ∧ -8 ≤ rd os (i : Int) ∧ rd os (i : Int) ≤ 8 := by
  unfold validOrders at h
  simp only [Bool.and_eq_true] at h
  have := allB_true.1 h.1 i hi
  unfold okO at this
  simp only [Bool.and_eq_true, decide_eq_true_eq, Bool.not_eq_true', decide_eq_false_iff_not] at this
  exact ⟨this.1, this.2.1, this.2.2⟩
theorem run_spec (rs : List RU) (n : Nat) (x0 : List Bool) (h0 : x0.length = n) (os : List Int) (c : validRules (n : Int) rs = true) (co : validOrders os = true) :
    ∀ d i (m : Nat), i + d = os.length → m < 2 ^ 62 → Ev (fun k => spec_RunOrders.l0 k x0 os rs (stN n m) (i : Int)) (run rs n os i d m) := by
  have hn := validRules_n c
  have hol := validOrders_len co
  intro d
  induction d with
  | zero =>
    intro i m hi hm
    refine Ev.succ ?_
    simp only [spec_RunOrders.l0, if_neg (show ¬ (i : Int) < (os.length : Int) by omega), run]
    exact Ev.now _
  | succ d ih =>
    intro i m hi hm
    have ha := validOrders_at co i (by omega)
    refine Ev.succ ?_
    have e1 : spec_l00Max.f (rd os (i : Int)) (wrap64 (-(rd os (i : Int)))) = some ((swO (rd os (i : Int)) : Int) + 1) := by
      unfold spec_l00Max.f swO
      rw [w64 (x := -(rd os (i : Int))) (by omega) (by omega)]
      by_cases c1 : rd os (i : Int) > -(rd os (i : Int))
      · rw [if_pos c1]; congr 1; omega
      · rw [if_neg c1]; congr 1; omega
    have e2 : wrap64 ((swO (rd os (i : Int)) : Int) + 1 - 1) = (swO (rd os (i : Int)) : Int) := by
      unfold swO
      rw [w64] <;> omega
    simp only [spec_RunOrders.l0, if_pos (show (i : Int) < (os.length : Int) by omega), if_pos (show 0 ≤ (i : Int) by omega), e1, Option.bind_some, e2]
    unfold run
    generalize hsw : swO (rd os (i : Int)) = s
    have hs8 : s < 8 := by rw [← hsw]; unfold swO; omega
    by_cases c1 : s < n
    · rw [if_pos c1]
      simp only [if_neg (show ¬ (s : Int) ≥ (x0.length : Int) by omega), specOrder_eq n m s c1 (by omega), Option.bind_some]
      by_cases c2 : ordM m s = rd os (i : Int)
      · rw [if_pos c2]
        simp only [show (ordM m s != rd os (i : Int)) = false from by rw [c2]; simp]
        refine Ev.succ ?_
        simp only [spec_RunOrders.j1, Bool.false_eq_true, if_false, own_eq n m s c1 (by omega), Option.bind_some]
        refine Ev.bind (specKeeps_ev rs n _ c) ?_
        by_cases c3 : okM rs (m ^^^ 2 ^ s) = true
        · simp only [if_pos c3, w64s (show i < 9223372036854775807 by omega)]
          exact ih (i + 1) _ (by omega) (turn_lt hm (by omega))
        · simp only [if_neg c3]; exact Ev.now _
      · rw [if_neg c2]
        simp only [show (ordM m s != rd os (i : Int)) = true from by simpa using c2]
        refine Ev.succ ?_
        simp only [spec_RunOrders.j1, if_true]; exact Ev.now _
    · rw [if_neg c1]
      simp only [if_pos (show (s : Int) ≥ (x0.length : Int) by omega)]
      refine Ev.succ ?_
      simp only [spec_RunOrders.j1, if_true]; exact Ev.now _
theorem implStates_ev (n m : Nat) (hn : n ≤ 60) (hm : m < 2 ^ 62) : Ev (fun k => impl_switches_states.f k (m : Int) (n : Int)) (stN n m) := by
  unfold impl_switches_states.f
  simp only [if_pos (show 0 ≤ (n : Int) by omega), Int.toNat_natCast, if_pos (show n ≤ 281474976710656 by omega), Option.bind_some, List.length_replicate]
  have h := fold_from (fun k (s : List Bool) i => impl_switches_states.l0 k (m : Int) s (n : Int) i) 0 n (fun i => stI n m i) (stN n m) (Nat.zero_le _) (fun i _ hi r hr => Ev.succ ?_) (Ev.succ ?_)
  · simpa [stI_0] using h
  · have hs := stI_set n m i hi
    have e2 : ((if m.testBit i = true then (1 : Int) else 0) == 1) = m.testBit i := by cases m.testBit i <;> rfl
    simp only [impl_switches_states.l0, if_pos (show (i : Int) < (n : Int) by omega), if_pos (show 0 ≤ (i : Int) by omega), stI_len, Int.toNat_natCast, tb m i hm (show i ≤ 61 by omega), e2, hs, w64s (show i < 9223372036854775807 by omega)]
    exact hr
  · simp only [impl_switches_states.l0, if_neg (show ¬ (n : Int) < (n : Int) by omega), stI_n]; exact Ev.now _
theorem run_impl (rs : List RU) (n : Nat) (x0 : List Bool) (h0 : x0.length = n) (os : List Int) (c : validRules (n : Int) rs = true) (co : validOrders os = true) :
    ∀ d i (m : Nat), i + d = os.length → m < 2 ^ 62 → Ev (fun k => impl_RunOrders.l0 k x0 rs (m : Int) os (os.length : Int) (i : Int)) (run rs n os i d m) := by
  have hn := validRules_n c
  have hol := validOrders_len co
  intro d
  induction d with
  | zero =>
    intro i m hi hm
    refine Ev.succ ?_
    simp only [impl_RunOrders.l0, if_neg (show ¬ (i : Int) < (os.length : Int) by omega), run, h0]
    exact Ev.bind (implStates_ev n m (by omega) hm) (Ev.now _)
  | succ d ih =>
    intro i m hi hm
    have ha := validOrders_at co i (by omega)
    refine Ev.succ ?_
    have e1 : impl_abs.f (rd os (i : Int)) = some ((swO (rd os (i : Int)) : Int) + 1) := by
      unfold impl_abs.f swO mx
      rw [w64 (x := -(rd os (i : Int))) (by omega) (by omega)]
      by_cases c1 : rd os (i : Int) < -(rd os (i : Int))
      · rw [if_pos c1]; congr 1; omega
      · rw [if_neg c1]; congr 1; omega
    have e2 : wrap64 ((swO (rd os (i : Int)) : Int) + 1 - 1) = (swO (rd os (i : Int)) : Int) := by
      unfold swO
      rw [w64] <;> omega
    simp only [impl_RunOrders.l0, if_pos (show (i : Int) < (os.length : Int) by omega), if_pos (show 0 ≤ (i : Int) by omega), e1, Option.bind_some, e2]
    unfold run
    generalize hsw : swO (rd os (i : Int)) = s
    have hs8 : s < 8 := by rw [← hsw]; unfold swO; omega
    by_cases c1 : s < n
    · rw [if_pos c1]
      simp only [if_neg (show ¬ (s : Int) ≥ (x0.length : Int) by omega), implOrder_eq m s hm (by omega), Option.bind_some]
      by_cases c2 : ordM m s = rd os (i : Int)
      · rw [if_pos c2]
        simp only [if_pos c2, if_pos (show 0 ≤ (s : Int) by omega), turn_eq m s hm (by omega), allowed_eq rs n _ c (turn_lt hm (show s ≤ 61 by omega)), Option.bind_some]
        by_cases c3 : okM rs (m ^^^ 2 ^ s) = true
        · simp only [if_pos c3, w64s (show i < 9223372036854775807 by omega)]
          exact ih (i + 1) _ (by omega) (turn_lt hm (by omega))
        · simp only [if_neg c3]; exact Ev.now _
      · rw [if_neg c2]
        simp only [if_neg c2]; exact Ev.now _
    · rw [if_neg c1]
      simp only [if_pos (show (s : Int) ≥ (x0.length : Int) by omega)]
      exact Ev.now _
def res (xs : List Bool) (os : List Int) (rs : List RU) : List Bool × Int × Int := if validRules (xs.length : Int) rs = true then (if validOrders os = true then run rs xs.length os 0 os.length (setN xs xs.length) else ([], 0, 7)) else ([], 0, 1)
theorem res_len (xs : List Bool) (os : List Int) (rs : List RU) : (res xs os rs).1.length ≤ xs.length := by
  unfold res; split
  · split
    · exact run_len _ _ _ _ _ _
    · simp
  · simp
theorem spec_ev (xs : List Bool) (os : List Int) (rs : List RU) (ho : os.length < 9223372036854775807) (h : rs.length < 9223372036854775807) : Ev (fun k => spec_RunOrders.f k xs os rs) (res xs os rs) := by
  unfold spec_RunOrders.f res
  refine Ev.bind (specRules_ev _ rs h) ?_
  by_cases c : validRules (xs.length : Int) rs = true
  · simp only [if_pos c]
    have hn := validRules_n c
    refine Ev.bind (specOrders_ev os ho) ?_
    by_cases co : validOrders os = true
    · simp only [if_pos co, Option.bind_some, List.nil_append, List.length_nil, if_pos (show 0 + xs.length < 140737488355328 by omega)]
      have h2 := run_spec rs xs.length xs rfl os c co os.length 0 (setN xs xs.length) (by omega) (setN_lt62 xs xs.length (by omega))
      rw [stN_setN] at h2
      exact h2
    · simp only [if_neg co]; exact Ev.now _
  · simp only [if_neg c]; exact Ev.now _
theorem impl_ev (xs : List Bool) (os : List Int) (rs : List RU) (ho : os.length < 9223372036854775807) (h : rs.length < 9223372036854775807) : Ev (fun k => impl_RunOrders.f k xs os rs) (res xs os rs) := by
  unfold impl_RunOrders.f res
  refine Ev.bind (implRules_ev _ rs h) ?_
  by_cases c : validRules (xs.length : Int) rs = true
  · simp only [if_pos c]
    have hn := validRules_n c
    refine Ev.bind (implOrders_ev os ho) ?_
    by_cases co : validOrders os = true
    · simp only [if_pos co]
      refine Ev.bind (switchSet_ev xs (by omega)) ?_
      exact run_impl rs xs.length xs rfl os c co os.length 0 (setN xs xs.length) (by omega) (setN_lt62 xs xs.length (by omega))
    · simp only [if_neg co]; exact Ev.now _
  · simp only [if_neg c]; exact Ev.now _
end Go.Proofs.Ytnmehknpphoolaa.PFnExactRunOrders
namespace Go.Proofs.Ytnmehknpphoolaa.Pure
open Go.RowKit Go.Proofs.YtnmehknpphoolaaW.PrintWords Go.Proofs.YtnmehknpphoolaaW.PLib Go.Proofs.Ytnmehknpphoolaa.PFnExactRunOrders

theorem FnExactRunOrders : PFnExactRunOrders.Pure := by
  intro xs os rs hx ho hy
  obtain ⟨_, hxl, _⟩ := hx
  obtain ⟨_, hol, _⟩ := ho
  obtain ⟨_, hl, _⟩ := hy
  have hs : (rs.map cvRule).length < 9223372036854775807 := by simp; omega
  have hr := res_len xs os (rs.map cvRule)
  obtain ⟨r, hz⟩ := szRule_ev rs 1048576 (by omega)
  obtain ⟨xm, hm1⟩ := markBools_ev xs 1 (by omega) (by omega) (by omega)
  obtain ⟨om, hm3⟩ := markIntsFrom_ev os (1 + (xs.length : Int)) (by omega) (by omega) (by omega)
  obtain ⟨rm, hm2⟩ := markRuleFrom_ev (rs.map cvRule) (1 + (xs.length : Int) + (os.length : Int)) (by omega) (by omega) (by simp; omega)
  refine Ev.get ?_
  unfold laws_FnExactRunOrders.f
  by_cases cp : (xs.length : Int) > 1048576
  · simp only [if_pos cp]; exact Ev.now _
  simp only [if_neg cp]
  by_cases cq : (os.length : Int) > 1048576
  · simp only [if_pos cq]; exact Ev.now _
  simp only [if_neg cq]
  simp only [hz, Option.bind_some]
  by_cases c : r < 0
  · simp only [if_pos c]; exact Ev.now _
  simp only [if_neg c]
  refine Ev.bind (toBools_ev xs (by omega)) (Ev.bind (toInts_ev os (by omega)) (Ev.bind (toRule_ev rs hl) (Ev.bind (spec_ev _ _ _ (by omega) hs) (Ev.bind (toBools_ev xs (by omega)) (Ev.bind (toInts_ev os (by omega)) (Ev.bind (toRule_ev rs hl) (Ev.bind (impl_ev _ _ _ (by omega) hs) (Ev.bind (eqBools_ev _ (by omega)) ?_))))))))
  simp only [if_true, bne_self_eq_false]
  refine Ev.succ ?_
  simp only [laws_FnExactRunOrders.j0, Bool.false_eq_true, if_false]
  refine Ev.bind (toBools_ev xs (by omega)) (Ev.bind (eqBools_ev _ (by omega)) ?_)
  simp only [if_true]
  refine Ev.bind (toInts_ev os (by omega)) (Ev.bind (eqInts_ev _ (by omega)) ?_)
  simp only [if_true]
  refine Ev.bind (toRule_ev rs hl) (Ev.bind (eqRule_ev _ hs) ?_)
  simp only [if_true]
  refine Ev.bind hm1 (Ev.bind hm3 (Ev.bind hm2 ?_))
  simp only [if_neg (show ¬ 1 + (xs.length : Int) + (os.length : Int) + 3 * ((rs.map cvRule).length : Int) < 0 by omega)]
  refine Ev.bind (eqBools_ev _ (by omega)) ?_
  simp only [if_true, bne_self_eq_false]
  refine Ev.succ ?_
  simp only [laws_FnExactRunOrders.j1, Bool.false_eq_true, if_false]
  refine Ev.bind (markB_ev _ (by omega)) (Ev.bind (heldB_ev _ (by omega)) ?_)
  simp only [if_neg (show ¬ ((res xs os (rs.map cvRule)).1.length : Int) + 1 < 0 by omega), if_true]
  refine Ev.bind (toBools_ev xs (by omega)) (Ev.bind (toInts_ev os (by omega)) (Ev.bind (toRule_ev rs hl) (Ev.bind (impl_ev _ _ _ (by omega) hs) (Ev.bind (eqBools_ev _ (by omega)) ?_))))
  simp only [if_true, bne_self_eq_false]
  refine Ev.succ ?_
  simp only [laws_FnExactRunOrders.j2, Bool.false_eq_true, if_false]
  refine Ev.bind (heldB_ev _ (by omega)) ?_
  simp only [if_neg (show ¬ ((res xs os (rs.map cvRule)).1.length : Int) + 1 < 0 by omega), if_true]
  exact Ev.now _
end Go.Proofs.Ytnmehknpphoolaa.Pure

