/- The law FnExactCountAllowed, in numbers and lists alone: the program's CountAllowed and the reference's give one answer, and the rules stay as they were. No condition. -/
import Derived.Test.YtjdoejgcimnpjaaQFnExactCountAllowed
import Derived.Test.YtjdoejgcimnpjaaPLib
set_option linter.unusedVariables false
set_option linter.unusedSimpArgs false
namespace Go.Proofs.Ytjdoejgcimnpjaa.PFnExactCountAllowed
open Go.RowKit Go.Proofs.YtjdoejgcimnpjaaW.PrintWords Go.Proofs.YtjdoejgcimnpjaaW.PLib

theorem l00In_eq (a b c : Int) : spec_l00In.f a b c = some (decide (b ≤ a) && decide (a ≤ c)) := by
  unfold spec_l00In.f; by_cases h : a ≥ b
  · rw [if_pos h]; simp [show b ≤ a from h]
  · rw [if_neg h]; simp [show ¬ b ≤ a from h]

theorem within_eq (a b c : Int) : impl_within.f a b c = some (decide (b ≤ a) && decide (a ≤ c)) := by
  unfold impl_within.f; by_cases h : a ≥ b
  · rw [if_pos h]; simp [show b ≤ a from h]
  · rw [if_neg h]; simp [show ¬ b ≤ a from h]

/-! Rule -/
theorem rdl_Rule (xs : List S103) (i : Nat) (h : i < xs.length) : rd_T103 xs (i : Int) = xs[i] := by unfold rd_T103; exact getD_cast xs i h _
theorem rdi_Rule (xs : List S101) (i : Nat) (h : i < xs.length) : rd_T101 xs (i : Int) = xs[i] := by unfold rd_T101; exact getD_cast xs i h _
theorem rd1_Rule (x : S101) : rd_T101 [x] 0 = x := rfl
def cvRule (x : S103) : S101 := ⟨x.f0, x.f1, x.f2⟩
theorem toRule_ev (xs : List S103) (hl : xs.length * 24 ≤ 140737488351232) : Ev (fun k => laws_toRuleS.f k xs) (xs.map cvRule) := by
  refine ⟨xs.length + 1, fun k hk => ?_⟩
  simp only [laws_toRuleS.f]
  rw [if_pos (by omega), if_pos (by omega)]
  refine to_loop (fun k ys i => laws_toRuleS.l0 k xs ys i) xs cvRule (fun k ys i h hy => ?_) (fun k ys hy => ?_) _ (by simp) k (by omega)
  · simp only [laws_toRuleS.l0]
    rw [if_pos (by omega), if_pos (by omega)]
    simp only [laws_toRule.f, Option.bind_some, rdl_Rule xs i h]
    rw [if_pos (by omega), w64s (by omega)]
    rfl
  · simp only [laws_toRuleS.l0]
    rw [if_neg (by omega)]
theorem eqRule_ev (xs : List S101) (hl : xs.length < 9223372036854775807) : Ev (fun k => laws_eqRuleS.f k xs xs) true := by
  unfold laws_eqRuleS.f
  simp only [if_true]
  have := all_ev (fun k i => laws_eqRuleS.l0 k xs xs i) xs.length true (fun _ => true) (fun i hi => ⟨0, fun k _ => ?_⟩) ⟨0, fun k _ => ?_⟩
  · rw [allB_const] at this; exact this
  · simp only [laws_eqRuleS.l0]
    rw [if_pos (by omega), if_pos (by omega), if_pos (by omega)]
    simp only [laws_eqRule.f, if_true, bne_self_eq_false, Bool.false_eq_true, if_false, Option.bind_some, w64s (show i < 9223372036854775807 by omega)]
  · simp only [laws_eqRuleS.l0]
    rw [if_neg (by omega)]
theorem szRule_ev (xs : List S103) (a : Int) (hl : xs.length < 9223372036854775807) : ∃ r, laws_szRuleS.f xs a = some r := by
  unfold laws_szRuleS.f
  split
  all_goals exact ⟨_, rfl⟩

/-! rules -/
abbrev RU := S101
def okR (m : Int) (r : RU) : Bool := (decide (1 ≤ r.f0) && decide (r.f0 ≤ 3)) && ((decide (0 ≤ r.f1) && decide (r.f1 ≤ m)) && ((decide (0 ≤ r.f2) && decide (r.f2 ≤ m)) && !decide (r.f1 = r.f2)))
def okRs (n : Int) (xs : List RU) (i : Nat) : Bool := if h : i < xs.length then okR (wrap64 (n - 1)) xs[i] else false
def validRules (n : Int) (xs : List RU) : Bool := allB (okRs n xs) xs.length && ((decide (1 ≤ n) && decide (n ≤ 8)) && decide ((xs.length : Int) ≤ 12))
theorem specRules_ev (n : Int) (xs : List RU) (hl : xs.length < 9223372036854775807) : Ev (fun k => spec_l25Rules.f k n xs) (validRules n xs) := by
  unfold spec_l25Rules.f validRules
  refine all_ev (fun k i => spec_l25Rules.l0 k n xs i) xs.length _ (okRs n xs) (fun i h => ⟨0, fun k _ => ?_⟩) ⟨0, fun k _ => ?_⟩
  · simp only [spec_l25Rules.l0]
    rw [if_pos (by omega), if_pos (by omega)]
    rw [show okRs n xs i = okR (wrap64 (n - 1)) xs[i] from by unfold okRs; rw [dif_pos h]]
    simp only [l00In_eq, rdi_Rule xs i h, Option.bind_some, w64s (show i < 9223372036854775807 by omega), okR]
    by_cases c1 : (decide (1 ≤ xs[i].f0) && decide (xs[i].f0 ≤ 3)) = true
    · rw [if_pos c1]
      by_cases c2 : (decide (0 ≤ xs[i].f1) && decide (xs[i].f1 ≤ wrap64 (n - 1))) = true
      · rw [if_pos c2]
        by_cases c3 : (decide (0 ≤ xs[i].f2) && decide (xs[i].f2 ≤ wrap64 (n - 1))) = true
        · rw [if_pos c3]
          by_cases c4 : xs[i].f1 = xs[i].f2
          · rw [if_pos c4]; simp [c4]
          · rw [if_neg c4]; simp only [c1, c2, c3]; simp [c4]
        · rw [if_neg c3]; simp only [Bool.not_eq_true] at c3; simp only [c3]; simp
      · rw [if_neg c2]; simp only [Bool.not_eq_true] at c2; simp only [c2]; simp
    · rw [if_neg c1]; simp only [Bool.not_eq_true] at c1; simp only [c1]; simp
  · simp only [spec_l25Rules.l0]
    rw [if_neg (by omega)]
    simp only [l00In_eq, Option.bind_some]
    by_cases c : (decide (1 ≤ n) && decide (n ≤ 8)) = true
    · rw [if_pos c]; simp [c]
    · rw [if_neg c]; simp only [Bool.not_eq_true] at c; simp [c]
theorem implRules_loop (n : Int) (xs : List RU) (hl : xs.length < 9223372036854775807) : Ev (fun k => impl_ValidRules.l0 k n xs xs.length 0) (allB (okRs n xs) xs.length && true) := by
  refine all_ev (fun k i => impl_ValidRules.l0 k n xs xs.length i) xs.length _ (okRs n xs) (fun i h => ⟨0, fun k _ => ?_⟩) ⟨0, fun k _ => ?_⟩
  · simp only [impl_ValidRules.l0]
    rw [if_pos (by omega), if_pos (by omega), if_pos (by omega)]
    rw [show okRs n xs i = okR (wrap64 (n - 1)) xs[i] from by unfold okRs; rw [dif_pos h]]
    simp only [within_eq, rdi_Rule xs i h, Option.bind_some, w64s (show i < 9223372036854775807 by omega), okR]
    by_cases c1 : (decide (1 ≤ xs[i].f0) && decide (xs[i].f0 ≤ 3)) = true
    · rw [if_pos c1]
      by_cases c2 : (decide (0 ≤ xs[i].f1) && decide (xs[i].f1 ≤ wrap64 (n - 1))) = true
      · rw [if_pos c2]
        by_cases c3 : (decide (0 ≤ xs[i].f2) && decide (xs[i].f2 ≤ wrap64 (n - 1))) = true
        · rw [if_pos c3]
          by_cases c4 : xs[i].f1 = xs[i].f2
          · rw [if_pos c4]; simp [c4]
          · rw [if_neg c4]; simp only [c1, c2, c3]; simp [c4]
        · rw [if_neg c3]; simp only [Bool.not_eq_true] at c3; simp only [c3]; simp
      · rw [if_neg c2]; simp only [Bool.not_eq_true] at c2; simp only [c2]; simp
    · rw [if_neg c1]; simp only [Bool.not_eq_true] at c1; simp only [c1]; simp
  · simp only [impl_ValidRules.l0]
    rw [if_neg (by omega)]
theorem implRules_ev (n : Int) (xs : List RU) (hl : xs.length < 9223372036854775807) : Ev (fun k => impl_ValidRules.f k n xs) (validRules n xs) := by
  obtain ⟨k0, h0⟩ := implRules_loop n xs hl
  refine ⟨k0 + 2, fun k hk => ?_⟩
  obtain ⟨k, rfl⟩ : ∃ m, k = m + 1 := ⟨k - 1, by omega⟩
  simp only [impl_ValidRules.f, within_eq, Option.bind_some]
  unfold validRules
  by_cases c : (decide (1 ≤ n) && decide (n ≤ 8)) = true
  · rw [if_pos c]
    simp only [impl_ValidRules.j0]
    by_cases c2 : (xs.length : Int) > 12
    · rw [if_pos (decide_eq_true c2)]
      rw [decide_eq_false (show ¬ (xs.length : Int) ≤ 12 by omega)]; simp
    · rw [if_neg (by simpa using c2), show impl_ValidRules.l0 k n xs (xs.length : Int) 0 = _ from h0 k (by omega)]
      rw [decide_eq_true (show (xs.length : Int) ≤ 12 by omega), c]; simp
  · rw [if_neg c]
    simp only [impl_ValidRules.j0]
    simp only [Bool.not_eq_true] at c
    simp [c]
theorem validRules_n {n : Int} {xs : List RU} (h : validRules n xs = true) : 1 ≤ n ∧ n ≤ 8 ∧ xs.length ≤ 12 := by
  unfold validRules at h
  simp only [Bool.and_eq_true, decide_eq_true_eq] at h
  exact ⟨h.2.1.1, h.2.1.2, by omega⟩
theorem validRules_at {n : Int} {xs : List RU} (h : validRules n xs = true) (i : Nat) (hi : i < xs.length) :
    (1 ≤ xs[i].f0 ∧ xs[i].f0 ≤ 3) ∧ (0 ≤ xs[i].f1 ∧ xs[i].f1 < n) ∧ (0 ≤ xs[i].f2 ∧ xs[i].f2 < n) ∧ xs[i].f1 ≠ xs[i].f2 := by
  have hn := validRules_n h
  unfold validRules at h
  simp only [Bool.and_eq_true] at h
  have := allB_true.1 h.1 i hi
  unfold okRs at this
  rw [dif_pos hi, w64 (by omega) (by omega)] at this
  unfold okR at this
  simp only [Bool.and_eq_true, decide_eq_true_eq, Bool.not_eq_true', decide_eq_false_iff_not] at this
  exact ⟨this.1, ⟨this.2.1.1, by omega⟩, ⟨this.2.2.1.1, by omega⟩, this.2.2.2⟩

/-! switches, as a list and as bits -/
theorem wr62 (n : Int) (h0 : 0 ≤ n) (h1 : n < 2 ^ 62) : IntKind.i64.wrap n = n := by rw [IntKind.wrap_i64]; omega
theorem tb (a i : Nat) (ha : a < 2 ^ 62) (hi : i ≤ 61) : Go.bits .and .i64 (shr .i64 (a : Int) (i : Int)) 1 = if a.testBit i = true then 1 else 0 := by
  have e : shr .i64 (a : Int) (i : Int) = ((a / 2 ^ i : Nat) : Int) := by
    unfold shr
    rw [show ((i : Int)).toNat = i by omega, show min i IntKind.i64.bits = i from Nat.min_eq_left (show i ≤ 64 by omega)]
    simp
  have h := (bits_nat .i64 62 (by decide) wr62 (a / 2 ^ i) 1 (Nat.lt_of_le_of_lt (Nat.div_le_self _ _) ha) (by decide)).1
  rw [e, show (1 : Int) = ((1 : Nat) : Int) from rfl, h, Nat.and_one_is_mod, Nat.testBit_eq_decide_div_mod_eq]
  by_cases c : a / 2 ^ i % 2 = 1
  · rw [if_pos (by simpa using c), c]
  · rw [if_neg (by simpa using c)]
    omega
theorem shl1 (i : Nat) (hi : i ≤ 61) : shl .i64 1 (i : Int) = ((2 ^ i : Nat) : Int) := by
  unfold shl
  rw [show ((i : Int)).toNat = i by omega, show min i IntKind.i64.bits = i from Nat.min_eq_left (show i ≤ 64 by omega), Int.one_mul]
  have h : (2 : Nat) ^ i < 2 ^ 62 := Nat.pow_lt_pow_right (by omega) (by omega)
  have h2 : ((2 ^ i : Nat) : Int) < 2 ^ 62 := by exact_mod_cast h
  rw [show (2 : Int) ^ i = ((2 ^ i : Nat) : Int) by simp]
  exact wr62 _ (Int.natCast_nonneg _) h2
/-- The number whose bits are the first i switches. -/
def setN (xs : List Bool) : Nat → Nat
  | 0 => 0
  | i + 1 => if rdOf false xs (i : Int) = true then setN xs i ||| 2 ^ i else setN xs i
theorem setN_lt (xs : List Bool) : ∀ i, setN xs i < 2 ^ i
  | 0 => by simp [setN]
  | i + 1 => by
    have h := setN_lt xs i
    have h2 : (2 : Nat) ^ (i + 1) = 2 ^ i * 2 := Nat.pow_succ 2 i
    unfold setN
    split
    · exact Nat.or_lt_two_pow (by omega) (by have := Nat.two_pow_pos i; omega)
    · omega
theorem setN_bit (xs : List Bool) (j : Nat) : ∀ i, (setN xs i).testBit j = (decide (j < i) && rdOf false xs (j : Int))
  | 0 => by simp [setN]
  | i + 1 => by
    have h := setN_bit xs j i
    unfold setN
    by_cases e : j = i
    · subst e
      split
      · rename_i c; rw [Nat.testBit_or, Nat.testBit_two_pow_self, Bool.or_true, decide_eq_true (by omega), c]; rfl
      · rename_i c; rw [h, decide_eq_false (by omega)]; simp only [Bool.not_eq_true] at c; rw [c]; simp
    · split
      · rw [Nat.testBit_or, h, Nat.testBit_two_pow_of_ne (by omega), Bool.or_false]
        by_cases c : j < i
        · rw [decide_eq_true c, decide_eq_true (by omega)]
        · rw [decide_eq_false c, decide_eq_false (by omega)]
      · rw [h]
        by_cases c : j < i
        · rw [decide_eq_true c, decide_eq_true (by omega)]
        · rw [decide_eq_false c, decide_eq_false (by omega)]
theorem setN_lt62 (xs : List Bool) (i : Nat) (h : i ≤ 61) : setN xs i < 2 ^ 62 := Nat.lt_of_lt_of_le (setN_lt xs i) (Nat.pow_le_pow_right (by omega) (by omega))

/-- Is a rule broken where its two switches stand so? -/
def brk (kind : Int) (a b : Bool) : Bool := if kind = 1 then a && b else if kind = 2 then !a && !b else a && !b
theorem specBreaks_eq (xs : List Bool) (kind i j : Int) (h1 : 0 ≤ i) (h2 : i < (xs.length : Int)) (h3 : 0 ≤ j) (h4 : j < (xs.length : Int)) :
    spec_l25Breaks.f xs kind i j = some (brk kind (rdOf false xs i) (rdOf false xs j)) := by
  unfold spec_l25Breaks.f brk
  rw [if_pos h1, if_pos h2, if_pos h3, if_pos h4]
  by_cases c1 : kind = 1
  · rw [if_pos c1, if_pos c1]; cases rdOf false xs i <;> rfl
  · rw [if_neg c1, if_neg c1]
    by_cases c2 : kind = 2
    · rw [if_pos c2, if_pos c2]; cases rdOf false xs i <;> rfl
    · rw [if_neg c2, if_neg c2]; cases rdOf false xs i <;> rfl

/-! the rules over a set of switches that is a number -/
theorem implBreaksN (m : Nat) (hm : m < 2 ^ 62) (kind i j : Int) (h1 : 0 ≤ i) (h2 : i ≤ 61) (h3 : 0 ≤ j) (h4 : j ≤ 61) :
    impl_switches_breaks.f (m : Int) kind i j = some (brk kind (m.testBit i.toNat) (m.testBit j.toNat)) := by
  obtain ⟨a, rfl⟩ := Int.eq_ofNat_of_zero_le h1
  obtain ⟨b, rfl⟩ := Int.eq_ofNat_of_zero_le h3
  unfold impl_switches_breaks.f brk
  rw [if_pos h1, if_pos h3, tb m a hm (by omega), tb m b hm (by omega)]
  simp only [Int.toNat_natCast]
  by_cases c1 : kind = 1
  · rw [if_pos c1, if_pos c1]; cases m.testBit a <;> cases m.testBit b <;> rfl
  · rw [if_neg c1, if_neg c1]
    by_cases c2 : kind = 2
    · rw [if_pos c2, if_pos c2]; cases m.testBit a <;> cases m.testBit b <;> rfl
    · rw [if_neg c2, if_neg c2]; cases m.testBit a <;> cases m.testBit b <;> rfl
def stN (n m : Nat) : List Bool := (List.range n).map fun j => m.testBit j
theorem stN_len (n m : Nat) : (stN n m).length = n := by simp [stN]
theorem stN_at (n m : Nat) (j : Int) (h0 : 0 ≤ j) (h1 : j < (n : Int)) : rdOf false (stN n m) j = m.testBit j.toNat := by
  obtain ⟨a, rfl⟩ := Int.eq_ofNat_of_zero_le h0
  rw [rdOf_cast _ a (by rw [stN_len]; omega)]
  simp [stN]
def badM (m : Nat) (rs : List RU) (i : Nat) : Bool := brk (rd_T101 rs (i : Int)).f0 (m.testBit (rd_T101 rs (i : Int)).f1.toNat) (m.testBit (rd_T101 rs (i : Int)).f2.toNat)
def okM (rs : List RU) (m : Nat) : Bool := allB (fun i => !(badM m rs i)) rs.length
theorem specKeeps_ev (rs : List RU) (n m : Nat) (h : validRules (n : Int) rs = true) : Ev (fun k => spec_l25Keeps.f k (stN n m) rs) (okM rs m) := by
  have hn := validRules_n h
  unfold spec_l25Keeps.f okM
  have h := all_ev (fun k i => spec_l25Keeps.l0 k (stN n m) rs i) rs.length true (fun i => !(badM m rs i)) (fun i hi => ⟨0, fun k _ => ?_⟩) ⟨0, fun k _ => ?_⟩
  · rw [Bool.and_true] at h; exact h
  · have ha := validRules_at h i hi
    have e : spec_l25Breaks.f (stN n m) (rd_T101 rs (i : Int)).f0 (rd_T101 rs (i : Int)).f1 (rd_T101 rs (i : Int)).f2 = some (badM m rs i) := by
      unfold badM
      rw [rdi_Rule rs i hi, specBreaks_eq _ _ _ _ ha.2.1.1 (by rw [stN_len]; exact ha.2.1.2) ha.2.2.1.1 (by rw [stN_len]; exact ha.2.2.1.2), stN_at n m _ ha.2.1.1 ha.2.1.2, stN_at n m _ ha.2.2.1.1 ha.2.2.1.2]
    simp only [spec_l25Keeps.l0, if_pos (show (i : Int) < (rs.length : Int) by omega), if_pos (show 0 ≤ (i : Int) by omega), e, Option.bind_some, w64s (show i < 9223372036854775807 by omega)]
    cases badM m rs i <;> rfl
  · simp only [spec_l25Keeps.l0, if_neg (show ¬ (rs.length : Int) < (rs.length : Int) by omega)]
theorem allowed_eq (rs : List RU) (n m : Nat) (h : validRules (n : Int) rs = true) (hm : m < 2 ^ 62) : impl_switches_allowed.f (m : Int) rs = some (okM rs m) := by
  have hn := validRules_n h
  have hb : ∀ i (hi : i < rs.length), impl_switches_breaks.f (m : Int) rs[i].f0 rs[i].f1 rs[i].f2 = some (badM m rs i) := fun i hi => by
    have ha := validRules_at h i hi
    rw [implBreaksN m hm _ _ _ ha.2.1.1 (by omega) ha.2.2.1.1 (by omega)]
    unfold badM
    rw [rdi_Rule rs i hi]
  unfold impl_switches_allowed.f
  rw [if_pos (by
    rw [List.all_eq_true]
    intro x hx
    obtain ⟨i, hi, rfl⟩ := List.getElem_of_mem hx
    rw [hb i hi]; rfl)]
  congr 1
  unfold okM
  rw [Bool.eq_iff_iff, allB_true]
  simp only [Bool.not_eq_true', List.any_eq_false]
  constructor
  · intro h2 i hi
    have := h2 rs[i] (List.getElem_mem hi)
    rw [hb i hi] at this
    simpa using this
  · intro h2 x hx
    obtain ⟨i, hi, rfl⟩ := List.getElem_of_mem hx
    rw [hb i hi]
    have := h2 i hi
    simpa using this

def stI (n m i : Nat) : List Bool := (List.range n).map fun j => if j < i then m.testBit j else false
theorem stI_len (n m i : Nat) : (stI n m i).length = n := by simp [stI]
theorem stI_0 (n m : Nat) : stI n m 0 = List.replicate n false := by
  apply List.ext_getElem
  · simp [stI]
  · intro j h1 h2; simp [stI]
theorem stI_n (n m : Nat) : stI n m n = stN n m := by
  apply List.ext_getElem
  · simp [stI, stN]
  · intro j h1 h2
    have : j < n := by simpa [stI] using h1
    simp [stI, stN, this]
theorem stI_set (n m i : Nat) (h : i < n) : (stI n m i).set i (m.testBit i) = stI n m (i + 1) := by
  apply List.ext_getElem
  · simp [stI]
  · intro j h1 h2
    by_cases e : j = i
    · subst e
      rw [List.getElem_set_self]
      simp [stI]
    · rw [List.getElem_set_ne (by omega)]
      simp only [stI, List.getElem_map, List.getElem_range]
      by_cases d : j < i
      · rw [if_pos d, if_pos (by omega)]
      · rw [if_neg d, if_neg (by omega)]
theorem states_ev (n m : Nat) (hn : n ≤ 60) (hm : m < 2 ^ 62) : Ev (fun k => spec_l25States.f k (n : Int) (m : Int)) (stN n m) := by
  unfold spec_l25States.f
  simp only [if_pos (show 0 ≤ (n : Int) by omega), Int.toNat_natCast, if_pos (show n ≤ 281474976710656 by omega)]
  have h := fold_from (fun k (s : Int × List Bool) i => spec_l25States.l0 k (n : Int) s.1 s.2 i) 0 n (fun i => (((m / 2 ^ i : Nat) : Int), stI n m i)) (stN n m) (Nat.zero_le _) (fun i _ hi r hr => Ev.succ ?_) (Ev.succ ?_)
  · simpa [stI_0] using h
  · have hq : m / 2 ^ i ≤ m := Nat.div_le_self _ _
    have e1 : wrap64 (Int.tdiv ((m / 2 ^ i : Nat) : Int) 2) = ((m / 2 ^ (i + 1) : Nat) : Int) := by
      rw [Nat.pow_succ, ← Nat.div_div_eq_div_mul]
      generalize m / 2 ^ i = q at hq
      rw [Int.tdiv_eq_ediv_of_nonneg (by omega), w64 (by omega) (by omega)]
      omega
    have e2 : ((Int.tmod ((m / 2 ^ i : Nat) : Int) 2) == 1) = m.testBit i := by
      rw [Nat.testBit_eq_decide_div_mod_eq]
      generalize m / 2 ^ i = q
      rw [Int.tmod_eq_emod_of_nonneg (by omega)]
      by_cases c : q % 2 = 1
      · rw [decide_eq_true c]; simp; omega
      · rw [decide_eq_false c]; simp; omega
    have hs := stI_set n m i hi
    simp only at hr
    simp only [spec_l25States.l0, if_pos (show (i : Int) < (n : Int) by omega), if_pos (show 0 ≤ (i : Int) by omega), stI_len, Int.toNat_natCast, e1, e2, hs, w64s (show i < 9223372036854775807 by omega)]
    exact hr
  · simp only [spec_l25States.l0, if_neg (show ¬ (n : Int) < (n : Int) by omega), stI_n]; exact Ev.now _

def cnt (rs : List RU) : Nat → Int
  | 0 => 0
  | i + 1 => if okM rs i = true then wrap64 (cnt rs i + 1) else cnt rs i
def res (n : Int) (rs : List RU) : Int × Int := if validRules n rs = true then (cnt rs (2 ^ n.toNat), 0) else (0, 1)
theorem u64w (n : Int) (h0 : 0 ≤ n) (h1 : n ≤ 64) : IntKind.u64.wrap n = n := by simp [IntKind.wrap, IntKind.bits, IntKind.signed]; omega
theorem pow8 (n : Nat) (h : n ≤ 8) : 2 ^ n ≤ 256 := Nat.pow_le_pow_right (n := 2) (by omega) h
theorem spec_ev (n : Int) (rs : List RU) (h : rs.length < 9223372036854775807) : Ev (fun k => spec_CountAllowed.f k n rs) (res n rs) := by
  unfold spec_CountAllowed.f res
  refine Ev.bind (specRules_ev _ rs h) ?_
  by_cases c : validRules n rs = true
  · simp only [if_pos c]
    have hn := validRules_n c
    obtain ⟨n, rfl⟩ := Int.eq_ofNat_of_zero_le (show 0 ≤ n by omega)
    have p8 := pow8 n (by omega)
    rw [Int.toNat_natCast]
    have e0 : shl .i64 1 (n : Int) = ((2 ^ n : Nat) : Int) := shl1 n (by omega)
    refine fold_from (fun k s i => spec_CountAllowed.l0 k (n : Int) rs s i) 0 (2 ^ n) (cnt rs) _ (Nat.zero_le _) (fun i _ hi r hr => Ev.succ ?_) (Ev.succ ?_)
    · simp only [spec_CountAllowed.l0, u64w (n : Int) (by omega) (by omega), if_pos (show 0 ≤ (n : Int) by omega), e0, if_pos (show (i : Int) < ((2 ^ n : Nat) : Int) from Int.ofNat_lt.2 hi)]
      refine Ev.bind (states_ev n i (by omega) (by omega)) (Ev.bind (specKeeps_ev rs n i c) ?_)
      simp only [w64s (show i < 9223372036854775807 by omega)]
      simp only [cnt] at hr
      by_cases c2 : okM rs i = true
      · simp only [if_pos c2] at hr ⊢; exact hr
      · simp only [if_neg c2] at hr ⊢; exact hr
    · simp only [spec_CountAllowed.l0, u64w (n : Int) (by omega) (by omega), if_pos (show 0 ≤ (n : Int) by omega), e0, if_neg (show ¬ ((2 ^ n : Nat) : Int) < ((2 ^ n : Nat) : Int) from Int.lt_irrefl _)]; exact Ev.now _
  · simp only [if_neg c]; exact Ev.now _
theorem impl_ev (n : Int) (rs : List RU) (h : rs.length < 9223372036854775807) : Ev (fun k => impl_CountAllowed.f k n rs) (res n rs) := by
  unfold impl_CountAllowed.f res
  refine Ev.bind (implRules_ev _ rs h) ?_
  by_cases c : validRules n rs = true
  · simp only [if_pos c]
    have hn := validRules_n c
    obtain ⟨n, rfl⟩ := Int.eq_ofNat_of_zero_le (show 0 ≤ n by omega)
    have p8 := pow8 n (by omega)
    rw [Int.toNat_natCast]
    have e0 : shl .i64 1 (n : Int) = ((2 ^ n : Nat) : Int) := shl1 n (by omega)
    simp only [if_pos (show 0 ≤ (n : Int) by omega), e0]
    refine fold_from (fun k s i => impl_CountAllowed.l0 k rs s ((2 ^ n : Nat) : Int) i) 0 (2 ^ n) (cnt rs) _ (Nat.zero_le _) (fun i _ hi r hr => Ev.succ ?_) (Ev.succ ?_)
    · simp only [impl_CountAllowed.l0, if_pos (show (i : Int) < ((2 ^ n : Nat) : Int) from Int.ofNat_lt.2 hi), allowed_eq rs n i c (by omega), Option.bind_some, w64s (show i < 9223372036854775807 by omega)]
      simp only [cnt] at hr
      by_cases c2 : okM rs i = true
      · simp only [if_pos c2] at hr ⊢; exact hr
      · simp only [if_neg c2] at hr ⊢; exact hr
    · simp only [impl_CountAllowed.l0, if_neg (show ¬ ((2 ^ n : Nat) : Int) < ((2 ^ n : Nat) : Int) from Int.lt_irrefl _)]; exact Ev.now _
  · simp only [if_neg c]; exact Ev.now _
end Go.Proofs.Ytjdoejgcimnpjaa.PFnExactCountAllowed
namespace Go.Proofs.Ytjdoejgcimnpjaa.Pure
open Go.RowKit Go.Proofs.YtjdoejgcimnpjaaW.PrintWords Go.Proofs.YtjdoejgcimnpjaaW.PLib Go.Proofs.Ytjdoejgcimnpjaa.PFnExactCountAllowed

theorem FnExactCountAllowed : PFnExactCountAllowed.Pure := by
  intro n rs _ hy
  obtain ⟨_, hl, _⟩ := hy
  have hs : (rs.map cvRule).length < 9223372036854775807 := by simp; omega
  obtain ⟨r, hz⟩ := szRule_ev rs 1048576 (by omega)
  refine Ev.get ?_
  unfold laws_FnExactCountAllowed.f
  simp only [hz, Option.bind_some]
  by_cases c : r < 0
  · simp only [if_pos c]; exact Ev.now _
  simp only [if_neg c]
  refine Ev.bind (toRule_ev rs hl) (Ev.bind (spec_ev _ _ hs) (Ev.bind (toRule_ev rs hl) (Ev.bind (impl_ev _ _ hs) ?_)))
  simp only [if_true, bne_self_eq_false]
  refine Ev.succ ?_
  simp only [laws_FnExactCountAllowed.j0, Bool.false_eq_true, if_false]
  refine Ev.bind (toRule_ev rs hl) (Ev.bind (eqRule_ev _ hs) ?_)
  simp only [if_true]; exact Ev.now _
end Go.Proofs.Ytjdoejgcimnpjaa.Pure

