/- The law FnExactValidRules, in numbers and lists alone: the program's ValidRules and the reference's give one answer, and the rules stay as they were. No condition. -/
import Derived.Test.YtiioinedejdfcaaQFnExactValidRules
import Derived.Test.YtiioinedejdfcaaPLib
set_option linter.unusedVariables false
set_option linter.unusedSimpArgs false
namespace Go.Proofs.Ytiioinedejdfcaa.PFnExactValidRules
open Go.RowKit Go.Proofs.YtiioinedejdfcaaW.PrintWords Go.Proofs.YtiioinedejdfcaaW.PLib

theorem l00In_eq (a b c : Int) : spec_l00In.f a b c = some (decide (b ≤ a) && decide (a ≤ c)) := by
  unfold spec_l00In.f; by_cases h : a ≥ b
  · rw [if_pos h]; simp [show b ≤ a from h]
  · rw [if_neg h]; simp [show ¬ b ≤ a from h]
theorem within_eq (a b c : Int) : impl_within.f a b c = some (decide (b ≤ a) && decide (a ≤ c)) := by
  unfold impl_within.f; by_cases h : a ≥ b
  · rw [if_pos h]; simp [show b ≤ a from h]
  · rw [if_neg h]; simp [show ¬ b ≤ a from h]
theorem rd_rule (xs : List S103) (i : Nat) (h : i < xs.length) : rd_T103 xs (i : Int) = xs[i] := by unfold rd_T103; exact getD_cast xs i h _
theorem rd_lrule (xs : List S105) (i : Nat) (h : i < xs.length) : rd_T105 xs (i : Int) = xs[i] := by unfold rd_T105; exact getD_cast xs i h _

def okR (m : Int) (r : S103) : Bool := (decide (1 ≤ r.f0) && decide (r.f0 ≤ 3)) && ((decide (0 ≤ r.f1) && decide (r.f1 ≤ m)) && ((decide (0 ≤ r.f2) && decide (r.f2 ≤ m)) && !decide (r.f1 = r.f2)))

theorem spec_loop (n : Int) (xs : List S103) (hl : xs.length < 9223372036854775807) (k : Nat) (hk : xs.length < k) :
    spec_l25Rules.l0 k n xs 0 = some (decide (∀ i (h : i < xs.length), okR (wrap64 (n - 1)) xs[i] = true) && ((decide (1 ≤ n) && decide (n ≤ 8)) && decide ((xs.length : Int) ≤ 12))) := by
  refine all_loop (fun k i => spec_l25Rules.l0 k n xs i) xs _ (fun _ r => okR (wrap64 (n - 1)) r) (fun k i h => ?_) (fun k => ?_) k hk
  · simp only [spec_l25Rules.l0]
    rw [if_pos (by omega), if_pos (by omega)]
    simp only [l00In_eq, rd_rule xs i h, Option.bind_some, w64s (show i < 9223372036854775807 by omega), okR]
    by_cases c1 : (decide (1 ≤ xs[i].f0) && decide (xs[i].f0 ≤ 3)) = true
    · rw [if_pos c1]
      by_cases c2 : (decide (0 ≤ xs[i].f1) && decide (xs[i].f1 ≤ wrap64 (n - 1))) = true
      · rw [if_pos c2]
        by_cases c3 : (decide (0 ≤ xs[i].f2) && decide (xs[i].f2 ≤ wrap64 (n - 1))) = true
        · rw [if_pos c3]
          by_cases c4 : xs[i].f1 = xs[i].f2
          · rw [if_pos c4]; simp [c4]
          · rw [if_neg c4]; simp only [c1, c2, c3]; simp [c4]
        · rw [if_neg c3]; simp only [Bool.not_eq_true] at c3; simp only [c3]; simp
      · rw [if_neg c2]; simp only [Bool.not_eq_true] at c2; simp only [c2]; simp
    · rw [if_neg c1]; simp only [Bool.not_eq_true] at c1; simp only [c1]; simp
  · simp only [spec_l25Rules.l0]
    rw [if_neg (by omega)]
    simp only [l00In_eq, Option.bind_some]
    by_cases c : (decide (1 ≤ n) && decide (n ≤ 8)) = true
    · rw [if_pos c]; simp [c]
    · rw [if_neg c]; simp only [Bool.not_eq_true] at c; simp [c]
theorem spec_ev (n : Int) (xs : List S103) (hl : xs.length < 9223372036854775807) :
    Ev (fun k => spec_ValidRules.f k n xs) (decide (∀ i (h : i < xs.length), okR (wrap64 (n - 1)) xs[i] = true) && ((decide (1 ≤ n) && decide (n ≤ 8)) && decide ((xs.length : Int) ≤ 12))) :=
  ⟨xs.length + 1, fun k hk => by simp only [spec_ValidRules.f, spec_l25Rules.f, spec_loop n xs hl k (by omega), Option.bind_some]⟩

theorem impl_loop (n : Int) (xs : List S103) (hl : xs.length < 9223372036854775807) (k : Nat) (hk : xs.length < k) :
    impl_ValidRules.l0 k n xs xs.length 0 = some (decide (∀ i (h : i < xs.length), okR (wrap64 (n - 1)) xs[i] = true) && true) := by
  refine all_loop (fun k i => impl_ValidRules.l0 k n xs xs.length i) xs _ (fun _ r => okR (wrap64 (n - 1)) r) (fun k i h => ?_) (fun k => ?_) k hk
  · simp only [impl_ValidRules.l0]
    rw [if_pos (by omega), if_pos (by omega), if_pos (by omega)]
    simp only [within_eq, rd_rule xs i h, Option.bind_some, w64s (show i < 9223372036854775807 by omega), okR]
    by_cases c1 : (decide (1 ≤ xs[i].f0) && decide (xs[i].f0 ≤ 3)) = true
    · rw [if_pos c1]
      by_cases c2 : (decide (0 ≤ xs[i].f1) && decide (xs[i].f1 ≤ wrap64 (n - 1))) = true
      · rw [if_pos c2]
        by_cases c3 : (decide (0 ≤ xs[i].f2) && decide (xs[i].f2 ≤ wrap64 (n - 1))) = true
        · rw [if_pos c3]
          by_cases c4 : xs[i].f1 = xs[i].f2
          · rw [if_pos c4]; simp [c4]
          · rw [if_neg c4]; simp only [c1, c2, c3]; simp [c4]
        · rw [if_neg c3]; simp only [Bool.not_eq_true] at c3; simp only [c3]; simp
      · rw [if_neg c2]; simp only [Bool.not_eq_true] at c2; simp only [c2]; simp
    · rw [if_neg c1]; simp only [Bool.not_eq_true] at c1; simp only [c1]; simp
  · simp only [impl_ValidRules.l0]
    rw [if_neg (by omega)]
theorem impl_ev (n : Int) (xs : List S103) (hl : xs.length < 9223372036854775807) :
    Ev (fun k => impl_ValidRules.f k n xs) (decide (∀ i (h : i < xs.length), okR (wrap64 (n - 1)) xs[i] = true) && ((decide (1 ≤ n) && decide (n ≤ 8)) && decide ((xs.length : Int) ≤ 12))) := by
  refine ⟨xs.length + 2, fun k hk => ?_⟩
  obtain ⟨k, rfl⟩ : ∃ m, k = m + 1 := ⟨k - 1, by omega⟩
  simp only [impl_ValidRules.f, within_eq, Option.bind_some]
  by_cases c : (decide (1 ≤ n) && decide (n ≤ 8)) = true
  · rw [if_pos c]
    simp only [impl_ValidRules.j0]
    by_cases c2 : (xs.length : Int) > 12
    · rw [if_pos (decide_eq_true c2)]
      rw [decide_eq_false (show ¬ (xs.length : Int) ≤ 12 by omega)]; simp
    · rw [if_neg (by simpa using c2), impl_loop n xs hl k (by omega)]
      rw [decide_eq_true (show (xs.length : Int) ≤ 12 by omega), c]; simp
  · rw [if_neg c]
    simp only [impl_ValidRules.j0]
    simp only [Bool.not_eq_true] at c
    simp [c]

def cv (x : S105) : S103 := ⟨x.f0, x.f1, x.f2⟩
theorem to_ev (xs : List S105) (hl : xs.length * 24 ≤ 140737488351232) : Ev (fun k => laws_toRuleS.f k xs) (xs.map cv) := by
  refine ⟨xs.length + 1, fun k hk => ?_⟩
  simp only [laws_toRuleS.f]
  rw [if_pos (by omega), if_pos (by omega)]
  refine to_loop (fun k ys i => laws_toRuleS.l0 k xs ys i) xs cv (fun k ys i h hy => ?_) (fun k ys hy => ?_) _ (by simp) k (by omega)
  · simp only [laws_toRuleS.l0]
    rw [if_pos (by omega), if_pos (by omega)]
    simp only [laws_toRule.f, Option.bind_some, rd_lrule xs i h]
    rw [if_pos (by omega), w64s (by omega)]
    rfl
  · simp only [laws_toRuleS.l0]
    rw [if_neg (by omega)]
theorem eq_ev (xs : List S103) (hl : xs.length < 9223372036854775807) : Ev (fun k => laws_eqRuleS.f k xs xs) true := by
  refine ⟨xs.length + 1, fun k hk => ?_⟩
  simp only [laws_eqRuleS.f, if_true]
  have := all_loop (fun k i => laws_eqRuleS.l0 k xs xs i) xs true (fun _ _ => true) (fun k i h => ?_) (fun k => ?_) k (by omega)
  · simpa using this
  · simp only [laws_eqRuleS.l0]
    rw [if_pos (by omega), if_pos (by omega), if_pos (by omega)]
    simp only [laws_eqRule.f, if_true, Option.bind_some, w64s (show i < 9223372036854775807 by omega)]
  · simp only [laws_eqRuleS.l0]
    rw [if_neg (by omega)]
end Go.Proofs.Ytiioinedejdfcaa.PFnExactValidRules
namespace Go.Proofs.Ytiioinedejdfcaa.Pure
open Go.RowKit Go.Proofs.YtiioinedejdfcaaW.PrintWords Go.Proofs.YtiioinedejdfcaaW.PLib Go.Proofs.Ytiioinedejdfcaa.PFnExactValidRules
theorem FnExactValidRules : PFnExactValidRules.Pure := by
  intro n xs _ hx
  obtain ⟨_, hl, _⟩ := hx
  have hm : (xs.map cv).length = xs.length := by simp
  obtain ⟨k1, h1⟩ := to_ev xs hl
  obtain ⟨k2, h2⟩ := spec_ev n (xs.map cv) (by omega)
  obtain ⟨k3, h3⟩ := impl_ev n (xs.map cv) (by omega)
  obtain ⟨k4, h4⟩ := eq_ev (xs.map cv) (by omega)
  refine ⟨k1 + k2 + k3 + k4, ?_⟩
  unfold laws_FnExactValidRules.f laws_szRuleS.f
  by_cases c : wrap64 (1048576 - (xs.length : Int)) < 0
  · rw [if_pos c]; rfl
  · rw [if_neg c]
    simp only [Option.bind_some, if_neg c]
    simp only [h1 _ (show k1 ≤ k1 + k2 + k3 + k4 by omega), h2 _ (show k2 ≤ k1 + k2 + k3 + k4 by omega), h3 _ (show k3 ≤ k1 + k2 + k3 + k4 by omega), h4 _ (show k4 ≤ k1 + k2 + k3 + k4 by omega), Option.bind_some]
    simp
end Go.Proofs.Ytiioinedejdfcaa.Pure
