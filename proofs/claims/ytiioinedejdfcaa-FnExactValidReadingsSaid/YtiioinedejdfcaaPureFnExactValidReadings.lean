/- The law FnExactValidReadings, in numbers and lists alone: the program's ValidReadings and the reference's give one answer, and the list stays as it was. No condition. -/
import Derived.Test.YtiioinedejdfcaaQFnExactValidReadings
import Derived.Test.YtiioinedejdfcaaPLib
set_option linter.unusedVariables false
set_option linter.unusedSimpArgs false
namespace Go.Proofs.Ytiioinedejdfcaa.PFnExactValidReadings
open Go.RowKit Go.Proofs.YtiioinedejdfcaaW.PrintWords Go.Proofs.YtiioinedejdfcaaW.PLib

theorem l00In_eq (a b c : Int) : spec_l00In.f a b c = some (decide (b ≤ a) && decide (a ≤ c)) := by
  unfold spec_l00In.f; by_cases h : a ≥ b
  · rw [if_pos h]; simp [show b ≤ a from h]
  · rw [if_neg h]; simp [show ¬ b ≤ a from h]

theorem within_eq (a b c : Int) : impl_within.f a b c = some (decide (b ≤ a) && decide (a ≤ c)) := by
  unfold impl_within.f; by_cases h : a ≥ b
  · rw [if_pos h]; simp [show b ≤ a from h]
  · rw [if_neg h]; simp [show ¬ b ≤ a from h]

/-! Reading -/
theorem rdl_Reading (xs : List S111) (i : Nat) (h : i < xs.length) : rd_T111 xs (i : Int) = xs[i] := by unfold rd_T111; exact getD_cast xs i h _
theorem rdi_Reading (xs : List S109) (i : Nat) (h : i < xs.length) : rd_T109 xs (i : Int) = xs[i] := by unfold rd_T109; exact getD_cast xs i h _
theorem rd1_Reading (x : S109) : rd_T109 [x] 0 = x := rfl
def cvReading (x : S111) : S109 := ⟨x.f0, x.f1⟩
theorem toReading_ev (xs : List S111) (hl : xs.length * 16 ≤ 140737488351232) : Ev (fun k => laws_toReadingS.f k xs) (xs.map cvReading) := by
  refine ⟨xs.length + 1, fun k hk => ?_⟩
  simp only [laws_toReadingS.f]
  rw [if_pos (by omega), if_pos (by omega)]
  refine to_loop (fun k ys i => laws_toReadingS.l0 k xs ys i) xs cvReading (fun k ys i h hy => ?_) (fun k ys hy => ?_) _ (by simp) k (by omega)
  · simp only [laws_toReadingS.l0]
    rw [if_pos (by omega), if_pos (by omega)]
    simp only [laws_toReading.f, Option.bind_some, rdl_Reading xs i h]
    rw [if_pos (by omega), w64s (by omega)]
    rfl
  · simp only [laws_toReadingS.l0]
    rw [if_neg (by omega)]
theorem eqReading_ev (xs : List S109) (hl : xs.length < 9223372036854775807) : Ev (fun k => laws_eqReadingS.f k xs xs) true := by
  unfold laws_eqReadingS.f
  simp only [if_true]
  have := all_ev (fun k i => laws_eqReadingS.l0 k xs xs i) xs.length true (fun _ => true) (fun i hi => ⟨0, fun k _ => ?_⟩) ⟨0, fun k _ => ?_⟩
  · rw [allB_const] at this; exact this
  · simp only [laws_eqReadingS.l0]
    rw [if_pos (by omega), if_pos (by omega), if_pos (by omega)]
    simp only [laws_eqReading.f, if_true, Option.bind_some, w64s (show i < 9223372036854775807 by omega)]
  · simp only [laws_eqReadingS.l0]
    rw [if_neg (by omega)]
theorem szReading_ev (xs : List S111) (a : Int) (hl : xs.length < 9223372036854775807) : ∃ r, laws_szReadingS.f xs a = some r := by
  unfold laws_szReadingS.f
  split
  all_goals exact ⟨_, rfl⟩

/-! valid lists of Reading -/
def oneReading (x : S109) : Bool := (decide (0 ≤ x.f0) && decide (x.f0 ≤ 100000)) && (decide (0 ≤ x.f1) && decide (x.f1 ≤ 1000000000))
def adjReading (p x : S109) : Bool := decide (p.f0 < x.f0) && decide (p.f1 ≤ x.f1)
def okReading (xs : List S109) (i : Nat) : Bool := if h : i < xs.length then oneReading xs[i] && (decide (i = 0) || adjReading xs[i - 1] xs[i]) else false
def validReading (xs : List S109) : Bool := allB (okReading xs) xs.length && decide ((xs.length : Int) ≤ 48)
def smReading (x : S109) : Prop := True
def smallReading (xs : List S109) : Prop := xs.length < 9223372036854775807 ∧ ∀ x ∈ xs, smReading x
theorem specOneReading_ev (x : S109) (h : smReading x) : Ev (fun k => spec_l06One.f [x]) (oneReading x) := by
  refine Ev.all fun k => ?_
  unfold spec_l06One.f oneReading
  rw [if_pos (by simp)]
  simp only [rd1_Reading, Option.bind_some, l00In_eq, spec_l06Counter.f, ifs, ifn]
theorem implOneReading_ev (x : S109) (h : smReading x) : Ev (fun k => impl_Reading_valid.f x.f0 x.f1) (oneReading x) := by
  refine Ev.all fun k => ?_
  unfold impl_Reading_valid.f oneReading
  simp only [Option.bind_some, within_eq, spec_l06Counter.f, ifs, ifn]
theorem specReadingS_ev (xs : List S109) (h : smallReading xs) : Ev (fun k => spec_l06Ok.f k xs) (validReading xs) := by
  obtain ⟨hl, hx⟩ := h
  unfold spec_l06Ok.f validReading
  refine all_ev (fun k i => spec_l06Ok.l0 k xs i) xs.length _ (okReading xs) (fun i hi => ?_) ⟨0, fun k _ => ?_⟩
  · refine Ev.with_ (specOneReading_ev xs[i] (hx _ (List.getElem_mem hi))) fun k e => ?_
    simp only [spec_l06Ok.l0]
    rw [if_pos (by omega), if_pos (by omega), rdi_Reading xs i hi, e, Option.bind_some, w64s (by omega)]
    by_cases c1 : oneReading xs[i] = true
    · rw [if_pos c1]
      by_cases c2 : i = 0
      · rw [if_neg (by omega), if_pos (by unfold okReading; rw [dif_pos hi, c1, decide_eq_true c2]; rfl)]
      · have e1 : wrap64 ((i : Int) - 1) = ((i - 1 : Nat) : Int) := by rw [w64] <;> omega
        rw [if_pos (by omega), e1, if_pos (by omega), if_pos (by omega), rdi_Reading xs (i - 1) (by omega)]
        rw [show okReading xs i = adjReading xs[i - 1] xs[i] from by unfold okReading; rw [dif_pos hi, c1, decide_eq_false c2, Bool.true_and, Bool.false_or]]
        unfold adjReading
        (by_cases c3 : xs[i - 1].f0 < xs[i].f0; (rw [if_neg (by omega)]; by_cases c4 : xs[i - 1].f1 ≤ xs[i].f1; (rw [if_neg (by omega)]; simp [c3, c4]); (rw [if_pos (by omega)]; simp [c4])); (rw [if_pos (by omega)]; simp [c3]))
    · rw [if_neg c1, if_neg (by unfold okReading; simp only [Bool.not_eq_true] at c1; rw [dif_pos hi, c1]; simp)]
  · simp only [spec_l06Ok.l0]
    rw [if_neg (by omega)]
theorem implReadingS_ev (xs : List S109) (h : smallReading xs) : Ev (fun k => impl_ValidReadings.f k xs) (validReading xs) := by
  obtain ⟨hl, hx⟩ := h
  unfold impl_ValidReadings.f validReading
  by_cases c : (xs.length : Int) > 48
  · simp only [if_pos c]
    rw [decide_eq_false (show ¬ (xs.length : Int) ≤ 48 by omega), Bool.and_false]; exact Ev.now _
  simp only [if_neg c]
  rw [decide_eq_true (show (xs.length : Int) ≤ 48 by omega)]
  refine all_ev (fun k i => impl_ValidReadings.l0 k xs xs (xs.length : Int) i) xs.length true (okReading xs) (fun i hi => ?_) ⟨0, fun k _ => ?_⟩
  · refine Ev.with_ (implOneReading_ev xs[i] (hx _ (List.getElem_mem hi))) fun k e => ?_
    simp only [impl_ValidReadings.l0]
    rw [if_pos (by omega), if_pos (by omega), if_pos (by omega), rdi_Reading xs i hi, e, Option.bind_some, w64s (by omega)]
    by_cases c1 : oneReading xs[i] = true
    · rw [if_pos c1]
      by_cases c2 : i = 0
      · rw [if_neg (by omega), if_pos (by unfold okReading; rw [dif_pos hi, c1, decide_eq_true c2]; rfl)]
      · have e1 : wrap64 ((i : Int) - 1) = ((i - 1 : Nat) : Int) := by rw [w64] <;> omega
        rw [if_pos (by omega), e1, if_pos (by omega), if_pos (by omega), rdi_Reading xs (i - 1) (by omega)]
        rw [show okReading xs i = adjReading xs[i - 1] xs[i] from by unfold okReading; rw [dif_pos hi, c1, decide_eq_false c2, Bool.true_and, Bool.false_or]]
        unfold adjReading
        (by_cases c3 : xs[i - 1].f0 < xs[i].f0; (rw [if_neg (by omega)]; by_cases c4 : xs[i - 1].f1 ≤ xs[i].f1; (rw [if_neg (by omega)]; simp [c3, c4]); (rw [if_pos (by omega)]; simp [c4])); (rw [if_pos (by omega)]; simp [c3]))
    · rw [if_neg c1, if_neg (by unfold okReading; simp only [Bool.not_eq_true] at c1; rw [dif_pos hi, c1]; simp)]
  · simp only [impl_ValidReadings.l0]
    rw [if_neg (by omega)]
theorem validReading_len {xs : List S109} (h : validReading xs = true) : (xs.length : Int) ≤ 48 := by
  unfold validReading at h
  simp only [Bool.and_eq_true, decide_eq_true_eq] at h
  exact h.2
theorem validReading_at {xs : List S109} (h : validReading xs = true) (i : Nat) (hi : i < xs.length) : oneReading xs[i] = true ∧ (0 < i → adjReading xs[i - 1] xs[i] = true) := by
  unfold validReading at h
  simp only [Bool.and_eq_true] at h
  have := allB_true.1 h.1 i hi
  unfold okReading at this
  rw [dif_pos hi] at this
  simp only [Bool.and_eq_true, Bool.or_eq_true, decide_eq_true_eq] at this
  exact ⟨this.1, fun h0 => by rcases this.2 with h1 | h1; omega; exact h1⟩


end Go.Proofs.Ytiioinedejdfcaa.PFnExactValidReadings
namespace Go.Proofs.Ytiioinedejdfcaa.Pure
open Go.RowKit Go.Proofs.YtiioinedejdfcaaW.PrintWords Go.Proofs.YtiioinedejdfcaaW.PLib Go.Proofs.Ytiioinedejdfcaa.PFnExactValidReadings

theorem FnExactValidReadings : PFnExactValidReadings.Pure := by
  intro xs hx
  obtain ⟨_, hl, hw⟩ := hx
  have hs : smallReading (xs.map cvReading) := ⟨by simp; omega, fun x _ => trivial⟩
  obtain ⟨r, hr⟩ := szReading_ev xs 1048576 (by omega)
  refine Ev.get ?_
  unfold laws_FnExactValidReadings.f
  simp only [hr, Option.bind_some]
  by_cases c : r < 0
  · simp only [if_pos c]; exact Ev.now _
  simp only [if_neg c]
  refine Ev.bind (toReading_ev xs hl) (Ev.bind (Ev.bind (specReadingS_ev _ hs) (Ev.now _)) (Ev.bind (toReading_ev xs hl) (Ev.bind (implReadingS_ev _ hs) ?_)))
  simp only [bne_self_eq_false, Bool.false_eq_true, if_false]
  refine Ev.bind (toReading_ev xs hl) (Ev.bind (eqReading_ev _ hs.1) ?_)
  simp only [if_true]; exact Ev.now _
end Go.Proofs.Ytiioinedejdfcaa.Pure

