/- The law FnExactReserveOf, in numbers and lists alone: the program's ReserveOf and the reference's give one answer, and what they are handed stays as it was. No condition. -/
import Derived.Test.YtjodigojpjmdcaaQFnExactReserveOf
import Derived.Test.YtjodigojpjmdcaaPLib
set_option linter.unusedVariables false
set_option linter.unusedSimpArgs false
namespace Go.Proofs.Ytjodigojpjmdcaa.PFnExactReserveOf
open Go.RowKit Go.Proofs.YtjodigojpjmdcaaW.PrintWords Go.Proofs.YtjodigojpjmdcaaW.PLib

theorem l00In_eq (a b c : Int) : spec_l00In.f a b c = some (decide (b ≤ a) && decide (a ≤ c)) := by
  unfold spec_l00In.f; by_cases h : a ≥ b
  · rw [if_pos h]; simp [show b ≤ a from h]
  · rw [if_neg h]; simp [show ¬ b ≤ a from h]

theorem within_eq (a b c : Int) : impl_within.f a b c = some (decide (b ≤ a) && decide (a ≤ c)) := by
  unfold impl_within.f; by_cases h : a ≥ b
  · rw [if_pos h]; simp [show b ≤ a from h]
  · rw [if_neg h]; simp [show ¬ b ≤ a from h]

/-! names -/
def smallB (c : Int) : Bool := decide (97 ≤ c) && decide (c ≤ 122)
def digitB (c : Int) : Bool := decide (48 ≤ c) && decide (c ≤ 57)
def nameB (s : ByteArray) : Bool := (decide (1 ≤ s.size) && decide (s.size ≤ 10)) && (smallB (bt s 0) && allB (fun i => smallB (bt s i) || digitB (bt s i)) s.size)
theorem small_eq (c : Int) : spec_l01Small.f c = some (smallB c) := by
  unfold spec_l01Small.f smallB; by_cases h : c ≥ 97
  · rw [if_pos h]; simp [show 97 ≤ c from h]
  · rw [if_neg h]; simp [show ¬ 97 ≤ c from h]
theorem digit_eq (c : Int) : spec_l01Digit.f c = some (digitB c) := by
  unfold spec_l01Digit.f digitB; by_cases h : c ≥ 48
  · rw [if_pos h]; simp [show 48 ≤ c from h]
  · rw [if_neg h]; simp [show ¬ 48 ≤ c from h]
theorem specName_loop (s : ByteArray) (hs : s.size < 9223372036854775807) : Ev (fun k => spec_l01Name.l0 k s 0) (allB (fun i => smallB (bt s i) || digitB (bt s i)) s.size && true) := by
  refine all_ev (fun k i => spec_l01Name.l0 k s i) s.size true _ (fun i hi => ⟨0, fun k _ => ?_⟩) ⟨0, fun k _ => ?_⟩
  · simp only [spec_l01Name.l0]
    rw [if_pos (by omega), if_pos (by omega)]
    simp only [small_eq, digit_eq, Option.bind_some, w64s (show i < 9223372036854775807 by omega)]
    by_cases c1 : smallB (bt s i) = true
    · simp [c1]
    · simp only [Bool.not_eq_true] at c1
      by_cases c2 : digitB (bt s i) = true
      · simp [c1, c2]
      · simp only [Bool.not_eq_true] at c2; simp [c1, c2]
  · simp only [spec_l01Name.l0]
    rw [if_neg (by omega)]
theorem specName_ev (s : ByteArray) (hs : s.size < 9223372036854775807) : Ev (fun k => spec_l01Name.f k s) (nameB s) := by
  obtain ⟨K, hK⟩ := specName_loop s hs
  refine ⟨K + 1, fun k hk => ?_⟩
  obtain ⟨k, rfl⟩ : ∃ m, k = m + 1 := ⟨k - 1, by omega⟩
  unfold spec_l01Name.f nameB
  simp only [spec_l01Name.j0, hK k (by omega), small_eq, Option.bind_some]
  by_cases c1 : s.toList = ([] : List UInt8)
  · rw [if_pos c1]
    have : s.size = 0 := by
      have := congrArg List.length c1
      simpa [ByteArray.toList_eq] using this
    simp [this]
  · rw [if_neg c1]
    have h0 : 1 ≤ s.size := by
      rcases Nat.eq_zero_or_pos s.size with h | h
      · exact absurd (by
          have : s.data.toList = [] := List.eq_nil_of_length_eq_zero (by rw [Array.length_toList]; exact h)
          simpa [ByteArray.toList_eq] using this) c1
      · exact h
    by_cases c2 : (s.size : Int) > 10
    · rw [if_pos c2, decide_eq_false (show ¬ s.size ≤ 10 by omega)]; simp
    · rw [if_neg c2, if_pos (by omega), decide_eq_true (show s.size ≤ 10 by omega), decide_eq_true h0]
      by_cases c3 : smallB (bt s 0) = true
      · simp [c3]
      · simp only [Bool.not_eq_true] at c3; simp [c3]
theorem implName_loop (s : ByteArray) (hs : s.size < 9223372036854775807) : Ev (fun k => impl_onlyNameBytes.f k s) (allB (fun i => smallB (bt s i) || digitB (bt s i)) s.size && true) := by
  unfold impl_onlyNameBytes.f
  refine all_ev (fun k i => impl_onlyNameBytes.l0 k s (s.size : Int) i) s.size true _ (fun i hi => ⟨0, fun k _ => ?_⟩) ⟨0, fun k _ => ?_⟩
  · simp only [impl_onlyNameBytes.l0]
    rw [if_pos (by omega), if_pos (by omega), if_pos (by omega)]
    simp only [w64s (show i < 9223372036854775807 by omega), smallB, digitB]
    by_cases a : bt s i < 97 <;> by_cases b : bt s i < 48 <;> by_cases c : bt s i > 57 <;> by_cases d : bt s i > 122 <;> simp [a, b, c, d] <;> omega
  · simp only [impl_onlyNameBytes.l0]
    rw [if_neg (by omega)]
theorem implName_ev (s : ByteArray) (hs : s.size < 9223372036854775807) : Ev (fun k => impl_IsName.f k s) (nameB s) := by
  obtain ⟨K, hK⟩ := implName_loop s hs
  refine ⟨K, fun k hk => ?_⟩
  unfold impl_IsName.f nameB
  simp only [hK k hk, Option.bind_some]
  by_cases c1 : (s.size : Int) < 1
  · rw [if_pos c1, decide_eq_false (show ¬ 1 ≤ s.size by omega)]; simp
  · rw [if_neg c1, decide_eq_true (show 1 ≤ s.size by omega)]
    by_cases c2 : (s.size : Int) > 10
    · rw [if_pos c2, decide_eq_false (show ¬ s.size ≤ 10 by omega)]; simp
    · rw [if_neg c2, if_pos (by omega), decide_eq_true (show s.size ≤ 10 by omega)]
      unfold smallB
      by_cases a : bt s 0 < 97
      · rw [if_pos a, decide_eq_false (show ¬ 97 ≤ bt s 0 by omega)]; simp
      · rw [if_neg a, decide_eq_true (show 97 ≤ bt s 0 by omega)]
        by_cases b : bt s 0 > 122
        · rw [if_pos b, decide_eq_false (show ¬ bt s 0 ≤ 122 by omega)]; simp
        · rw [if_neg b, decide_eq_true (show bt s 0 ≤ 122 by omega)]; simp

/-! Unit -/
theorem rdl_Unit (xs : List S66) (i : Nat) (h : i < xs.length) : rd_T66 xs (i : Int) = xs[i] := by unfold rd_T66; exact getD_cast xs i h _
theorem rdi_Unit (xs : List S67) (i : Nat) (h : i < xs.length) : rd_T67 xs (i : Int) = xs[i] := by unfold rd_T67; exact getD_cast xs i h _
theorem rd1_Unit (x : S67) : rd_T67 [x] 0 = x := rfl
def cvUnit (x : S66) : S67 := ⟨x.f0, x.f1, x.f2, x.f3, x.f4, x.f5, x.f6⟩
theorem toUnit_ev (xs : List S66) (hl : xs.length * 64 ≤ 140737488351232) : Ev (fun k => laws_toUnitS.f k xs) (xs.map cvUnit) := by
  refine ⟨xs.length + 1, fun k hk => ?_⟩
  simp only [laws_toUnitS.f]
  rw [if_pos (by omega), if_pos (by omega)]
  refine to_loop (fun k ys i => laws_toUnitS.l0 k xs ys i) xs cvUnit (fun k ys i h hy => ?_) (fun k ys hy => ?_) _ (by simp) k (by omega)
  · simp only [laws_toUnitS.l0]
    rw [if_pos (by omega), if_pos (by omega)]
    simp only [laws_toUnit.f, Option.bind_some, rdl_Unit xs i h]
    rw [if_pos (by omega), w64s (by omega)]
    rfl
  · simp only [laws_toUnitS.l0]
    rw [if_neg (by omega)]
theorem eqUnit_ev (xs : List S67) (hl : xs.length < 9223372036854775807) : Ev (fun k => laws_eqUnitS.f k xs xs) true := by
  unfold laws_eqUnitS.f
  simp only [if_true]
  have := all_ev (fun k i => laws_eqUnitS.l0 k xs xs i) xs.length true (fun _ => true) (fun i hi => ⟨0, fun k _ => ?_⟩) ⟨0, fun k _ => ?_⟩
  · rw [allB_const] at this; exact this
  · simp only [laws_eqUnitS.l0]
    rw [if_pos (by omega), if_pos (by omega), if_pos (by omega)]
    simp only [laws_eqUnit.f, if_true, bne_self_eq_false, Bool.false_eq_true, if_false, Option.bind_some, w64s (show i < 9223372036854775807 by omega)]
  · simp only [laws_eqUnitS.l0]
    rw [if_neg (by omega)]
theorem szUnit_ev (xs : List S66) (a : Int) (hl : xs.length < 9223372036854775807) : ∃ r, Ev (fun k => laws_szUnitS.f k xs a) r := by
  unfold laws_szUnitS.f
  by_cases c : wrap64 (a - (xs.length : Int)) < 0
  · exact ⟨-1, by simp only [if_pos c]; exact Ev.now _⟩
  · simp only [if_neg c]
    refine tot_ev (fun k s i => laws_szUnitS.l0 k xs s i) xs.length (fun i s hi => ?_) (fun s => ⟨s, 0, fun k _ => ?_⟩) xs.length 0 _ (by omega)
    · obtain ⟨t, ht⟩ : ∃ t, laws_szUnit.f ((rd_T66 xs i).f0) ((rd_T66 xs i).f1) ((rd_T66 xs i).f2) ((rd_T66 xs i).f3) ((rd_T66 xs i).f4) ((rd_T66 xs i).f5) ((rd_T66 xs i).f6) s = some t := by
        unfold laws_szUnit.f
        repeat' split
        all_goals exact ⟨_, rfl⟩
      by_cases c2 : t < 0
      · refine .inl ⟨-1, 0, fun k _ => ?_⟩
        simp only [laws_szUnitS.l0]
        rw [if_pos (by omega), if_pos (by omega), ht]
        simp only [Option.bind_some]
        rw [if_pos c2]
      · refine .inr ⟨t, 0, fun k _ => ?_⟩
        simp only [laws_szUnitS.l0]
        rw [if_pos (by omega), if_pos (by omega), ht]
        simp only [Option.bind_some]
        rw [if_neg c2, w64s (by omega)]
    · simp only [laws_szUnitS.l0]
      rw [if_neg (by omega)]

def mxU (a : Int) : Int := if a < 1 then 1 else a
theorem max1_eq (a : Int) : spec_l00Max.f 1 a = some (mxU a) := by
  unfold spec_l00Max.f mxU
  by_cases c : a < 1
  · rw [if_pos (show 1 > a from c), if_pos c]
  · rw [if_neg (show ¬ 1 > a from c), if_neg c]
theorem mxU_eq (a : Int) : mx a 1 = mxU a := rfl
/-! valid lists of Unit -/
def oneUnit (x : S67) : Bool := nameB x.f0 && ((decide (0 ≤ x.f1) && decide (x.f1 ≤ 100000)) && ((decide (mxU x.f1 ≤ x.f2) && decide (x.f2 ≤ 100000)) && ((decide (0 ≤ x.f3) && decide (x.f3 ≤ 100000)) && ((decide (0 ≤ x.f4) && decide (x.f4 ≤ 100000000)) && ((decide (1 ≤ x.f5) && decide (x.f5 ≤ 3)) && (decide (1 ≤ x.f6) && decide (x.f6 ≤ 3)))))))
def adjUnit (p x : S67) : Bool := Op.bytesLess (p.f0.toList) (x.f0.toList)
def okUnit (xs : List S67) (i : Nat) : Bool := if h : i < xs.length then oneUnit xs[i] && (decide (i = 0) || adjUnit xs[i - 1] xs[i]) else false
def validUnit (xs : List S67) : Bool := allB (okUnit xs) xs.length && (decide (1 ≤ (xs.length : Int)) && decide ((xs.length : Int) ≤ 4))
def smUnit (x : S67) : Prop := x.f0.size < 9223372036854775807
def smallUnit (xs : List S67) : Prop := xs.length < 9223372036854775807 ∧ ∀ x ∈ xs, smUnit x
theorem specOneUnit_ev (x : S67) (h : smUnit x) : Ev (fun k => spec_l13One.f k [x]) (oneUnit x) := by
  refine Ev.then_ (specName_ev x.f0 h) fun k e => ?_
  unfold spec_l13One.f oneUnit
  rw [if_pos (by simp)]
  simp only [rd1_Unit, e, Option.bind_some, l00In_eq, max1_eq, mxU_eq, ifs, ifn]
theorem implOneUnit_ev (x : S67) (h : smUnit x) : Ev (fun k => impl_Unit_valid.f k x.f0 x.f1 x.f2 x.f3 x.f4 x.f5 x.f6) (oneUnit x) := by
  refine Ev.then_ (implName_ev x.f0 h) fun k e => ?_
  unfold impl_Unit_valid.f oneUnit
  simp only [e, Option.bind_some, within_eq, max1_eq, mxU_eq, ifs, ifn]
theorem specUnitS_ev (xs : List S67) (h : smallUnit xs) : Ev (fun k => spec_l13Ok.f k xs) (validUnit xs) := by
  obtain ⟨hl, hx⟩ := h
  unfold spec_l13Ok.f validUnit
  refine all_ev (fun k i => spec_l13Ok.l0 k xs i) xs.length _ (okUnit xs) (fun i hi => ?_) ⟨0, fun k _ => ?_⟩
  · refine Ev.with_ (specOneUnit_ev xs[i] (hx _ (List.getElem_mem hi))) fun k e => ?_
    simp only [spec_l13Ok.l0]
    rw [if_pos (by omega), if_pos (by omega), rdi_Unit xs i hi, e, Option.bind_some, w64s (by omega)]
    by_cases c1 : oneUnit xs[i] = true
    · rw [if_pos c1]
      by_cases c2 : i = 0
      · rw [if_neg (by omega), if_pos (by unfold okUnit; rw [dif_pos hi, c1, decide_eq_true c2]; rfl)]
      · have e1 : wrap64 ((i : Int) - 1) = ((i - 1 : Nat) : Int) := by rw [w64] <;> omega
        rw [if_pos (by omega), e1, if_pos (by omega), if_pos (by omega), rdi_Unit xs (i - 1) (by omega)]
        rw [show okUnit xs i = adjUnit xs[i - 1] xs[i] from by unfold okUnit; rw [dif_pos hi, c1, decide_eq_false c2, Bool.true_and, Bool.false_or]]
        unfold adjUnit
        rfl
    · rw [if_neg c1, if_neg (by unfold okUnit; simp only [Bool.not_eq_true] at c1; rw [dif_pos hi, c1]; simp)]
  · simp only [spec_l13Ok.l0]
    rw [if_neg (by omega), l00In_eq]
    rfl
theorem implUnitS_ev (xs : List S67) (h : smallUnit xs) : Ev (fun k => impl_ValidUnits.f k xs) (validUnit xs) := by
  obtain ⟨hl, hx⟩ := h
  unfold impl_ValidUnits.f validUnit
  have jT : Ev (fun k => impl_ValidUnits.j0 k xs true) false := Ev.succ (by simp only [impl_ValidUnits.j0, if_true]; exact Ev.now _)
  by_cases c0 : (xs.length : Int) < 1
  · simp only [if_pos c0]
    rw [decide_eq_false (show ¬ 1 ≤ (xs.length : Int) by omega), Bool.false_and, Bool.and_false]; exact jT
  simp only [if_neg c0]
  rw [decide_eq_true (show 1 ≤ (xs.length : Int) by omega), Bool.true_and]
  by_cases c : (xs.length : Int) > 4
  · simp only [decide_eq_true c]
    rw [decide_eq_false (show ¬ (xs.length : Int) ≤ 4 by omega), Bool.and_false]; exact jT
  simp only [decide_eq_false c]
  rw [decide_eq_true (show (xs.length : Int) ≤ 4 by omega)]
  refine Ev.succ ?_
  simp only [impl_ValidUnits.j0, Bool.false_eq_true, if_false]
  refine all_ev (fun k i => impl_ValidUnits.l0 k xs xs (xs.length : Int) i) xs.length true (okUnit xs) (fun i hi => ?_) ⟨0, fun k _ => ?_⟩
  · refine Ev.with_ (implOneUnit_ev xs[i] (hx _ (List.getElem_mem hi))) fun k e => ?_
    simp only [impl_ValidUnits.l0]
    rw [if_pos (by omega), if_pos (by omega), if_pos (by omega), rdi_Unit xs i hi, e, Option.bind_some, w64s (by omega)]
    by_cases c1 : oneUnit xs[i] = true
    · rw [if_pos c1]
      by_cases c2 : i = 0
      · rw [if_neg (by omega), if_pos (by unfold okUnit; rw [dif_pos hi, c1, decide_eq_true c2]; rfl)]
      · have e1 : wrap64 ((i : Int) - 1) = ((i - 1 : Nat) : Int) := by rw [w64] <;> omega
        rw [if_pos (by omega), e1, if_pos (by omega), if_pos (by omega), rdi_Unit xs (i - 1) (by omega)]
        rw [show okUnit xs i = adjUnit xs[i - 1] xs[i] from by unfold okUnit; rw [dif_pos hi, c1, decide_eq_false c2, Bool.true_and, Bool.false_or]]
        unfold adjUnit
        rfl
    · rw [if_neg c1, if_neg (by unfold okUnit; simp only [Bool.not_eq_true] at c1; rw [dif_pos hi, c1]; simp)]
  · simp only [impl_ValidUnits.l0]
    rw [if_neg (by omega)]
theorem validUnit_len {xs : List S67} (h : validUnit xs = true) : 1 ≤ (xs.length : Int) ∧ (xs.length : Int) ≤ 4 := by
  unfold validUnit at h
  simp only [Bool.and_eq_true, decide_eq_true_eq] at h
  exact h.2
theorem validUnit_at {xs : List S67} (h : validUnit xs = true) (i : Nat) (hi : i < xs.length) : oneUnit xs[i] = true ∧ (0 < i → adjUnit xs[i - 1] xs[i] = true) := by
  unfold validUnit at h
  simp only [Bool.and_eq_true] at h
  have := allB_true.1 h.1 i hi
  unfold okUnit at this
  rw [dif_pos hi] at this
  simp only [Bool.and_eq_true, Bool.or_eq_true, decide_eq_true_eq] at this
  exact ⟨this.1, fun h0 => by rcases this.2 with h1 | h1; omega; exact h1⟩

theorem toBools_ev (xs : List Bool) (hl : xs.length ≤ 140737488351232) : Ev (fun k => laws_toBoolS.f k xs) xs := by
  refine ⟨xs.length + 1, fun k hk => ?_⟩
  simp only [laws_toBoolS.f]
  rw [if_pos (by omega), if_pos (by omega)]
  have h := to_loop (fun k ys i => laws_toBoolS.l0 k xs ys i) xs id (fun k ys i h hy => ?_) (fun k ys hy => ?_) (List.replicate ((xs.length : Int) : Int).toNat false) (by simp) k (by omega)
  · rw [List.map_id] at h; exact h
  · simp only [laws_toBoolS.l0]
    rw [if_pos (by omega), if_pos (by omega), if_pos (by omega), w64s (by omega), rdOf_cast xs i h]
    rfl
  · simp only [laws_toBoolS.l0]
    rw [if_neg (by omega)]
theorem eqBools_ev (xs : List Bool) (hl : xs.length < 9223372036854775807) : Ev (fun k => laws_eqBoolS.f k xs xs) true := by
  unfold laws_eqBoolS.f
  simp only [if_true]
  have := all_ev (fun k i => laws_eqBoolS.l0 k xs xs i) xs.length true (fun _ => true) (fun i hi => ⟨0, fun k _ => ?_⟩) ⟨0, fun k _ => ?_⟩
  · rw [allB_const] at this; exact this
  · simp only [laws_eqBoolS.l0]
    rw [if_pos (by omega), if_pos (by omega), if_pos (by omega)]
    simp only [bne_self_eq_false, Bool.false_eq_true, if_false, if_true, w64s (show i < 9223372036854775807 by omega)]
  · simp only [laws_eqBoolS.l0]
    rw [if_neg (by omega)]

end Go.Proofs.Ytjodigojpjmdcaa.PFnExactReserveOf
namespace Go.Proofs.Ytjodigojpjmdcaa.Pure
open Go.RowKit Go.Proofs.YtjodigojpjmdcaaW.PrintWords Go.Proofs.YtjodigojpjmdcaaW.PLib Go.Proofs.Ytjodigojpjmdcaa.PFnExactReserveOf

abbrev UN := S67
/-- What the first i units that are on can make. -/
def sumU (xs : List UN) (on : List Bool) : Nat → Int
  | 0 => 0
  | i + 1 => if rdOf false on (i : Int) = true then sumU xs on i + (rd_T67 xs (i : Int)).f2 else sumU xs on i
theorem unit_most {xs : List UN} (h : validUnit xs = true) (i : Nat) (hi : i < xs.length) : 0 ≤ (rd_T67 xs (i : Int)).f2 ∧ (rd_T67 xs (i : Int)).f2 ≤ 100000 := by
  have := (validUnit_at h i hi).1
  rw [rdi_Unit xs i hi]
  unfold oneUnit mxU at this
  simp only [Bool.and_eq_true, decide_eq_true_eq] at this
  obtain ⟨_, _, ⟨h1, h2⟩, _⟩ := this
  refine ⟨?_, h2⟩
  split at h1 <;> omega
theorem sumU_b {xs : List UN} (h : validUnit xs = true) (on : List Bool) : ∀ i, i ≤ xs.length → 0 ≤ sumU xs on i ∧ sumU xs on i ≤ 100000 * (i : Int)
  | 0, _ => by simp [sumU]
  | i + 1, hi => by
    have h1 := sumU_b h on i (by omega)
    have h2 := unit_most h i (by omega)
    unfold sumU
    split <;> omega
def inR (a lo hi : Int) : Bool := decide (lo ≤ a) && decide (a ≤ hi)
theorem l00In_r (a b c : Int) : spec_l00In.f a b c = some (inR a b c) := l00In_eq a b c
theorem within_r (a b c : Int) : impl_within.f a b c = some (inR a b c) := within_eq a b c
def res (xs : List UN) (on : List Bool) (d : Int) : Int × Int := if validUnit xs = true then (if inR d 0 400000 = true then (if on.length = xs.length then (if sumU xs on xs.length < d then (0, 3) else (sumU xs on xs.length - d, 0)) else (0, 7)) else (0, 2)) else (0, 1)
def codeU (xs : List UN) (d : Int) : Int := if validUnit xs = true then (if inR d 0 400000 = true then 0 else 2) else 1
theorem one_ev (xs : List UN) (d : Int) (hs : smallUnit xs) : Ev (fun k => spec_l15One.f k xs d) (codeU xs d) := by
  unfold spec_l15One.f spec_l13Demand.f codeU
  refine Ev.bind (specUnitS_ev xs hs) ?_
  by_cases c : validUnit xs = true
  · simp only [if_pos c, l00In_r, Option.bind_some]
    by_cases c2 : inR d 0 400000 = true
    · simp only [if_pos c2]; exact Ev.now _
    · simp only [if_neg c2]; exact Ev.now _
  · simp only [if_neg c]; exact Ev.now _
theorem spec_ev (xs : List UN) (on : List Bool) (d : Int) (hs : smallUnit xs) : Ev (fun k => spec_ReserveOf.f k xs on d) (res xs on d) := by
  unfold spec_ReserveOf.f res
  refine Ev.bind (one_ev xs d hs) ?_
  unfold codeU
  · by_cases c : validUnit xs = true
    · have hn := validUnit_len c
      by_cases c2 : inR d 0 400000 = true
      · have hd := c2
        unfold inR at hd
        simp only [Bool.and_eq_true, decide_eq_true_eq] at hd
        simp only [if_pos c, if_pos c2, if_true]
        by_cases c3 : on.length = xs.length
        · simp only [if_pos c3, if_pos (show (on.length : Int) = (xs.length : Int) by omega)]
          refine fold_from (fun k s i => spec_ReserveOf.l0 k xs on d s i) 0 xs.length (sumU xs on) _ (Nat.zero_le _) (fun i _ hi r hr => Ev.succ ?_) (Ev.succ ?_)
          · have hb := sumU_b c on i (by omega)
            have hm := unit_most c i hi
            have e := w64 (x := sumU xs on i + (rd_T67 xs (i : Int)).f2) (by omega) (by omega)
            simp only [sumU] at hr
            simp only [spec_ReserveOf.l0, if_pos (show (i : Int) < (xs.length : Int) by omega), if_pos (show 0 ≤ (i : Int) by omega), if_pos (show (i : Int) < (on.length : Int) by omega), w64s (show i < 9223372036854775807 by omega), e]
            by_cases c4 : rdOf false on (i : Int) = true
            · simp only [if_pos c4] at hr ⊢; exact hr
            · simp only [if_neg c4] at hr ⊢; exact hr
          · have hb := sumU_b c on xs.length (Nat.le_refl _)
            simp only [spec_ReserveOf.l0, if_neg (show ¬ (xs.length : Int) < (xs.length : Int) by omega), w64 (x := sumU xs on xs.length - d) (by omega) (by omega)]
            by_cases c5 : sumU xs on xs.length < d
            · simp only [if_pos c5]; exact Ev.now _
            · simp only [if_neg c5]; exact Ev.now _
        · simp only [if_neg c3, if_neg (show ¬ (on.length : Int) = (xs.length : Int) by omega)]; exact Ev.now _
      · simp only [if_pos c, if_neg c2, if_neg (show ¬ (2 : Int) = 0 by decide)]; exact Ev.now _
    · simp only [if_neg c, if_neg (show ¬ (1 : Int) = 0 by decide)]; exact Ev.now _
theorem impl_ev (xs : List UN) (on : List Bool) (d : Int) (hs : smallUnit xs) : Ev (fun k => impl_ReserveOf.f k xs on d) (res xs on d) := by
  unfold impl_ReserveOf.f impl_demandOk.f res
  refine Ev.bind (implUnitS_ev xs hs) ?_
  by_cases c : validUnit xs = true
  · have hn := validUnit_len c
    simp only [if_pos c, within_r, Option.bind_some]
    by_cases c2 : inR d 0 400000 = true
    · have hd := c2
      unfold inR at hd
      simp only [Bool.and_eq_true, decide_eq_true_eq] at hd
      simp only [if_pos c2]
      by_cases c3 : on.length = xs.length
      · simp only [if_pos c3, if_pos (show (on.length : Int) = (xs.length : Int) by omega)]
        have h := fold_from (fun k s i => impl_ReserveOf.l0 k on s xs (xs.length : Int) i) 0 xs.length (fun i => sumU xs on i - d) (if sumU xs on xs.length < d then (0, 3) else (sumU xs on xs.length - d, 0)) (Nat.zero_le _) (fun i _ hi r hr => Ev.succ ?_) (Ev.succ ?_)
        · have e : wrap64 (-d) = sumU xs on 0 - d := by rw [w64 (by omega) (by omega)]; simp [sumU]
          rw [e]; exact h
        · have hb := sumU_b c on i (by omega)
          have hm := unit_most c i hi
          have e := w64 (x := sumU xs on i - d + (rd_T67 xs (i : Int)).f2) (by omega) (by omega)
          have hr : Ev (fun k => impl_ReserveOf.l0 k on (sumU xs on (i + 1) - d) xs (xs.length : Int) ((i + 1 : Nat) : Int)) r := hr
          simp only [sumU] at hr
          simp only [impl_ReserveOf.l0, if_pos (show (i : Int) < (xs.length : Int) by omega), if_pos (show 0 ≤ (i : Int) by omega), if_pos (show (i : Int) < (on.length : Int) by omega), w64s (show i < 9223372036854775807 by omega), e]
          by_cases c4 : rdOf false on (i : Int) = true
          · simp only [if_pos c4] at hr ⊢
            rw [show sumU xs on i - d + (rd_T67 xs (i : Int)).f2 = sumU xs on i + (rd_T67 xs (i : Int)).f2 - d by omega]; exact hr
          · simp only [if_neg c4] at hr ⊢; exact hr
        · have hb := sumU_b c on xs.length (Nat.le_refl _)
          simp only [impl_ReserveOf.l0, if_neg (show ¬ (xs.length : Int) < (xs.length : Int) by omega), impl_orNotFound.f]
          by_cases c5 : sumU xs on xs.length < d
          · simp only [if_pos c5, decide_eq_false (show ¬ sumU xs on xs.length - d ≥ 0 by omega), Bool.false_eq_true, if_false, Option.bind_some]; exact Ev.now _
          · simp only [if_neg c5, decide_eq_true (show sumU xs on xs.length - d ≥ 0 by omega), if_true, Option.bind_some]; exact Ev.now _
      · simp only [if_neg c3, if_neg (show ¬ (on.length : Int) = (xs.length : Int) by omega)]; exact Ev.now _
    · simp only [if_neg c2]; exact Ev.now _
  · simp only [if_neg c]; exact Ev.now _
theorem FnExactReserveOf : PFnExactReserveOf.Pure := by
  intro xs on d hx ho _
  obtain ⟨_, hl, hw⟩ := hx
  obtain ⟨_, hol, _⟩ := ho
  have hs : smallUnit (xs.map cvUnit) := ⟨by simp; omega, fun x hx => by
    obtain ⟨y, hy, rfl⟩ := List.mem_map.1 hx
    have h1 : y.f0.size ≤ 140737488351232 := (hw y hy).1
    show y.f0.size < _
    omega⟩
  obtain ⟨r, hr⟩ := szUnit_ev xs 1048576 (by omega)
  refine Ev.get ?_
  unfold laws_FnExactReserveOf.f
  by_cases cp : (on.length : Int) > 1048576
  · simp only [if_pos cp]; exact Ev.now _
  simp only [if_neg cp]
  refine Ev.bind hr ?_
  by_cases c : r < 0
  · simp only [if_pos c]; exact Ev.now _
  simp only [if_neg c]
  refine Ev.bind (toUnit_ev xs hl) (Ev.bind (toBools_ev on (by omega)) (Ev.bind (spec_ev _ on d hs) (Ev.bind (toUnit_ev xs hl) (Ev.bind (toBools_ev on (by omega)) (Ev.bind (impl_ev _ on d hs) ?_)))))
  simp only [bne_self_eq_false, if_true]
  refine Ev.succ ?_
  simp only [laws_FnExactReserveOf.j0, Bool.false_eq_true, if_false]
  refine Ev.bind (toUnit_ev xs hl) (Ev.bind (eqUnit_ev _ hs.1) ?_)
  simp only [if_true]
  refine Ev.bind (toBools_ev on (by omega)) (Ev.bind (eqBools_ev on (by omega)) ?_)
  simp only [if_true]; exact Ev.now _
end Go.Proofs.Ytjodigojpjmdcaa.Pure

