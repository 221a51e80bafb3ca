/- The law FnExactValidState, in numbers and lists alone: the program's ValidState and the reference's give one answer, and the state stays as it was. No condition. -/
import Derived.Test.YtiioinedejdfcaaQFnExactValidState
import Derived.Test.YtiioinedejdfcaaPLib
set_option linter.unusedVariables false
set_option linter.unusedSimpArgs false
namespace Go.Proofs.Ytiioinedejdfcaa.PFnExactValidState
open Go.RowKit Go.Proofs.YtiioinedejdfcaaW.PrintWords Go.Proofs.YtiioinedejdfcaaW.PLib
theorem l00In_eq (a b c : Int) : spec_l00In.f a b c = some (decide (b ≤ a) && decide (a ≤ c)) := by
  unfold spec_l00In.f; by_cases h : a ≥ b
  · rw [if_pos h]; simp [show b ≤ a from h]
  · rw [if_neg h]; simp [show ¬ b ≤ a from h]

theorem within_eq (a b c : Int) : impl_within.f a b c = some (decide (b ≤ a) && decide (a ≤ c)) := by
  unfold impl_within.f; by_cases h : a ≥ b
  · rw [if_pos h]; simp [show b ≤ a from h]
  · rw [if_neg h]; simp [show ¬ b ≤ a from h]

/-! names -/
def smallB (c : Int) : Bool := decide (97 ≤ c) && decide (c ≤ 122)
def digitB (c : Int) : Bool := decide (48 ≤ c) && decide (c ≤ 57)
def nameB (s : ByteArray) : Bool := (decide (1 ≤ s.size) && decide (s.size ≤ 10)) && (smallB (bt s 0) && allB (fun i => smallB (bt s i) || digitB (bt s i)) s.size)
theorem small_eq (c : Int) : spec_l01Small.f c = some (smallB c) := by
  unfold spec_l01Small.f smallB; by_cases h : c ≥ 97
  · rw [if_pos h]; simp [show 97 ≤ c from h]
  · rw [if_neg h]; simp [show ¬ 97 ≤ c from h]
theorem digit_eq (c : Int) : spec_l01Digit.f c = some (digitB c) := by
  unfold spec_l01Digit.f digitB; by_cases h : c ≥ 48
  · rw [if_pos h]; simp [show 48 ≤ c from h]
  · rw [if_neg h]; simp [show ¬ 48 ≤ c from h]
theorem specName_loop (s : ByteArray) (hs : s.size < 9223372036854775807) : Ev (fun k => spec_l01Name.l0 k s 0) (allB (fun i => smallB (bt s i) || digitB (bt s i)) s.size && true) := by
  refine all_ev (fun k i => spec_l01Name.l0 k s i) s.size true _ (fun i hi => ⟨0, fun k _ => ?_⟩) ⟨0, fun k _ => ?_⟩
  · simp only [spec_l01Name.l0]
    rw [if_pos (by omega), if_pos (by omega)]
    simp only [small_eq, digit_eq, Option.bind_some, w64s (show i < 9223372036854775807 by omega)]
    by_cases c1 : smallB (bt s i) = true
    · simp [c1]
    · simp only [Bool.not_eq_true] at c1
      by_cases c2 : digitB (bt s i) = true
      · simp [c1, c2]
      · simp only [Bool.not_eq_true] at c2; simp [c1, c2]
  · simp only [spec_l01Name.l0]
    rw [if_neg (by omega)]
theorem specName_ev (s : ByteArray) (hs : s.size < 9223372036854775807) : Ev (fun k => spec_l01Name.f k s) (nameB s) := by
  obtain ⟨K, hK⟩ := specName_loop s hs
  refine ⟨K + 1, fun k hk => ?_⟩
  obtain ⟨k, rfl⟩ : ∃ m, k = m + 1 := ⟨k - 1, by omega⟩
  unfold spec_l01Name.f nameB
  simp only [spec_l01Name.j0, hK k (by omega), small_eq, Option.bind_some]
  by_cases c1 : s.toList = ([] : List UInt8)
  · rw [if_pos c1]
    have : s.size = 0 := by
      have := congrArg List.length c1
      simpa [ByteArray.toList_eq] using this
    simp [this]
  · rw [if_neg c1]
    have h0 : 1 ≤ s.size := by
      rcases Nat.eq_zero_or_pos s.size with h | h
      · exact absurd (by
          have : s.data.toList = [] := List.eq_nil_of_length_eq_zero (by rw [Array.length_toList]; exact h)
          simpa [ByteArray.toList_eq] using this) c1
      · exact h
    by_cases c2 : (s.size : Int) > 10
    · rw [if_pos c2, decide_eq_false (show ¬ s.size ≤ 10 by omega)]; simp
    · rw [if_neg c2, if_pos (by omega), decide_eq_true (show s.size ≤ 10 by omega), decide_eq_true h0]
      by_cases c3 : smallB (bt s 0) = true
      · simp [c3]
      · simp only [Bool.not_eq_true] at c3; simp [c3]
theorem implName_loop (s : ByteArray) (hs : s.size < 9223372036854775807) : Ev (fun k => impl_onlyNameBytes.f k s) (allB (fun i => smallB (bt s i) || digitB (bt s i)) s.size && true) := by
  unfold impl_onlyNameBytes.f
  refine all_ev (fun k i => impl_onlyNameBytes.l0 k s (s.size : Int) i) s.size true _ (fun i hi => ⟨0, fun k _ => ?_⟩) ⟨0, fun k _ => ?_⟩
  · simp only [impl_onlyNameBytes.l0]
    rw [if_pos (by omega), if_pos (by omega), if_pos (by omega)]
    simp only [w64s (show i < 9223372036854775807 by omega), smallB, digitB]
    by_cases a : bt s i < 97 <;> by_cases b : bt s i < 48 <;> by_cases c : bt s i > 57 <;> by_cases d : bt s i > 122 <;> simp [a, b, c, d] <;> omega
  · simp only [impl_onlyNameBytes.l0]
    rw [if_neg (by omega)]
theorem implName_ev (s : ByteArray) (hs : s.size < 9223372036854775807) : Ev (fun k => impl_IsName.f k s) (nameB s) := by
  obtain ⟨K, hK⟩ := implName_loop s hs
  refine ⟨K, fun k hk => ?_⟩
  unfold impl_IsName.f nameB
  simp only [hK k hk, Option.bind_some]
  by_cases c1 : (s.size : Int) < 1
  · rw [if_pos c1, decide_eq_false (show ¬ 1 ≤ s.size by omega)]; simp
  · rw [if_neg c1, decide_eq_true (show 1 ≤ s.size by omega)]
    by_cases c2 : (s.size : Int) > 10
    · rw [if_pos c2, decide_eq_false (show ¬ s.size ≤ 10 by omega)]; simp
    · rw [if_neg c2, if_pos (by omega), decide_eq_true (show s.size ≤ 10 by omega)]
      unfold smallB
      by_cases a : bt s 0 < 97
      · rw [if_pos a, decide_eq_false (show ¬ 97 ≤ bt s 0 by omega)]; simp
      · rw [if_neg a, decide_eq_true (show 97 ≤ bt s 0 by omega)]
        by_cases b : bt s 0 > 122
        · rw [if_pos b, decide_eq_false (show ¬ bt s 0 ≤ 122 by omega)]; simp
        · rw [if_neg b, decide_eq_true (show bt s 0 ≤ 122 by omega)]; simp

/-! Setting -/
theorem rdl_Setting (xs : List S116) (i : Nat) (h : i < xs.length) : rd_T116 xs (i : Int) = xs[i] := by unfold rd_T116; exact getD_cast xs i h _
theorem rdi_Setting (xs : List S117) (i : Nat) (h : i < xs.length) : rd_T117 xs (i : Int) = xs[i] := by unfold rd_T117; exact getD_cast xs i h _
def cvSetting (x : S116) : S117 := ⟨x.f0, x.f1⟩
theorem toSetting_ev (xs : List S116) (hl : xs.length * 24 ≤ 140737488351232) : Ev (fun k => laws_toSettingS.f k xs) (xs.map cvSetting) := by
  refine ⟨xs.length + 1, fun k hk => ?_⟩
  simp only [laws_toSettingS.f]
  rw [if_pos (by omega), if_pos (by omega)]
  refine to_loop (fun k ys i => laws_toSettingS.l0 k xs ys i) xs cvSetting (fun k ys i h hy => ?_) (fun k ys hy => ?_) _ (by simp) k (by omega)
  · simp only [laws_toSettingS.l0]
    rw [if_pos (by omega), if_pos (by omega)]
    simp only [laws_toSetting.f, Option.bind_some, rdl_Setting xs i h]
    rw [if_pos (by omega), w64s (by omega)]
    rfl
  · simp only [laws_toSettingS.l0]
    rw [if_neg (by omega)]
theorem eqSetting_ev (xs : List S117) (hl : xs.length < 9223372036854775807) : Ev (fun k => laws_eqSettingS.f k xs xs) true := by
  unfold laws_eqSettingS.f
  simp only [if_true]
  have := all_ev (fun k i => laws_eqSettingS.l0 k xs xs i) xs.length true (fun _ => true) (fun i hi => ⟨0, fun k _ => ?_⟩) ⟨0, fun k _ => ?_⟩
  · rw [allB_const] at this; exact this
  · simp only [laws_eqSettingS.l0]
    rw [if_pos (by omega), if_pos (by omega), if_pos (by omega)]
    simp only [laws_eqSetting.f, if_true, Option.bind_some, w64s (show i < 9223372036854775807 by omega)]
  · simp only [laws_eqSettingS.l0]
    rw [if_neg (by omega)]
theorem szSetting_ev (xs : List S116) (a : Int) (hl : xs.length < 9223372036854775807) : ∃ r, Ev (fun k => laws_szSettingS.f k xs a) r := by
  unfold laws_szSettingS.f
  by_cases c : wrap64 (a - (xs.length : Int)) < 0
  · exact ⟨-1, by simp only [if_pos c]; exact Ev.now _⟩
  · simp only [if_neg c]
    refine tot_ev (fun k s i => laws_szSettingS.l0 k xs s i) xs.length (fun i s hi => ?_) (fun s => ⟨s, 0, fun k _ => ?_⟩) xs.length 0 _ (by omega)
    · obtain ⟨t, ht⟩ : ∃ t, laws_szSetting.f ((rd_T116 xs i).f0) ((rd_T116 xs i).f1) s = some t := by
        unfold laws_szSetting.f
        repeat' split
        all_goals exact ⟨_, rfl⟩
      by_cases c2 : t < 0
      · refine .inl ⟨-1, 0, fun k _ => ?_⟩
        simp only [laws_szSettingS.l0]
        rw [if_pos (by omega), if_pos (by omega), ht]
        simp only [Option.bind_some]
        rw [if_pos c2]
      · refine .inr ⟨t, 0, fun k _ => ?_⟩
        simp only [laws_szSettingS.l0]
        rw [if_pos (by omega), if_pos (by omega), ht]
        simp only [Option.bind_some]
        rw [if_neg c2, w64s (by omega)]
    · simp only [laws_szSettingS.l0]
      rw [if_neg (by omega)]

abbrev E := S117
def oneB (x : E) : Bool := nameB x.f0 && (decide (0 ≤ x.f1) && decide (x.f1 ≤ 1000))
def okB (xs : List E) (i : Nat) : Bool := if h : i < xs.length then oneB xs[i] && (decide (i = 0) || Op.bytesLess (xs[i - 1].f0.toList) (xs[i].f0.toList)) else false
def small (xs : List E) : Prop := xs.length < 9223372036854775807 ∧ ∀ x ∈ xs, x.f0.size < 9223372036854775807
theorem specOne (x : E) (h : x.f0.size < 9223372036854775807) : Ev (fun k => spec_l27Setting.f k [x]) (oneB x) := by
  refine Ev.then_ (specName_ev x.f0 h) fun k e => ?_
  unfold spec_l27Setting.f oneB
  rw [if_pos (by simp)]
  show ((spec_l01Name.f k x.f0).bind _) = _
  rw [e, Option.bind_some]
  by_cases c : nameB x.f0 = true
  · rw [if_pos c, c]
    show ((spec_l00In.f x.f1 0 1000).bind _) = _
    rw [l00In_eq]; simp
  · rw [if_neg c]; simp only [Bool.not_eq_true] at c; simp [c]
theorem implOne (x : E) (h : x.f0.size < 9223372036854775807) : Ev (fun k => impl_Setting_valid.f k x.f0 x.f1) (oneB x) := by
  refine Ev.then_ (implName_ev x.f0 h) fun k e => ?_
  unfold impl_Setting_valid.f oneB
  rw [e, Option.bind_some]
  by_cases c : nameB x.f0 = true
  · rw [if_pos c, c, within_eq]; simp
  · rw [if_neg c]; simp only [Bool.not_eq_true] at c; simp [c]
theorem spec_ev (xs : List E) (h : small xs) : Ev (fun k => spec_ValidState.f k xs) (allB (okB xs) xs.length && decide ((xs.length : Int) ≤ 24)) := by
  obtain ⟨hl, hx⟩ := h
  unfold spec_ValidState.f spec_l27State.f
  refine Ev.bind (all_ev (fun k i => spec_l27State.l0 k xs i) xs.length _ (okB xs) (fun i hi => ?_) ⟨0, fun k _ => ?_⟩) (Ev.now _)
  · refine Ev.with_ (specOne xs[i] (hx _ (List.getElem_mem hi))) fun k e => ?_
    simp only [spec_l27State.l0]
    rw [if_pos (by omega), if_pos (by omega), rdi_Setting xs i hi, e, Option.bind_some, w64s (by omega)]
    by_cases c1 : oneB xs[i] = true
    · rw [if_pos c1]
      by_cases c2 : i = 0
      · rw [if_neg (by omega)]; simp [okB, hi, c1, c2]; subst c2; simp [c1, hi]
      · have e1 : wrap64 ((i : Int) - 1) = ((i - 1 : Nat) : Int) := by rw [w64] <;> omega
        rw [if_pos (by omega), e1, if_pos (by omega), if_pos (by omega), rdi_Setting xs (i - 1) (by omega)]
        simp [okB, hi, c1, c2]
    · rw [if_neg c1]; simp only [Bool.not_eq_true] at c1; simp [okB, hi, c1]
  · simp only [spec_l27State.l0]
    rw [if_neg (by omega)]
theorem impl_ev (xs : List E) (h : small xs) : Ev (fun k => impl_ValidState.f k xs) (allB (okB xs) xs.length && decide ((xs.length : Int) ≤ 24)) := by
  obtain ⟨hl, hx⟩ := h
  unfold impl_ValidState.f
  by_cases c : (xs.length : Int) > 24
  · simp only [if_pos c]
    rw [decide_eq_false (show ¬ (xs.length : Int) ≤ 24 by omega), Bool.and_false]; exact Ev.now _
  simp only [if_neg c]
  rw [decide_eq_true (show (xs.length : Int) ≤ 24 by omega)]
  refine all_ev (fun k i => impl_ValidState.l0 k xs xs (xs.length : Int) i) xs.length true (okB xs) (fun i hi => ?_) ⟨0, fun k _ => ?_⟩
  · refine Ev.with_ (implOne xs[i] (hx _ (List.getElem_mem hi))) fun k e => ?_
    simp only [impl_ValidState.l0]
    rw [if_pos (by omega), if_pos (by omega), if_pos (by omega), rdi_Setting xs i hi, e, Option.bind_some, w64s (by omega)]
    by_cases c1 : oneB xs[i] = true
    · rw [if_pos c1]
      by_cases c2 : i = 0
      · rw [if_neg (by omega)]; simp [okB, hi, c1, c2]; subst c2; simp [c1, hi]
      · have e1 : wrap64 ((i : Int) - 1) = ((i - 1 : Nat) : Int) := by rw [w64] <;> omega
        rw [if_pos (by omega), e1, if_pos (by omega), if_pos (by omega), rdi_Setting xs (i - 1) (by omega)]
        simp [okB, hi, c1, c2]
    · rw [if_neg c1]; simp only [Bool.not_eq_true] at c1; simp [okB, hi, c1]
  · simp only [impl_ValidState.l0]
    rw [if_neg (by omega)]
end Go.Proofs.Ytiioinedejdfcaa.PFnExactValidState
namespace Go.Proofs.Ytiioinedejdfcaa.Pure
open Go.RowKit Go.Proofs.YtiioinedejdfcaaW.PrintWords Go.Proofs.YtiioinedejdfcaaW.PLib Go.Proofs.Ytiioinedejdfcaa.PFnExactValidState
theorem FnExactValidState : PFnExactValidState.Pure := by
  intro xs hx
  obtain ⟨_, hl, hw⟩ := hx
  have hs : small (xs.map cvSetting) := ⟨by simp; omega, fun x hx => by
    obtain ⟨y, hy, rfl⟩ := List.mem_map.1 hx
    have h1 : y.f0.size ≤ 140737488351232 := (hw y hy).1
    show y.f0.size < _
    omega⟩
  obtain ⟨r, hr⟩ := szSetting_ev xs 1048576 (by omega)
  refine Ev.get ?_
  unfold laws_FnExactValidState.f
  refine Ev.bind hr ?_
  by_cases c : r < 0
  · simp only [if_pos c]; exact Ev.now _
  simp only [if_neg c]
  refine Ev.bind (toSetting_ev xs hl) (Ev.bind (spec_ev _ hs) (Ev.bind (toSetting_ev xs hl) (Ev.bind (impl_ev _ hs) ?_)))
  simp only [bne_self_eq_false, Bool.false_eq_true, if_false]
  refine Ev.bind (toSetting_ev xs hl) (Ev.bind (eqSetting_ev _ hs.1) ?_)
  simp only [if_true]; exact Ev.now _
end Go.Proofs.Ytiioinedejdfcaa.Pure
