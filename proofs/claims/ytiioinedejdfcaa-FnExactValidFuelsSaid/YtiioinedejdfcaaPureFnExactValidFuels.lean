/- The law FnExactValidFuels, in numbers and lists alone: the program's ValidFuels and the reference's give one answer, and the list stays as it was. No condition. -/
import Derived.Test.YtiioinedejdfcaaQFnExactValidFuels
import Derived.Test.YtiioinedejdfcaaPLib
set_option linter.unusedVariables false
set_option linter.unusedSimpArgs false
namespace Go.Proofs.Ytiioinedejdfcaa.PFnExactValidFuels
open Go.RowKit Go.Proofs.YtiioinedejdfcaaW.PrintWords Go.Proofs.YtiioinedejdfcaaW.PLib

theorem l00In_eq (a b c : Int) : spec_l00In.f a b c = some (decide (b ≤ a) && decide (a ≤ c)) := by
  unfold spec_l00In.f; by_cases h : a ≥ b
  · rw [if_pos h]; simp [show b ≤ a from h]
  · rw [if_neg h]; simp [show ¬ b ≤ a from h]

theorem within_eq (a b c : Int) : impl_within.f a b c = some (decide (b ≤ a) && decide (a ≤ c)) := by
  unfold impl_within.f; by_cases h : a ≥ b
  · rw [if_pos h]; simp [show b ≤ a from h]
  · rw [if_neg h]; simp [show ¬ b ≤ a from h]

/-! names -/
def smallB (c : Int) : Bool := decide (97 ≤ c) && decide (c ≤ 122)
def digitB (c : Int) : Bool := decide (48 ≤ c) && decide (c ≤ 57)
def nameB (s : ByteArray) : Bool := (decide (1 ≤ s.size) && decide (s.size ≤ 10)) && (smallB (bt s 0) && allB (fun i => smallB (bt s i) || digitB (bt s i)) s.size)
theorem small_eq (c : Int) : spec_l01Small.f c = some (smallB c) := by
  unfold spec_l01Small.f smallB; by_cases h : c ≥ 97
  · rw [if_pos h]; simp [show 97 ≤ c from h]
  · rw [if_neg h]; simp [show ¬ 97 ≤ c from h]
theorem digit_eq (c : Int) : spec_l01Digit.f c = some (digitB c) := by
  unfold spec_l01Digit.f digitB; by_cases h : c ≥ 48
  · rw [if_pos h]; simp [show 48 ≤ c from h]
  · rw [if_neg h]; simp [show ¬ 48 ≤ c from h]
theorem specName_loop (s : ByteArray) (hs : s.size < 9223372036854775807) : Ev (fun k => spec_l01Name.l0 k s 0) (allB (fun i => smallB (bt s i) || digitB (bt s i)) s.size && true) := by
  refine all_ev (fun k i => spec_l01Name.l0 k s i) s.size true _ (fun i hi => ⟨0, fun k _ => ?_⟩) ⟨0, fun k _ => ?_⟩
  · simp only [spec_l01Name.l0]
    rw [if_pos (by omega), if_pos (by omega)]
    simp only [small_eq, digit_eq, Option.bind_some, w64s (show i < 9223372036854775807 by omega)]
    by_cases c1 : smallB (bt s i) = true
    · simp [c1]
    · simp only [Bool.not_eq_true] at c1
      by_cases c2 : digitB (bt s i) = true
      · simp [c1, c2]
      · simp only [Bool.not_eq_true] at c2; simp [c1, c2]
  · simp only [spec_l01Name.l0]
    rw [if_neg (by omega)]
theorem specName_ev (s : ByteArray) (hs : s.size < 9223372036854775807) : Ev (fun k => spec_l01Name.f k s) (nameB s) := by
  obtain ⟨K, hK⟩ := specName_loop s hs
  refine ⟨K + 1, fun k hk => ?_⟩
  obtain ⟨k, rfl⟩ : ∃ m, k = m + 1 := ⟨k - 1, by omega⟩
  unfold spec_l01Name.f nameB
  simp only [spec_l01Name.j0, hK k (by omega), small_eq, Option.bind_some]
  by_cases c1 : s.toList = ([] : List UInt8)
  · rw [if_pos c1]
    have : s.size = 0 := by
      have := congrArg List.length c1
      simpa [ByteArray.toList_eq] using this
    simp [this]
  · rw [if_neg c1]
    have h0 : 1 ≤ s.size := by
      rcases Nat.eq_zero_or_pos s.size with h | h
      · exact absurd (by
          have : s.data.toList = [] := List.eq_nil_of_length_eq_zero (by rw [Array.length_toList]; exact h)
          simpa [ByteArray.toList_eq] using this) c1
      · exact h
    by_cases c2 : (s.size : Int) > 10
    · rw [if_pos c2, decide_eq_false (show ¬ s.size ≤ 10 by omega)]; simp
    · rw [if_neg c2, if_pos (by omega), decide_eq_true (show s.size ≤ 10 by omega), decide_eq_true h0]
      by_cases c3 : smallB (bt s 0) = true
      · simp [c3]
      · simp only [Bool.not_eq_true] at c3; simp [c3]
theorem implName_loop (s : ByteArray) (hs : s.size < 9223372036854775807) : Ev (fun k => impl_onlyNameBytes.f k s) (allB (fun i => smallB (bt s i) || digitB (bt s i)) s.size && true) := by
  unfold impl_onlyNameBytes.f
  refine all_ev (fun k i => impl_onlyNameBytes.l0 k s (s.size : Int) i) s.size true _ (fun i hi => ⟨0, fun k _ => ?_⟩) ⟨0, fun k _ => ?_⟩
  · simp only [impl_onlyNameBytes.l0]
    rw [if_pos (by omega), if_pos (by omega), if_pos (by omega)]
    simp only [w64s (show i < 9223372036854775807 by omega), smallB, digitB]
    by_cases a : bt s i < 97 <;> by_cases b : bt s i < 48 <;> by_cases c : bt s i > 57 <;> by_cases d : bt s i > 122 <;> simp [a, b, c, d] <;> omega
  · simp only [impl_onlyNameBytes.l0]
    rw [if_neg (by omega)]
theorem implName_ev (s : ByteArray) (hs : s.size < 9223372036854775807) : Ev (fun k => impl_IsName.f k s) (nameB s) := by
  obtain ⟨K, hK⟩ := implName_loop s hs
  refine ⟨K, fun k hk => ?_⟩
  unfold impl_IsName.f nameB
  simp only [hK k hk, Option.bind_some]
  by_cases c1 : (s.size : Int) < 1
  · rw [if_pos c1, decide_eq_false (show ¬ 1 ≤ s.size by omega)]; simp
  · rw [if_neg c1, decide_eq_true (show 1 ≤ s.size by omega)]
    by_cases c2 : (s.size : Int) > 10
    · rw [if_pos c2, decide_eq_false (show ¬ s.size ≤ 10 by omega)]; simp
    · rw [if_neg c2, if_pos (by omega), decide_eq_true (show s.size ≤ 10 by omega)]
      unfold smallB
      by_cases a : bt s 0 < 97
      · rw [if_pos a, decide_eq_false (show ¬ 97 ≤ bt s 0 by omega)]; simp
      · rw [if_neg a, decide_eq_true (show 97 ≤ bt s 0 by omega)]
        by_cases b : bt s 0 > 122
        · rw [if_pos b, decide_eq_false (show ¬ bt s 0 ≤ 122 by omega)]; simp
        · rw [if_neg b, decide_eq_true (show bt s 0 ≤ 122 by omega)]; simp

/-! Fuel -/
theorem rdl_Fuel (xs : List S129) (i : Nat) (h : i < xs.length) : rd_T129 xs (i : Int) = xs[i] := by unfold rd_T129; exact getD_cast xs i h _
theorem rdi_Fuel (xs : List S130) (i : Nat) (h : i < xs.length) : rd_T130 xs (i : Int) = xs[i] := by unfold rd_T130; exact getD_cast xs i h _
theorem rd1_Fuel (x : S130) : rd_T130 [x] 0 = x := rfl
def cvFuel (x : S129) : S130 := ⟨x.f0, x.f1, x.f2, x.f3⟩
theorem toFuel_ev (xs : List S129) (hl : xs.length * 40 ≤ 140737488351232) : Ev (fun k => laws_toFuelS.f k xs) (xs.map cvFuel) := by
  refine ⟨xs.length + 1, fun k hk => ?_⟩
  simp only [laws_toFuelS.f]
  rw [if_pos (by omega), if_pos (by omega)]
  refine to_loop (fun k ys i => laws_toFuelS.l0 k xs ys i) xs cvFuel (fun k ys i h hy => ?_) (fun k ys hy => ?_) _ (by simp) k (by omega)
  · simp only [laws_toFuelS.l0]
    rw [if_pos (by omega), if_pos (by omega)]
    simp only [laws_toFuel.f, Option.bind_some, rdl_Fuel xs i h]
    rw [if_pos (by omega), w64s (by omega)]
    rfl
  · simp only [laws_toFuelS.l0]
    rw [if_neg (by omega)]
theorem eqFuel_ev (xs : List S130) (hl : xs.length < 9223372036854775807) : Ev (fun k => laws_eqFuelS.f k xs xs) true := by
  unfold laws_eqFuelS.f
  simp only [if_true]
  have := all_ev (fun k i => laws_eqFuelS.l0 k xs xs i) xs.length true (fun _ => true) (fun i hi => ⟨0, fun k _ => ?_⟩) ⟨0, fun k _ => ?_⟩
  · rw [allB_const] at this; exact this
  · simp only [laws_eqFuelS.l0]
    rw [if_pos (by omega), if_pos (by omega), if_pos (by omega)]
    simp only [laws_eqFuel.f, if_true, Option.bind_some, w64s (show i < 9223372036854775807 by omega)]
  · simp only [laws_eqFuelS.l0]
    rw [if_neg (by omega)]
theorem szFuel_ev (xs : List S129) (a : Int) (hl : xs.length < 9223372036854775807) : ∃ r, Ev (fun k => laws_szFuelS.f k xs a) r := by
  unfold laws_szFuelS.f
  by_cases c : wrap64 (a - (xs.length : Int)) < 0
  · exact ⟨-1, by simp only [if_pos c]; exact Ev.now _⟩
  · simp only [if_neg c]
    refine tot_ev (fun k s i => laws_szFuelS.l0 k xs s i) xs.length (fun i s hi => ?_) (fun s => ⟨s, 0, fun k _ => ?_⟩) xs.length 0 _ (by omega)
    · obtain ⟨t, ht⟩ : ∃ t, laws_szFuel.f ((rd_T129 xs i).f0) ((rd_T129 xs i).f1) ((rd_T129 xs i).f2) ((rd_T129 xs i).f3) s = some t := by
        unfold laws_szFuel.f
        repeat' split
        all_goals exact ⟨_, rfl⟩
      by_cases c2 : t < 0
      · refine .inl ⟨-1, 0, fun k _ => ?_⟩
        simp only [laws_szFuelS.l0]
        rw [if_pos (by omega), if_pos (by omega), ht]
        simp only [Option.bind_some]
        rw [if_pos c2]
      · refine .inr ⟨t, 0, fun k _ => ?_⟩
        simp only [laws_szFuelS.l0]
        rw [if_pos (by omega), if_pos (by omega), ht]
        simp only [Option.bind_some]
        rw [if_neg c2, w64s (by omega)]
    · simp only [laws_szFuelS.l0]
      rw [if_neg (by omega)]

/-! valid lists of Fuel -/
def oneFuel (x : S130) : Bool := nameB x.f0 && ((decide (0 ≤ x.f1) && decide (x.f1 ≤ 20)) && ((decide (0 ≤ x.f2) && decide (x.f2 ≤ 1000)) && (decide (0 ≤ x.f3) && decide (x.f3 ≤ 20))))
def adjFuel (p x : S130) : Bool := Op.bytesLess (p.f0.toList) (x.f0.toList)
def okFuel (xs : List S130) (i : Nat) : Bool := if h : i < xs.length then oneFuel xs[i] && (decide (i = 0) || adjFuel xs[i - 1] xs[i]) else false
def validFuel (xs : List S130) : Bool := allB (okFuel xs) xs.length && decide ((xs.length : Int) ≤ 6)
def smFuel (x : S130) : Prop := x.f0.size < 9223372036854775807
def smallFuel (xs : List S130) : Prop := xs.length < 9223372036854775807 ∧ ∀ x ∈ xs, smFuel x
theorem specOneFuel_ev (x : S130) (h : smFuel x) : Ev (fun k => spec_l16One.f k [x]) (oneFuel x) := by
  refine Ev.then_ (specName_ev x.f0 h) fun k e => ?_
  unfold spec_l16One.f oneFuel
  rw [if_pos (by simp)]
  simp only [rd1_Fuel, e, Option.bind_some, l00In_eq,  ifs, ifn]
theorem implOneFuel_ev (x : S130) (h : smFuel x) : Ev (fun k => impl_Fuel_valid.f k x.f0 x.f1 x.f2 x.f3) (oneFuel x) := by
  refine Ev.then_ (implName_ev x.f0 h) fun k e => ?_
  unfold impl_Fuel_valid.f oneFuel
  simp only [e, Option.bind_some, within_eq,  ifs, ifn]
theorem specFuelS_ev (xs : List S130) (h : smallFuel xs) : Ev (fun k => spec_l16Ok.f k xs) (validFuel xs) := by
  obtain ⟨hl, hx⟩ := h
  unfold spec_l16Ok.f validFuel
  refine all_ev (fun k i => spec_l16Ok.l0 k xs i) xs.length _ (okFuel xs) (fun i hi => ?_) ⟨0, fun k _ => ?_⟩
  · refine Ev.with_ (specOneFuel_ev xs[i] (hx _ (List.getElem_mem hi))) fun k e => ?_
    simp only [spec_l16Ok.l0]
    rw [if_pos (by omega), if_pos (by omega), rdi_Fuel xs i hi, e, Option.bind_some, w64s (by omega)]
    by_cases c1 : oneFuel xs[i] = true
    · rw [if_pos c1]
      by_cases c2 : i = 0
      · rw [if_neg (by omega), if_pos (by unfold okFuel; rw [dif_pos hi, c1, decide_eq_true c2]; rfl)]
      · have e1 : wrap64 ((i : Int) - 1) = ((i - 1 : Nat) : Int) := by rw [w64] <;> omega
        rw [if_pos (by omega), e1, if_pos (by omega), if_pos (by omega), rdi_Fuel xs (i - 1) (by omega)]
        rw [show okFuel xs i = adjFuel xs[i - 1] xs[i] from by unfold okFuel; rw [dif_pos hi, c1, decide_eq_false c2, Bool.true_and, Bool.false_or]]
        unfold adjFuel
        rfl
    · rw [if_neg c1, if_neg (by unfold okFuel; simp only [Bool.not_eq_true] at c1; rw [dif_pos hi, c1]; simp)]
  · simp only [spec_l16Ok.l0]
    rw [if_neg (by omega)]
theorem implFuelS_ev (xs : List S130) (h : smallFuel xs) : Ev (fun k => impl_ValidFuels.f k xs) (validFuel xs) := by
  obtain ⟨hl, hx⟩ := h
  unfold impl_ValidFuels.f validFuel
  by_cases c : (xs.length : Int) > 6
  · simp only [if_pos c]
    rw [decide_eq_false (show ¬ (xs.length : Int) ≤ 6 by omega), Bool.and_false]; exact Ev.now _
  simp only [if_neg c]
  rw [decide_eq_true (show (xs.length : Int) ≤ 6 by omega)]
  refine all_ev (fun k i => impl_ValidFuels.l0 k xs xs (xs.length : Int) i) xs.length true (okFuel xs) (fun i hi => ?_) ⟨0, fun k _ => ?_⟩
  · refine Ev.with_ (implOneFuel_ev xs[i] (hx _ (List.getElem_mem hi))) fun k e => ?_
    simp only [impl_ValidFuels.l0]
    rw [if_pos (by omega), if_pos (by omega), if_pos (by omega), rdi_Fuel xs i hi, e, Option.bind_some, w64s (by omega)]
    by_cases c1 : oneFuel xs[i] = true
    · rw [if_pos c1]
      by_cases c2 : i = 0
      · rw [if_neg (by omega), if_pos (by unfold okFuel; rw [dif_pos hi, c1, decide_eq_true c2]; rfl)]
      · have e1 : wrap64 ((i : Int) - 1) = ((i - 1 : Nat) : Int) := by rw [w64] <;> omega
        rw [if_pos (by omega), e1, if_pos (by omega), if_pos (by omega), rdi_Fuel xs (i - 1) (by omega)]
        rw [show okFuel xs i = adjFuel xs[i - 1] xs[i] from by unfold okFuel; rw [dif_pos hi, c1, decide_eq_false c2, Bool.true_and, Bool.false_or]]
        unfold adjFuel
        rfl
    · rw [if_neg c1, if_neg (by unfold okFuel; simp only [Bool.not_eq_true] at c1; rw [dif_pos hi, c1]; simp)]
  · simp only [impl_ValidFuels.l0]
    rw [if_neg (by omega)]
theorem validFuel_len {xs : List S130} (h : validFuel xs = true) : (xs.length : Int) ≤ 6 := by
  unfold validFuel at h
  simp only [Bool.and_eq_true, decide_eq_true_eq] at h
  exact h.2
theorem validFuel_at {xs : List S130} (h : validFuel xs = true) (i : Nat) (hi : i < xs.length) : oneFuel xs[i] = true ∧ (0 < i → adjFuel xs[i - 1] xs[i] = true) := by
  unfold validFuel at h
  simp only [Bool.and_eq_true] at h
  have := allB_true.1 h.1 i hi
  unfold okFuel at this
  rw [dif_pos hi] at this
  simp only [Bool.and_eq_true, Bool.or_eq_true, decide_eq_true_eq] at this
  exact ⟨this.1, fun h0 => by rcases this.2 with h1 | h1; omega; exact h1⟩

end Go.Proofs.Ytiioinedejdfcaa.PFnExactValidFuels
namespace Go.Proofs.Ytiioinedejdfcaa.Pure
open Go.RowKit Go.Proofs.YtiioinedejdfcaaW.PrintWords Go.Proofs.YtiioinedejdfcaaW.PLib Go.Proofs.Ytiioinedejdfcaa.PFnExactValidFuels

theorem FnExactValidFuels : PFnExactValidFuels.Pure := by
  intro xs hx
  obtain ⟨_, hl, hw⟩ := hx
  have hs : smallFuel (xs.map cvFuel) := ⟨by simp; omega, fun x hx => by
    obtain ⟨y, hy, rfl⟩ := List.mem_map.1 hx
    have h1 : y.f0.size ≤ 140737488351232 := (hw y hy).1
    show y.f0.size < _
    omega⟩
  obtain ⟨r, hr⟩ := szFuel_ev xs 1048576 (by omega)
  refine Ev.get ?_
  unfold laws_FnExactValidFuels.f
  refine Ev.bind hr ?_
  by_cases c : r < 0
  · simp only [if_pos c]; exact Ev.now _
  simp only [if_neg c]
  refine Ev.bind (toFuel_ev xs hl) (Ev.bind (Ev.bind (specFuelS_ev _ hs) (Ev.now _)) (Ev.bind (toFuel_ev xs hl) (Ev.bind (implFuelS_ev _ hs) ?_)))
  simp only [bne_self_eq_false, Bool.false_eq_true, if_false]
  refine Ev.bind (toFuel_ev xs hl) (Ev.bind (eqFuel_ev _ hs.1) ?_)
  simp only [if_true]; exact Ev.now _
end Go.Proofs.Ytiioinedejdfcaa.Pure
