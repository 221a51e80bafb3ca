/- The law FnExactFuelCost, in numbers and lists alone: the program's FuelCost and the reference's give one answer, and what they are handed stays as it was. No condition. -/
import Derived.Test.YtkpjhohkopgdfaaQFnExactFuelCost
import Derived.Test.YtkpjhohkopgdfaaPLib
set_option linter.unusedVariables false
set_option linter.unusedSimpArgs false
namespace Go.Proofs.Ytkpjhohkopgdfaa.PFnExactFuelCost
open Go.RowKit Go.Proofs.YtkpjhohkopgdfaaW.PrintWords Go.Proofs.YtkpjhohkopgdfaaW.PLib

theorem l00In_eq (a b c : Int) : spec_l00In.f a b c = some (decide (b ≤ a) && decide (a ≤ c)) := by
  unfold spec_l00In.f; by_cases h : a ≥ b
  · rw [if_pos h]; simp [show b ≤ a from h]
  · rw [if_neg h]; simp [show ¬ b ≤ a from h]

theorem within_eq (a b c : Int) : impl_within.f a b c = some (decide (b ≤ a) && decide (a ≤ c)) := by
  unfold impl_within.f; by_cases h : a ≥ b
  · rw [if_pos h]; simp [show b ≤ a from h]
  · rw [if_neg h]; simp [show ¬ b ≤ a from h]

/-! names -/
def smallB (c : Int) : Bool := decide (97 ≤ c) && decide (c ≤ 122)
def digitB (c : Int) : Bool := decide (48 ≤ c) && decide (c ≤ 57)
def nameB (s : ByteArray) : Bool := (decide (1 ≤ s.size) && decide (s.size ≤ 10)) && (smallB (bt s 0) && allB (fun i => smallB (bt s i) || digitB (bt s i)) s.size)
theorem small_eq (c : Int) : spec_l01Small.f c = some (smallB c) := by
  unfold spec_l01Small.f smallB; by_cases h : c ≥ 97
  · rw [if_pos h]; simp [show 97 ≤ c from h]
  · rw [if_neg h]; simp [show ¬ 97 ≤ c from h]
theorem digit_eq (c : Int) : spec_l01Digit.f c = some (digitB c) := by
  unfold spec_l01Digit.f digitB; by_cases h : c ≥ 48
  · rw [if_pos h]; simp [show 48 ≤ c from h]
  · rw [if_neg h]; simp [show ¬ 48 ≤ c from h]
theorem specName_loop (s : ByteArray) (hs : s.size < 9223372036854775807) : Ev (fun k => spec_l01Name.l0 k s 0) (allB (fun i => smallB (bt s i) || digitB (bt s i)) s.size && true) := by
  refine all_ev (fun k i => spec_l01Name.l0 k s i) s.size true _ (fun i hi => ⟨0, fun k _ => ?_⟩) ⟨0, fun k _ => ?_⟩
  · simp only [spec_l01Name.l0]
    rw [if_pos (by omega), if_pos (by omega)]
    simp only [small_eq, digit_eq, Option.bind_some, w64s (show i < 9223372036854775807 by omega)]
    by_cases c1 : smallB (bt s i) = true
    · simp [c1]
    · simp only [Bool.not_eq_true] at c1
      by_cases c2 : digitB (bt s i) = true
      · simp [c1, c2]
      · simp only [Bool.not_eq_true] at c2; simp [c1, c2]
  · simp only [spec_l01Name.l0]
    rw [if_neg (by omega)]
theorem specName_ev (s : ByteArray) (hs : s.size < 9223372036854775807) : Ev (fun k => spec_l01Name.f k s) (nameB s) := by
  obtain ⟨K, hK⟩ := specName_loop s hs
  refine ⟨K + 1, fun k hk => ?_⟩
  obtain ⟨k, rfl⟩ : ∃ m, k = m + 1 := ⟨k - 1, by omega⟩
  unfold spec_l01Name.f nameB
  simp only [spec_l01Name.j0, hK k (by omega), small_eq, Option.bind_some]
  by_cases c1 : s.toList = ([] : List UInt8)
  · rw [if_pos c1]
    have : s.size = 0 := by
      have := congrArg List.length c1
      simpa [ByteArray.toList_eq] using this
    simp [this]
  · rw [if_neg c1]
    have h0 : 1 ≤ s.size := by
      rcases Nat.eq_zero_or_pos s.size with h | h
      · exact absurd (by
          have : s.data.toList = [] := List.eq_nil_of_length_eq_zero (by rw [Array.length_toList]; exact h)
          simpa [ByteArray.toList_eq] using this) c1
      · exact h
    by_cases c2 : (s.size : Int) > 10
    · rw [if_pos c2, decide_eq_false (show ¬ s.size ≤ 10 by omega)]; simp
    · rw [if_neg c2, if_pos (by omega), decide_eq_true (show s.size ≤ 10 by omega), decide_eq_true h0]
      by_cases c3 : smallB (bt s 0) = true
      · simp [c3]
      · simp only [Bool.not_eq_true] at c3; simp [c3]
theorem implName_loop (s : ByteArray) (hs : s.size < 9223372036854775807) : Ev (fun k => impl_onlyNameBytes.f k s) (allB (fun i => smallB (bt s i) || digitB (bt s i)) s.size && true) := by
  unfold impl_onlyNameBytes.f
  refine all_ev (fun k i => impl_onlyNameBytes.l0 k s (s.size : Int) i) s.size true _ (fun i hi => ⟨0, fun k _ => ?_⟩) ⟨0, fun k _ => ?_⟩
  · simp only [impl_onlyNameBytes.l0]
    rw [if_pos (by omega), if_pos (by omega), if_pos (by omega)]
    simp only [w64s (show i < 9223372036854775807 by omega), smallB, digitB]
    by_cases a : bt s i < 97 <;> by_cases b : bt s i < 48 <;> by_cases c : bt s i > 57 <;> by_cases d : bt s i > 122 <;> simp [a, b, c, d] <;> omega
  · simp only [impl_onlyNameBytes.l0]
    rw [if_neg (by omega)]
theorem implName_ev (s : ByteArray) (hs : s.size < 9223372036854775807) : Ev (fun k => impl_IsName.f k s) (nameB s) := by
  obtain ⟨K, hK⟩ := implName_loop s hs
  refine ⟨K, fun k hk => ?_⟩
  unfold impl_IsName.f nameB
  simp only [hK k hk, Option.bind_some]
  by_cases c1 : (s.size : Int) < 1
  · rw [if_pos c1, decide_eq_false (show ¬ 1 ≤ s.size by omega)]; simp
  · rw [if_neg c1, decide_eq_true (show 1 ≤ s.size by omega)]
    by_cases c2 : (s.size : Int) > 10
    · rw [if_pos c2, decide_eq_false (show ¬ s.size ≤ 10 by omega)]; simp
    · rw [if_neg c2, if_pos (by omega), decide_eq_true (show s.size ≤ 10 by omega)]
      unfold smallB
      by_cases a : bt s 0 < 97
      · rw [if_pos a, decide_eq_false (show ¬ 97 ≤ bt s 0 by omega)]; simp
      · rw [if_neg a, decide_eq_true (show 97 ≤ bt s 0 by omega)]
        by_cases b : bt s 0 > 122
        · rw [if_pos b, decide_eq_false (show ¬ bt s 0 ≤ 122 by omega)]; simp
        · rw [if_neg b, decide_eq_true (show bt s 0 ≤ 122 by omega)]; simp

/-! Fuel -/
theorem rdl_Fuel (xs : List S98) (i : Nat) (h : i < xs.length) : rd_T98 xs (i : Int) = xs[i] := by unfold rd_T98; exact getD_cast xs i h _
theorem rdi_Fuel (xs : List S100) (i : Nat) (h : i < xs.length) : rd_T100 xs (i : Int) = xs[i] := by unfold rd_T100; exact getD_cast xs i h _
theorem rd1_Fuel (x : S100) : rd_T100 [x] 0 = x := rfl
def cvFuel (x : S98) : S100 := ⟨x.f0, x.f1, x.f2, x.f3⟩
theorem toFuel_ev (xs : List S98) (hl : xs.length * 40 ≤ 140737488351232) : Ev (fun k => laws_toFuelS.f k xs) (xs.map cvFuel) := by
  refine ⟨xs.length + 1, fun k hk => ?_⟩
  simp only [laws_toFuelS.f]
  rw [if_pos (by omega), if_pos (by omega)]
  refine to_loop (fun k ys i => laws_toFuelS.l0 k xs ys i) xs cvFuel (fun k ys i h hy => ?_) (fun k ys hy => ?_) _ (by simp) k (by omega)
  · simp only [laws_toFuelS.l0]
    rw [if_pos (by omega), if_pos (by omega)]
    simp only [laws_toFuel.f, Option.bind_some, rdl_Fuel xs i h]
    rw [if_pos (by omega), w64s (by omega)]
    rfl
  · simp only [laws_toFuelS.l0]
    rw [if_neg (by omega)]
theorem eqFuel_ev (xs : List S100) (hl : xs.length < 9223372036854775807) : Ev (fun k => laws_eqFuelS.f k xs xs) true := by
  unfold laws_eqFuelS.f
  simp only [if_true]
  have := all_ev (fun k i => laws_eqFuelS.l0 k xs xs i) xs.length true (fun _ => true) (fun i hi => ⟨0, fun k _ => ?_⟩) ⟨0, fun k _ => ?_⟩
  · rw [allB_const] at this; exact this
  · simp only [laws_eqFuelS.l0]
    rw [if_pos (by omega), if_pos (by omega), if_pos (by omega)]
    simp only [laws_eqFuel.f, if_true, bne_self_eq_false, Bool.false_eq_true, if_false, Option.bind_some, w64s (show i < 9223372036854775807 by omega)]
  · simp only [laws_eqFuelS.l0]
    rw [if_neg (by omega)]
theorem szFuel_ev (xs : List S98) (a : Int) (hl : xs.length < 9223372036854775807) : ∃ r, Ev (fun k => laws_szFuelS.f k xs a) r := by
  unfold laws_szFuelS.f
  by_cases c : wrap64 (a - (xs.length : Int)) < 0
  · exact ⟨-1, by simp only [if_pos c]; exact Ev.now _⟩
  · simp only [if_neg c]
    refine tot_ev (fun k s i => laws_szFuelS.l0 k xs s i) xs.length (fun i s hi => ?_) (fun s => ⟨s, 0, fun k _ => ?_⟩) xs.length 0 _ (by omega)
    · obtain ⟨t, ht⟩ : ∃ t, laws_szFuel.f ((rd_T98 xs i).f0) ((rd_T98 xs i).f1) ((rd_T98 xs i).f2) ((rd_T98 xs i).f3) s = some t := by
        unfold laws_szFuel.f
        repeat' split
        all_goals exact ⟨_, rfl⟩
      by_cases c2 : t < 0
      · refine .inl ⟨-1, 0, fun k _ => ?_⟩
        simp only [laws_szFuelS.l0]
        rw [if_pos (by omega), if_pos (by omega), ht]
        simp only [Option.bind_some]
        rw [if_pos c2]
      · refine .inr ⟨t, 0, fun k _ => ?_⟩
        simp only [laws_szFuelS.l0]
        rw [if_pos (by omega), if_pos (by omega), ht]
        simp only [Option.bind_some]
        rw [if_neg c2, w64s (by omega)]
    · simp only [laws_szFuelS.l0]
      rw [if_neg (by omega)]

/-! valid lists of Fuel -/
def oneFuel (x : S100) : Bool := nameB x.f0 && ((decide (0 ≤ x.f1) && decide (x.f1 ≤ 20)) && ((decide (0 ≤ x.f2) && decide (x.f2 ≤ 1000)) && (decide (0 ≤ x.f3) && decide (x.f3 ≤ 20))))
def adjFuel (p x : S100) : Bool := Op.bytesLess (p.f0.toList) (x.f0.toList)
def okFuel (xs : List S100) (i : Nat) : Bool := if h : i < xs.length then oneFuel xs[i] && (decide (i = 0) || adjFuel xs[i - 1] xs[i]) else false
def validFuel (xs : List S100) : Bool := allB (okFuel xs) xs.length && decide ((xs.length : Int) ≤ 6)
def smFuel (x : S100) : Prop := x.f0.size < 9223372036854775807
def smallFuel (xs : List S100) : Prop := xs.length < 9223372036854775807 ∧ ∀ x ∈ xs, smFuel x
theorem specOneFuel_ev (x : S100) (h : smFuel x) : Ev (fun k => spec_l16One.f k [x]) (oneFuel x) := by
  refine Ev.then_ (specName_ev x.f0 h) fun k e => ?_
  unfold spec_l16One.f oneFuel
  rw [if_pos (by simp)]
  simp only [rd1_Fuel, e, Option.bind_some, l00In_eq,  ifs, ifn]
theorem implOneFuel_ev (x : S100) (h : smFuel x) : Ev (fun k => impl_Fuel_valid.f k x.f0 x.f1 x.f2 x.f3) (oneFuel x) := by
  refine Ev.then_ (implName_ev x.f0 h) fun k e => ?_
  unfold impl_Fuel_valid.f oneFuel
  simp only [e, Option.bind_some, within_eq,  ifs, ifn]
theorem specFuelS_ev (xs : List S100) (h : smallFuel xs) : Ev (fun k => spec_l16Ok.f k xs) (validFuel xs) := by
  obtain ⟨hl, hx⟩ := h
  unfold spec_l16Ok.f validFuel
  refine all_ev (fun k i => spec_l16Ok.l0 k xs i) xs.length _ (okFuel xs) (fun i hi => ?_) ⟨0, fun k _ => ?_⟩
  · refine Ev.with_ (specOneFuel_ev xs[i] (hx _ (List.getElem_mem hi))) fun k e => ?_
    simp only [spec_l16Ok.l0]
    rw [if_pos (by omega), if_pos (by omega), rdi_Fuel xs i hi, e, Option.bind_some, w64s (by omega)]
    by_cases c1 : oneFuel xs[i] = true
    · rw [if_pos c1]
      by_cases c2 : i = 0
      · rw [if_neg (by omega), if_pos (by unfold okFuel; rw [dif_pos hi, c1, decide_eq_true c2]; rfl)]
      · have e1 : wrap64 ((i : Int) - 1) = ((i - 1 : Nat) : Int) := by rw [w64] <;> omega
        rw [if_pos (by omega), e1, if_pos (by omega), if_pos (by omega), rdi_Fuel xs (i - 1) (by omega)]
        rw [show okFuel xs i = adjFuel xs[i - 1] xs[i] from by unfold okFuel; rw [dif_pos hi, c1, decide_eq_false c2, Bool.true_and, Bool.false_or]]
        unfold adjFuel
        rfl
    · rw [if_neg c1, if_neg (by unfold okFuel; simp only [Bool.not_eq_true] at c1; rw [dif_pos hi, c1]; simp)]
  · simp only [spec_l16Ok.l0]
    rw [if_neg (by omega)]
theorem implFuelS_ev (xs : List S100) (h : smallFuel xs) : Ev (fun k => impl_ValidFuels.f k xs) (validFuel xs) := by
  obtain ⟨hl, hx⟩ := h
  unfold impl_ValidFuels.f validFuel
  by_cases c : (xs.length : Int) > 6
  · simp only [if_pos c]
    rw [decide_eq_false (show ¬ (xs.length : Int) ≤ 6 by omega), Bool.and_false]; exact Ev.now _
  simp only [if_neg c]
  rw [decide_eq_true (show (xs.length : Int) ≤ 6 by omega)]
  refine all_ev (fun k i => impl_ValidFuels.l0 k xs xs (xs.length : Int) i) xs.length true (okFuel xs) (fun i hi => ?_) ⟨0, fun k _ => ?_⟩
  · refine Ev.with_ (implOneFuel_ev xs[i] (hx _ (List.getElem_mem hi))) fun k e => ?_
    simp only [impl_ValidFuels.l0]
    rw [if_pos (by omega), if_pos (by omega), if_pos (by omega), rdi_Fuel xs i hi, e, Option.bind_some, w64s (by omega)]
    by_cases c1 : oneFuel xs[i] = true
    · rw [if_pos c1]
      by_cases c2 : i = 0
      · rw [if_neg (by omega), if_pos (by unfold okFuel; rw [dif_pos hi, c1, decide_eq_true c2]; rfl)]
      · have e1 : wrap64 ((i : Int) - 1) = ((i - 1 : Nat) : Int) := by rw [w64] <;> omega
        rw [if_pos (by omega), e1, if_pos (by omega), if_pos (by omega), rdi_Fuel xs (i - 1) (by omega)]
        rw [show okFuel xs i = adjFuel xs[i - 1] xs[i] from by unfold okFuel; rw [dif_pos hi, c1, decide_eq_false c2, Bool.true_and, Bool.false_or]]
        unfold adjFuel
        rfl
    · rw [if_neg c1, if_neg (by unfold okFuel; simp only [Bool.not_eq_true] at c1; rw [dif_pos hi, c1]; simp)]
  · simp only [impl_ValidFuels.l0]
    rw [if_neg (by omega)]
theorem validFuel_len {xs : List S100} (h : validFuel xs = true) : (xs.length : Int) ≤ 6 := by
  unfold validFuel at h
  simp only [Bool.and_eq_true, decide_eq_true_eq] at h
  exact h.2
theorem validFuel_at {xs : List S100} (h : validFuel xs = true) (i : Nat) (hi : i < xs.length) : oneFuel xs[i] = true ∧ (0 < i → adjFuel xs[i - 1] xs[i] = true) := by
  unfold validFuel at h
  simp only [Bool.and_eq_true] at h
  have := allB_true.1 h.1 i hi
  unfold okFuel at this
  rw [dif_pos hi] at this
  simp only [Bool.and_eq_true, Bool.or_eq_true, decide_eq_true_eq] at this
  exact ⟨this.1, fun h0 => by rcases this.2 with h1 | h1; omega; exact h1⟩


theorem rd_at (xs : List Int) (i : Nat) (h : i < xs.length) : rd xs (i : Int) = xs[i] := by unfold rd; exact getD_cast xs i h _
theorem eqInts_ev (xs : List Int) (hl : xs.length < 9223372036854775807) : Ev (fun k => laws_eqInt64S.f k xs xs) true := by
  unfold laws_eqInt64S.f
  simp only [if_true]
  have := all_ev (fun k i => laws_eqInt64S.l0 k xs xs i) xs.length true (fun _ => true) (fun i hi => ⟨0, fun k _ => ?_⟩) ⟨0, fun k _ => ?_⟩
  · rw [allB_const] at this; exact this
  · simp only [laws_eqInt64S.l0]
    rw [if_pos (by omega), if_pos (by omega), if_pos (by omega)]
    simp only [if_true, w64s (show i < 9223372036854775807 by omega)]
  · simp only [laws_eqInt64S.l0]
    rw [if_neg (by omega)]

theorem toInts_ev (xs : List Int) (hl : xs.length * 8 ≤ 140737488351232) : Ev (fun k => laws_toInt64S.f k xs) xs := by
  refine ⟨xs.length + 1, fun k hk => ?_⟩
  simp only [laws_toInt64S.f]
  rw [if_pos (by omega), if_pos (by omega)]
  have h := to_loop (fun k ys i => laws_toInt64S.l0 k xs ys i) xs id (fun k ys i h hy => ?_) (fun k ys hy => ?_) (List.replicate ((xs.length : Int) : Int).toNat 0) (by simp) k (by omega)
  · rw [List.map_id] at h; exact h
  · simp only [laws_toInt64S.l0]
    rw [if_pos (by omega), if_pos (by omega), if_pos (by omega), w64s (by omega), rd_at xs i h]
    rfl
  · simp only [laws_toInt64S.l0]
    rw [if_neg (by omega)]

abbrev FU := S100
def okb (xs : List FU) (bs : List Int) (i : Nat) : Bool := decide (0 ≤ rd bs (i : Int)) && decide (rd bs (i : Int) ≤ (rd_T100 xs (i : Int)).f3)
def codeF (xs : List FU) (bs : List Int) : Int := if validFuel xs = true then (if bs.length = xs.length then (if allB (okb xs bs) xs.length = true then 0 else 7) else 7) else 1
theorem spec_code (xs : List FU) (bs : List Int) (h : smallFuel xs) : Ev (fun k => spec_l16Ask.f k xs bs) (codeF xs bs) := by
  unfold spec_l16Ask.f codeF spec_l16Blocks.f
  refine Ev.bind (specFuelS_ev xs h) ?_
  by_cases c : validFuel xs = true
  · simp only [if_pos c]
    by_cases c2 : bs.length = xs.length
    · simp only [if_pos (show (bs.length : Int) = xs.length by omega), if_pos c2]
      have hb := all_evE (fun k i => spec_l16Blocks.l0 k xs bs i) bs.length true (okb xs bs) (fun i hi r hr => Ev.succ ?_) (Ev.succ ?_)
      · rw [Bool.and_true, c2] at hb
        refine Ev.bind hb ?_
        by_cases c3 : allB (okb xs bs) xs.length = true
        · simp only [if_pos c3]; exact Ev.now _
        · simp only [if_neg c3]; exact Ev.now _
      · simp only [spec_l16Blocks.l0, if_pos (show (i : Int) < (bs.length : Int) by omega), if_pos (show 0 ≤ (i : Int) by omega), if_pos (show (i : Int) < (xs.length : Int) by omega), l00In_eq, Option.bind_some, w64s (show i < 9223372036854775807 by have := h.1; omega)]
        by_cases c4 : okb xs bs i = true
        · simp only [if_pos c4, if_pos (show (decide (0 ≤ rd bs (i : Int)) && decide (rd bs (i : Int) ≤ (rd_T100 xs (i : Int)).f3)) = true from c4)]; exact hr
        · simp only [if_neg c4, if_neg (show ¬ (decide (0 ≤ rd bs (i : Int)) && decide (rd bs (i : Int) ≤ (rd_T100 xs (i : Int)).f3)) = true from c4)]; exact Ev.now _
      · simp only [spec_l16Blocks.l0, if_neg (show ¬ (bs.length : Int) < (bs.length : Int) by omega)]; exact Ev.now _
    · simp only [if_neg (show ¬ (bs.length : Int) = xs.length by omega), if_neg c2, Option.bind_some, Bool.false_eq_true, if_false]; exact Ev.now _
  · simp only [if_neg c]; exact Ev.now _
theorem impl_code (xs : List FU) (bs : List Int) (h : smallFuel xs) : Ev (fun k => impl_blocksCode.f k xs bs) (codeF xs bs) := by
  unfold impl_blocksCode.f codeF
  refine Ev.bind (implFuelS_ev xs h) ?_
  by_cases c : validFuel xs = true
  · simp only [if_pos c]
    by_cases c2 : bs.length = xs.length
    · simp only [if_pos (show (bs.length : Int) = xs.length by omega), if_pos c2]
      refine scan_evE (fun k i => impl_blocksCode.l0 k bs xs (xs.length : Int) i) xs.length 0 7 (okb xs bs) (fun i hi r hr => Ev.succ ?_) (Ev.succ ?_)
      · simp only [impl_blocksCode.l0, if_pos (show (i : Int) < (bs.length : Int) by omega), if_pos (show 0 ≤ (i : Int) by omega), if_pos (show (i : Int) < (xs.length : Int) by omega), within_eq, Option.bind_some, w64s (show i < 9223372036854775807 by have := h.1; omega)]
        by_cases c4 : okb xs bs i = true
        · simp only [if_pos c4, if_pos (show (decide (0 ≤ rd bs (i : Int)) && decide (rd bs (i : Int) ≤ (rd_T100 xs (i : Int)).f3)) = true from c4)]; exact hr
        · simp only [if_neg c4, if_neg (show ¬ (decide (0 ≤ rd bs (i : Int)) && decide (rd bs (i : Int) ≤ (rd_T100 xs (i : Int)).f3)) = true from c4)]; exact Ev.now _
      · simp only [impl_blocksCode.l0, if_neg (show ¬ (xs.length : Int) < (xs.length : Int) by omega)]; exact Ev.now _
    · simp only [if_neg (show ¬ (bs.length : Int) = xs.length by omega), if_neg c2]; exact Ev.now _
  · simp only [if_neg c]; exact Ev.now _
theorem code_len {xs : List FU} {bs : List Int} (h : codeF xs bs = 0) : bs.length = xs.length := by
  unfold codeF at h
  by_cases c : validFuel xs = true
  · rw [if_pos c] at h
    by_cases c2 : bs.length = xs.length
    · exact c2
    · rw [if_neg c2] at h; omega
  · rw [if_neg c] at h; omega
def sumF (xs : List FU) (bs : List Int) : Nat → Int
  | 0 => 0
  | i + 1 => wrap64 (sumF xs bs i + wrap64 ((rd_T100 xs (i : Int)).f2 * rd bs (i : Int)))
def res (xs : List FU) (bs : List Int) : Int × Int := if codeF xs bs = 0 then (sumF xs bs xs.length, 0) else (0, codeF xs bs)
theorem spec_ev (xs : List FU) (bs : List Int) (h : smallFuel xs) : Ev (fun k => spec_FuelCost.f k xs bs) (res xs bs) := by
  unfold spec_FuelCost.f res
  refine Ev.bind (spec_code xs bs h) ?_
  by_cases c : codeF xs bs = 0
  · simp only [if_pos c]
    have hl := code_len c
    refine fold_from (fun k s i => spec_FuelCost.l0 k xs bs s i) 0 xs.length (sumF xs bs) _ (Nat.zero_le _) (fun i _ hi r hr => Ev.succ ?_) (Ev.succ ?_)
    · simp only [spec_FuelCost.l0, if_pos (show (i : Int) < (bs.length : Int) by omega), if_pos (show 0 ≤ (i : Int) by omega), if_pos (show (i : Int) < (xs.length : Int) by omega), w64s (show i < 9223372036854775807 by have := h.1; omega)]
      exact hr
    · simp only [spec_FuelCost.l0, if_neg (show ¬ (xs.length : Int) < (xs.length : Int) by omega)]; exact Ev.now _
  · simp only [if_neg c]; exact Ev.now _
theorem impl_ev (xs : List FU) (bs : List Int) (h : smallFuel xs) : Ev (fun k => impl_FuelCost.f k xs bs) (res xs bs) := by
  unfold impl_FuelCost.f res
  refine Ev.bind (impl_code xs bs h) ?_
  by_cases c : codeF xs bs = 0
  · simp only [if_pos c]
    have hl := code_len c
    refine fold_from (fun k s i => impl_FuelCost.l0 k bs s xs (xs.length : Int) i) 0 xs.length (sumF xs bs) _ (Nat.zero_le _) (fun i _ hi r hr => Ev.succ ?_) (Ev.succ ?_)
    · simp only [impl_FuelCost.l0, if_pos (show (i : Int) < (bs.length : Int) by omega), if_pos (show 0 ≤ (i : Int) by omega), if_pos (show (i : Int) < (xs.length : Int) by omega), w64s (show i < 9223372036854775807 by have := h.1; omega)]
      simp only [sumF] at hr
      rw [Int.mul_comm]
      exact hr
    · simp only [impl_FuelCost.l0, if_neg (show ¬ (xs.length : Int) < (xs.length : Int) by omega)]; exact Ev.now _
  · simp only [if_neg c]; exact Ev.now _
end Go.Proofs.Ytkpjhohkopgdfaa.PFnExactFuelCost
namespace Go.Proofs.Ytkpjhohkopgdfaa.Pure
open Go.RowKit Go.Proofs.YtkpjhohkopgdfaaW.PrintWords Go.Proofs.YtkpjhohkopgdfaaW.PLib Go.Proofs.Ytkpjhohkopgdfaa.PFnExactFuelCost

theorem FnExactFuelCost : PFnExactFuelCost.Pure := by
  intro xs bs hx hb
  obtain ⟨_, hl, hw⟩ := hx
  obtain ⟨_, hbl, _⟩ := hb
  have hs : smallFuel (xs.map cvFuel) := ⟨by simp; omega, fun x hx => by
    obtain ⟨y, hy, rfl⟩ := List.mem_map.1 hx
    have h1 : y.f0.size ≤ 140737488351232 := (hw y hy).1
    show y.f0.size < _
    omega⟩
  obtain ⟨r, hr⟩ := szFuel_ev xs 1048576 (by omega)
  refine Ev.get ?_
  unfold laws_FnExactFuelCost.f
  by_cases cp : (bs.length : Int) > 1048576
  · simp only [if_pos cp]; exact Ev.now _
  simp only [if_neg cp]
  refine Ev.bind hr ?_
  by_cases c : r < 0
  · simp only [if_pos c]; exact Ev.now _
  simp only [if_neg c]
  refine Ev.bind (toFuel_ev xs hl) (Ev.bind (toInts_ev bs hbl) (Ev.bind (spec_ev _ _ hs) (Ev.bind (toFuel_ev xs hl) (Ev.bind (toInts_ev bs hbl) (Ev.bind (impl_ev _ _ hs) ?_)))))
  simp only [bne_self_eq_false, if_true]
  refine Ev.succ ?_
  simp only [laws_FnExactFuelCost.j0, Bool.false_eq_true, if_false]
  refine Ev.bind (toFuel_ev xs hl) (Ev.bind (eqFuel_ev _ hs.1) ?_)
  simp only [if_true]
  refine Ev.bind (toInts_ev bs hbl) (Ev.bind (eqInts_ev _ (by omega)) ?_)
  simp only [if_true]; exact Ev.now _
end Go.Proofs.Ytkpjhohkopgdfaa.Pure
