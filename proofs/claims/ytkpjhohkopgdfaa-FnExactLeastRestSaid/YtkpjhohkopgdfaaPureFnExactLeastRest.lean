/- The law FnExactLeastRest, in numbers and lists alone: the program's LeastRest and the reference's give one answer, and the duties stay as they were. No condition. -/
import Derived.Test.YtkpjhohkopgdfaaQFnExactLeastRest
import Derived.Test.YtkpjhohkopgdfaaPLib
set_option linter.unusedVariables false
set_option linter.unusedSimpArgs false
namespace Go.Proofs.Ytkpjhohkopgdfaa.PFnExactLeastRest
open Go.RowKit Go.Proofs.YtkpjhohkopgdfaaW.PrintWords Go.Proofs.YtkpjhohkopgdfaaW.PLib

theorem l00In_eq (a b c : Int) : spec_l00In.f a b c = some (decide (b ≤ a) && decide (a ≤ c)) := by
  unfold spec_l00In.f; by_cases h : a ≥ b
  · rw [if_pos h]; simp [show b ≤ a from h]
  · rw [if_neg h]; simp [show ¬ b ≤ a from h]

theorem within_eq (a b c : Int) : impl_within.f a b c = some (decide (b ≤ a) && decide (a ≤ c)) := by
  unfold impl_within.f; by_cases h : a ≥ b
  · rw [if_pos h]; simp [show b ≤ a from h]
  · rw [if_neg h]; simp [show ¬ b ≤ a from h]

/-! names -/
def smallB (c : Int) : Bool := decide (97 ≤ c) && decide (c ≤ 122)
def digitB (c : Int) : Bool := decide (48 ≤ c) && decide (c ≤ 57)
def nameB (s : ByteArray) : Bool := (decide (1 ≤ s.size) && decide (s.size ≤ 10)) && (smallB (bt s 0) && allB (fun i => smallB (bt s i) || digitB (bt s i)) s.size)
theorem small_eq (c : Int) : spec_l01Small.f c = some (smallB c) := by
  unfold spec_l01Small.f smallB; by_cases h : c ≥ 97
  · rw [if_pos h]; simp [show 97 ≤ c from h]
  · rw [if_neg h]; simp [show ¬ 97 ≤ c from h]
theorem digit_eq (c : Int) : spec_l01Digit.f c = some (digitB c) := by
  unfold spec_l01Digit.f digitB; by_cases h : c ≥ 48
  · rw [if_pos h]; simp [show 48 ≤ c from h]
  · rw [if_neg h]; simp [show ¬ 48 ≤ c from h]
theorem specName_loop (s : ByteArray) (hs : s.size < 9223372036854775807) : Ev (fun k => spec_l01Name.l0 k s 0) (allB (fun i => smallB (bt s i) || digitB (bt s i)) s.size && true) := by
  refine all_ev (fun k i => spec_l01Name.l0 k s i) s.size true _ (fun i hi => ⟨0, fun k _ => ?_⟩) ⟨0, fun k _ => ?_⟩
  · simp only [spec_l01Name.l0]
    rw [if_pos (by omega), if_pos (by omega)]
    simp only [small_eq, digit_eq, Option.bind_some, w64s (show i < 9223372036854775807 by omega)]
    by_cases c1 : smallB (bt s i) = true
    · simp [c1]
    · simp only [Bool.not_eq_true] at c1
      by_cases c2 : digitB (bt s i) = true
      · simp [c1, c2]
      · simp only [Bool.not_eq_true] at c2; simp [c1, c2]
  · simp only [spec_l01Name.l0]
    rw [if_neg (by omega)]
theorem specName_ev (s : ByteArray) (hs : s.size < 9223372036854775807) : Ev (fun k => spec_l01Name.f k s) (nameB s) := by
  obtain ⟨K, hK⟩ := specName_loop s hs
  refine ⟨K + 1, fun k hk => ?_⟩
  obtain ⟨k, rfl⟩ : ∃ m, k = m + 1 := ⟨k - 1, by omega⟩
  unfold spec_l01Name.f nameB
  simp only [spec_l01Name.j0, hK k (by omega), small_eq, Option.bind_some]
  by_cases c1 : s.toList = ([] : List UInt8)
  · rw [if_pos c1]
    have : s.size = 0 := by
      have := congrArg List.length c1
      simpa [ByteArray.toList_eq] using this
    simp [this]
  · rw [if_neg c1]
    have h0 : 1 ≤ s.size := by
      rcases Nat.eq_zero_or_pos s.size with h | h
      · exact absurd (by
          have : s.data.toList = [] := List.eq_nil_of_length_eq_zero (by rw [Array.length_toList]; exact h)
          simpa [ByteArray.toList_eq] using this) c1
      · exact h
    by_cases c2 : (s.size : Int) > 10
    · rw [if_pos c2, decide_eq_false (show ¬ s.size ≤ 10 by omega)]; simp
    · rw [if_neg c2, if_pos (by omega), decide_eq_true (show s.size ≤ 10 by omega), decide_eq_true h0]
      by_cases c3 : smallB (bt s 0) = true
      · simp [c3]
      · simp only [Bool.not_eq_true] at c3; simp [c3]
theorem implName_loop (s : ByteArray) (hs : s.size < 9223372036854775807) : Ev (fun k => impl_onlyNameBytes.f k s) (allB (fun i => smallB (bt s i) || digitB (bt s i)) s.size && true) := by
  unfold impl_onlyNameBytes.f
  refine all_ev (fun k i => impl_onlyNameBytes.l0 k s (s.size : Int) i) s.size true _ (fun i hi => ⟨0, fun k _ => ?_⟩) ⟨0, fun k _ => ?_⟩
  · simp only [impl_onlyNameBytes.l0]
    rw [if_pos (by omega), if_pos (by omega), if_pos (by omega)]
    simp only [w64s (show i < 9223372036854775807 by omega), smallB, digitB]
    by_cases a : bt s i < 97 <;> by_cases b : bt s i < 48 <;> by_cases c : bt s i > 57 <;> by_cases d : bt s i > 122 <;> simp [a, b, c, d] <;> omega
  · simp only [impl_onlyNameBytes.l0]
    rw [if_neg (by omega)]
theorem implName_ev (s : ByteArray) (hs : s.size < 9223372036854775807) : Ev (fun k => impl_IsName.f k s) (nameB s) := by
  obtain ⟨K, hK⟩ := implName_loop s hs
  refine ⟨K, fun k hk => ?_⟩
  unfold impl_IsName.f nameB
  simp only [hK k hk, Option.bind_some]
  by_cases c1 : (s.size : Int) < 1
  · rw [if_pos c1, decide_eq_false (show ¬ 1 ≤ s.size by omega)]; simp
  · rw [if_neg c1, decide_eq_true (show 1 ≤ s.size by omega)]
    by_cases c2 : (s.size : Int) > 10
    · rw [if_pos c2, decide_eq_false (show ¬ s.size ≤ 10 by omega)]; simp
    · rw [if_neg c2, if_pos (by omega), decide_eq_true (show s.size ≤ 10 by omega)]
      unfold smallB
      by_cases a : bt s 0 < 97
      · rw [if_pos a, decide_eq_false (show ¬ 97 ≤ bt s 0 by omega)]; simp
      · rw [if_neg a, decide_eq_true (show 97 ≤ bt s 0 by omega)]
        by_cases b : bt s 0 > 122
        · rw [if_pos b, decide_eq_false (show ¬ bt s 0 ≤ 122 by omega)]; simp
        · rw [if_neg b, decide_eq_true (show bt s 0 ≤ 122 by omega)]; simp

/-! Duty -/
theorem rdl_Duty (xs : List S127) (i : Nat) (h : i < xs.length) : rd_T127 xs (i : Int) = xs[i] := by unfold rd_T127; exact getD_cast xs i h _
theorem rdi_Duty (xs : List S130) (i : Nat) (h : i < xs.length) : rd_T130 xs (i : Int) = xs[i] := by unfold rd_T130; exact getD_cast xs i h _
theorem rd1_Duty (x : S130) : rd_T130 [x] 0 = x := rfl
def cvDuty (x : S127) : S130 := ⟨x.f0, x.f1, x.f2, x.f3⟩
theorem toDuty_ev (xs : List S127) (hl : xs.length * 40 ≤ 140737488351232) : Ev (fun k => laws_toDutyS.f k xs) (xs.map cvDuty) := by
  refine ⟨xs.length + 1, fun k hk => ?_⟩
  simp only [laws_toDutyS.f]
  rw [if_pos (by omega), if_pos (by omega)]
  refine to_loop (fun k ys i => laws_toDutyS.l0 k xs ys i) xs cvDuty (fun k ys i h hy => ?_) (fun k ys hy => ?_) _ (by simp) k (by omega)
  · simp only [laws_toDutyS.l0]
    rw [if_pos (by omega), if_pos (by omega)]
    simp only [laws_toDuty.f, Option.bind_some, rdl_Duty xs i h]
    rw [if_pos (by omega), w64s (by omega)]
    rfl
  · simp only [laws_toDutyS.l0]
    rw [if_neg (by omega)]
theorem eqDuty_ev (xs : List S130) (hl : xs.length < 9223372036854775807) : Ev (fun k => laws_eqDutyS.f k xs xs) true := by
  unfold laws_eqDutyS.f
  simp only [if_true]
  have := all_ev (fun k i => laws_eqDutyS.l0 k xs xs i) xs.length true (fun _ => true) (fun i hi => ⟨0, fun k _ => ?_⟩) ⟨0, fun k _ => ?_⟩
  · rw [allB_const] at this; exact this
  · simp only [laws_eqDutyS.l0]
    rw [if_pos (by omega), if_pos (by omega), if_pos (by omega)]
    simp only [laws_eqDuty.f, if_true, bne_self_eq_false, Bool.false_eq_true, if_false, Option.bind_some, w64s (show i < 9223372036854775807 by omega)]
  · simp only [laws_eqDutyS.l0]
    rw [if_neg (by omega)]
theorem szDuty_ev (xs : List S127) (a : Int) (hl : xs.length < 9223372036854775807) : ∃ r, Ev (fun k => laws_szDutyS.f k xs a) r := by
  unfold laws_szDutyS.f
  by_cases c : wrap64 (a - (xs.length : Int)) < 0
  · exact ⟨-1, by simp only [if_pos c]; exact Ev.now _⟩
  · simp only [if_neg c]
    refine tot_ev (fun k s i => laws_szDutyS.l0 k xs s i) xs.length (fun i s hi => ?_) (fun s => ⟨s, 0, fun k _ => ?_⟩) xs.length 0 _ (by omega)
    · obtain ⟨t, ht⟩ : ∃ t, laws_szDuty.f ((rd_T127 xs i).f0) ((rd_T127 xs i).f1) ((rd_T127 xs i).f2) ((rd_T127 xs i).f3) s = some t := by
        unfold laws_szDuty.f
        repeat' split
        all_goals exact ⟨_, rfl⟩
      by_cases c2 : t < 0
      · refine .inl ⟨-1, 0, fun k _ => ?_⟩
        simp only [laws_szDutyS.l0]
        rw [if_pos (by omega), if_pos (by omega), ht]
        simp only [Option.bind_some]
        rw [if_pos c2]
      · refine .inr ⟨t, 0, fun k _ => ?_⟩
        simp only [laws_szDutyS.l0]
        rw [if_pos (by omega), if_pos (by omega), ht]
        simp only [Option.bind_some]
        rw [if_neg c2, w64s (by omega)]
    · simp only [laws_szDutyS.l0]
      rw [if_neg (by omega)]

/-! duties -/
abbrev DU := S130
def oneDuty (x : DU) : Bool := nameB x.f0 && ((decide (0 ≤ x.f1) && decide (x.f1 ≤ 10000)) && (decide (1 ≤ x.f2) && decide (x.f2 ≤ 48)))
/-- As the reference tests two that follow one another. -/
def adjS (p x : DU) : Bool := !(Op.bytesLess x.f0.toList p.f0.toList) && (!decide (p.f0.toList = x.f0.toList) || decide (wrap64 (p.f1 + p.f2) ≤ x.f1))
def cmpStr (a b : ByteArray) : Int := if Op.bytesLess a.toList b.toList = true then -1 else if Op.bytesLess b.toList a.toList = true then 1 else 0
def cmpInt (a b : Int) : Int := if a < b then -1 else if a > b then 1 else 0
def cmpDuty (p x : DU) : Int := if cmpStr p.f0 x.f0 = 0 then cmpInt p.f1 x.f1 else cmpStr p.f0 x.f0
/-- As the program does. -/
def adjI (p x : DU) : Bool := decide (cmpDuty p x < 0) && (!decide (p.f0.toList = x.f0.toList) || decide (wrap64 (p.f1 + p.f2) ≤ x.f1))
def okS (xs : List DU) (i : Nat) : Bool := if h : i < xs.length then oneDuty xs[i] && (decide (i = 0) || adjS xs[i - 1] xs[i]) else false
def okI (xs : List DU) (i : Nat) : Bool := if h : i < xs.length then oneDuty xs[i] && (decide (i = 0) || adjI xs[i - 1] xs[i]) else false
def validDuty (xs : List DU) : Bool := allB (okS xs) xs.length && decide ((xs.length : Int) ≤ 32)
def smDuty (x : DU) : Prop := x.f0.size < 9223372036854775807
def smallDuty (xs : List DU) : Prop := xs.length < 9223372036854775807 ∧ ∀ x ∈ xs, smDuty x
theorem bl_irrefl : ∀ a : List UInt8, Op.bytesLess a a = false
  | [] => rfl
  | x :: a => by simp [Op.bytesLess, bl_irrefl a]
theorem adj_iff (p x : DU) (hp : oneDuty p = true) (hx : oneDuty x = true) : adjS p x = adjI p x := by
  unfold oneDuty at hp hx
  simp only [Bool.and_eq_true, decide_eq_true_eq] at hp hx
  have hw : wrap64 (p.f1 + p.f2) = p.f1 + p.f2 := by rw [w64] <;> omega
  unfold adjS adjI cmpDuty cmpStr cmpInt
  rw [hw]
  have tot := bl_total p.f0.toList x.f0.toList
  by_cases e : p.f0.toList = x.f0.toList
  · rw [e, bl_irrefl]
    by_cases c1 : p.f1 < x.f1
    · simp [c1]
    · have c2 : ¬ p.f1 + p.f2 ≤ x.f1 := by omega
      simp [c2]
  · rw [show (p.f0.toList == x.f0.toList) = false by simpa using e, Bool.or_false] at tot
    cases c : Op.bytesLess x.f0.toList p.f0.toList
    · rw [c] at tot; simp [tot, e]
    · rw [c] at tot; simp [tot, e]
theorem ok_iff (xs : List DU) : allB (okS xs) xs.length = allB (okI xs) xs.length := by
  rw [Bool.eq_iff_iff, allB_true, allB_true]
  constructor
  · intro h i hi
    have h1 := h i hi
    unfold okS at h1
    unfold okI
    rw [dif_pos hi] at h1 ⊢
    simp only [Bool.and_eq_true, Bool.or_eq_true, decide_eq_true_eq] at h1 ⊢
    refine ⟨h1.1, ?_⟩
    rcases h1.2 with h2 | h2
    · exact .inl h2
    · by_cases c : i = 0
      · exact .inl c
      · have h3 := h (i - 1) (by omega)
        unfold okS at h3
        rw [dif_pos (by omega)] at h3
        simp only [Bool.and_eq_true] at h3
        exact .inr ((adj_iff _ _ h3.1 h1.1).symm.trans h2)
  · intro h i hi
    have h1 := h i hi
    unfold okI at h1
    unfold okS
    rw [dif_pos hi] at h1 ⊢
    simp only [Bool.and_eq_true, Bool.or_eq_true, decide_eq_true_eq] at h1 ⊢
    refine ⟨h1.1, ?_⟩
    rcases h1.2 with h2 | h2
    · exact .inl h2
    · by_cases c : i = 0
      · exact .inl c
      · have h3 := h (i - 1) (by omega)
        unfold okI at h3
        rw [dif_pos (by omega)] at h3
        simp only [Bool.and_eq_true] at h3
        exact .inr ((adj_iff _ _ h3.1 h1.1).trans h2)
theorem specOneDuty_ev (x : DU) (h : smDuty x) : Ev (fun k => spec_l26One.f k [x]) (oneDuty x) := by
  refine Ev.then_ (specName_ev x.f0 h) fun k e => ?_
  unfold spec_l26One.f oneDuty
  rw [if_pos (by simp)]
  simp only [rd1_Duty, e, Option.bind_some, l00In_eq, ifs, ifn]
theorem implOneDuty_ev (x : DU) (h : smDuty x) : Ev (fun k => impl_Duty_valid.f k x.f0 x.f1 x.f2 x.f3) (oneDuty x) := by
  refine Ev.then_ (implName_ev x.f0 h) fun k e => ?_
  unfold impl_Duty_valid.f oneDuty
  simp only [e, Option.bind_some, within_eq, ifs, ifn]
theorem specDutyS_ev (xs : List DU) (h : smallDuty xs) : Ev (fun k => spec_l26Ok.f k xs) (validDuty xs) := by
  obtain ⟨hl, hx⟩ := h
  unfold spec_l26Ok.f validDuty
  refine all_ev (fun k i => spec_l26Ok.l0 k xs i) xs.length _ (okS xs) (fun i hi => ?_) ⟨0, fun k _ => ?_⟩
  · refine Ev.with_ (specOneDuty_ev xs[i] (hx _ (List.getElem_mem hi))) fun k e => ?_
    simp only [spec_l26Ok.l0]
    rw [if_pos (by omega), if_pos (by omega), rdi_Duty xs i hi, e, Option.bind_some, w64s (by omega)]
    by_cases c1 : oneDuty xs[i] = true
    · rw [if_pos c1]
      by_cases c2 : i = 0
      · rw [if_neg (by omega), if_pos (by unfold okS; rw [dif_pos hi, c1, decide_eq_true c2]; rfl)]
      · have e1 : wrap64 ((i : Int) - 1) = ((i - 1 : Nat) : Int) := by rw [w64] <;> omega
        rw [if_pos (by omega), e1, if_pos (by omega), if_pos (by omega), rdi_Duty xs (i - 1) (by omega)]
        rw [show okS xs i = adjS xs[i - 1] xs[i] from by unfold okS; rw [dif_pos hi, c1, decide_eq_false c2, Bool.true_and, Bool.false_or]]
        unfold adjS
        cases a : Op.bytesLess xs[i].f0.toList xs[i - 1].f0.toList
        · by_cases b : xs[i - 1].f0.toList = xs[i].f0.toList
          · by_cases c : wrap64 (xs[i - 1].f1 + xs[i - 1].f2) ≤ xs[i].f1
            · have c' : ¬ wrap64 (xs[i - 1].f1 + xs[i - 1].f2) > xs[i].f1 := by omega
              simp [b, c, c']
            · have c' : wrap64 (xs[i - 1].f1 + xs[i - 1].f2) > xs[i].f1 := by omega
              simp [b, c, c']
          · simp [b]
        · simp
    · rw [if_neg c1, if_neg (by unfold okS; simp only [Bool.not_eq_true] at c1; rw [dif_pos hi, c1]; simp)]
  · simp only [spec_l26Ok.l0]
    rw [if_neg (by omega)]
theorem cmpStr_eq (a b : ByteArray) : cmp_Compare_string.f a b = some (cmpStr a b) := by
  unfold cmp_Compare_string.f cmp_isNaN_string.f cmpStr
  simp only [bne_self_eq_false, Option.bind_some, Bool.false_eq_true, if_false]
  repeat' split
  all_goals rfl
theorem cmpInt_eq (a b : Int) : cmp_Compare_int64.f a b = some (cmpInt a b) := by
  unfold cmp_Compare_int64.f cmp_isNaN_int64.f cmpInt
  simp only [bne_self_eq_false, Option.bind_some, Bool.false_eq_true, if_false]
  repeat' split
  all_goals rfl
theorem cmpOr_ev (a b : Int) : Ev (fun k => cmp_Or_int.f k [a, b]) (if a = 0 then b else a) := by
  refine ⟨3, fun k hk => ?_⟩
  obtain ⟨k, rfl⟩ : ∃ m, k = m + 3 := ⟨k - 3, by omega⟩
  have w1 : wrap64 (0 + 1) = 1 := by unfold wrap64; omega
  have w2 : wrap64 (1 + 1) = 2 := by unfold wrap64; omega
  have r0 : rd [a, b] 0 = a := rfl
  have r1 : rd [a, b] 1 = b := rfl
  unfold cmp_Or_int.f
  simp only [cmp_Or_int.l0, w1, w2, r0, r1]
  by_cases c : a = 0
  · by_cases d : b = 0
    · simp [c, d]
    · simp [c, d]
  · simp [c]
theorem cmpDuty_ev (p x : DU) : Ev (fun k => impl_compareDuties.f k p.f0 p.f1 p.f2 p.f3 x.f0 x.f1 x.f2 x.f3) (cmpDuty p x) := by
  unfold impl_compareDuties.f cmpDuty
  simp only [cmpStr_eq, cmpInt_eq, Option.bind_some]
  exact Ev.bind (cmpOr_ev _ _) (Ev.now _)
theorem implDutyS_ev (xs : List DU) (h : smallDuty xs) : Ev (fun k => impl_ValidDuties.f k xs) (validDuty xs) := by
  obtain ⟨hl, hx⟩ := h
  unfold impl_ValidDuties.f validDuty
  rw [ok_iff]
  by_cases c : (xs.length : Int) > 32
  · simp only [if_pos c]
    rw [decide_eq_false (show ¬ (xs.length : Int) ≤ 32 by omega), Bool.and_false]; exact Ev.now _
  simp only [if_neg c]
  rw [decide_eq_true (show (xs.length : Int) ≤ 32 by omega)]
  refine all_evE (fun k i => impl_ValidDuties.l0 k xs xs (xs.length : Int) i) xs.length true (okI xs) (fun i hi r hr => ?_) ⟨1, fun k hk => ?_⟩
  · refine Ev.succ ?_
    simp only [impl_ValidDuties.l0, if_pos (show (i : Int) < (xs.length : Int) by omega), if_pos (show 0 ≤ (i : Int) by omega), rdi_Duty xs i hi]
    refine Ev.bind (implOneDuty_ev xs[i] (hx _ (List.getElem_mem hi))) ?_
    have j1 : ∀ b : Bool, Ev (fun k => impl_ValidDuties.j1 k xs (i : Int) xs (xs.length : Int) (i : Int) b xs[i].f0 xs[i].f1 xs[i].f2 xs[i].f3)
        (if b = true then false else if i = 0 then r else if (!decide (xs[i - 1].f0.toList = xs[i].f0.toList) || decide (wrap64 (xs[i - 1].f1 + xs[i - 1].f2) ≤ xs[i].f1)) = true then r else false) := by
      intro b
      cases b
      · by_cases c2 : i = 0
        · simp only [if_pos c2, Bool.false_eq_true, if_false]
          refine Ev.step' hr (fun k => ?_)
          simp only [impl_ValidDuties.j1, Bool.false_eq_true, if_false]
          rw [if_neg (by omega), w64s (by omega)]
        · have e1 : wrap64 ((i : Int) - 1) = ((i - 1 : Nat) : Int) := by rw [w64] <;> omega
          simp only [if_neg c2, Bool.false_eq_true, if_false]
          by_cases b1 : xs[i - 1].f0.toList = xs[i].f0.toList
          · by_cases b2 : wrap64 (xs[i - 1].f1 + xs[i - 1].f2) ≤ xs[i].f1
            · simp only [b1, b2, decide_true, Bool.or_true, if_true]
              refine Ev.step' hr (fun k => ?_)
              simp only [impl_ValidDuties.j1, Bool.false_eq_true, if_false, impl_Duty_end.f]
              rw [if_pos (by omega), e1, if_pos (by omega), if_pos (by omega), rdi_Duty xs (i - 1) (by omega), if_pos b1, Option.bind_some, if_neg (by omega), w64s (by omega)]
            · simp only [b1, b2, decide_true, decide_false, Bool.not_true, Bool.or_false, Bool.false_eq_true, if_false]
              refine Ev.step' (Ev.now false) (fun k => ?_)
              simp only [impl_ValidDuties.j1, Bool.false_eq_true, if_false, impl_Duty_end.f]
              rw [if_pos (by omega), e1, if_pos (by omega), if_pos (by omega), rdi_Duty xs (i - 1) (by omega), if_pos b1, Option.bind_some, if_pos (by omega)]
          · simp only [b1, decide_false, Bool.not_false, Bool.true_or, if_true]
            refine Ev.step' hr (fun k => ?_)
            simp only [impl_ValidDuties.j1, Bool.false_eq_true, if_false, impl_Duty_end.f]
            rw [if_pos (by omega), e1, if_pos (by omega), if_pos (by omega), rdi_Duty xs (i - 1) (by omega), if_neg b1, w64s (by omega)]
      · simp only [if_true]
        refine Ev.step' (Ev.now false) (fun k => ?_)
        simp only [impl_ValidDuties.j1, if_true]
    by_cases c1 : oneDuty xs[i] = true
    · simp only [if_pos c1]
      by_cases c2 : i = 0
      · rw [if_pos (by unfold okI; rw [dif_pos hi, c1, decide_eq_true c2]; rfl)]
        have h1 := j1 false
        simp only [Bool.false_eq_true, if_false, if_pos c2] at h1
        simp only [if_neg (show ¬ (i : Int) > 0 by omega)]
        exact h1
      · have e1 : wrap64 ((i : Int) - 1) = ((i - 1 : Nat) : Int) := by rw [w64] <;> omega
        simp only [if_pos (show (i : Int) > 0 by omega), e1, if_pos (show 0 ≤ ((i - 1 : Nat) : Int) by omega), if_pos (show ((i - 1 : Nat) : Int) < (xs.length : Int) by omega), rdi_Duty xs (i - 1) (by omega)]
        refine Ev.bind (cmpDuty_ev xs[i - 1] xs[i]) ?_
        have h1 := j1 (decide (cmpDuty xs[i - 1] xs[i] ≥ 0))
        rw [show okI xs i = adjI xs[i - 1] xs[i] from by unfold okI; rw [dif_pos hi, c1, decide_eq_false c2, Bool.true_and, Bool.false_or]]
        unfold adjI
        simp only [if_neg c2] at h1
        by_cases c3 : cmpDuty xs[i - 1] xs[i] < 0
        · rw [decide_eq_true c3, Bool.true_and]
          rw [decide_eq_false (show ¬ cmpDuty xs[i - 1] xs[i] ≥ 0 by omega)] at h1 ⊢
          simp only [Bool.false_eq_true, if_false] at h1
          exact h1
        · rw [decide_eq_false c3, Bool.false_and]
          rw [decide_eq_true (show cmpDuty xs[i - 1] xs[i] ≥ 0 by omega)] at h1 ⊢
          simp only [if_true, Bool.false_eq_true, if_false] at h1 ⊢
          exact h1
    · simp only [if_neg c1]
      rw [if_neg (by unfold okI; simp only [Bool.not_eq_true] at c1; rw [dif_pos hi, c1]; simp)]
      have h1 := j1 true
      simp only [if_true] at h1
      exact h1
  · obtain ⟨k, rfl⟩ : ∃ m, k = m + 1 := ⟨k - 1, by omega⟩
    simp only [impl_ValidDuties.l0]
    rw [if_neg (by omega)]
theorem validDuty_len {xs : List DU} (h : validDuty xs = true) : (xs.length : Int) ≤ 32 := by
  unfold validDuty at h
  simp only [Bool.and_eq_true, decide_eq_true_eq] at h
  exact h.2
theorem validDuty_at {xs : List DU} (h : validDuty xs = true) (i : Nat) (hi : i < xs.length) : oneDuty xs[i] = true ∧ (0 < i → adjS xs[i - 1] xs[i] = true) := by
  unfold validDuty at h
  simp only [Bool.and_eq_true] at h
  have := allB_true.1 h.1 i hi
  unfold okS at this
  rw [dif_pos hi] at this
  simp only [Bool.and_eq_true, Bool.or_eq_true, decide_eq_true_eq] at this
  exact ⟨this.1, fun h0 => by rcases this.2 with h1 | h1; omega; exact h1⟩

abbrev RDU := rd_T130
def gap (xs : List DU) (i : Nat) : Int := (RDU xs ((i + 1 : Nat) : Int)).f1 - (RDU xs (i : Int)).f1 - (RDU xs (i : Int)).f2
/-- Do the duties i and i + 1 both belong to p? -/
def both (xs : List DU) (p : ByteArray) (i : Nat) : Bool := decide ((RDU xs (i : Int)).f0.toList = p.toList) && decide ((RDU xs ((i + 1 : Nat) : Int)).f0.toList = p.toList)
/-- The least rest among the first i pairs; -1 where there is none. -/
def rest (xs : List DU) (p : ByteArray) : Nat → Int
  | 0 => -1
  | i + 1 => if both xs p i = true then (if rest xs p i < 0 then gap xs i else if gap xs i < rest xs p i then gap xs i else rest xs p i) else rest xs p i
def fin (n : Int) : Int × Int := if n < 0 then (0, 3) else (n, 0)
def res (xs : List DU) (p : ByteArray) : Int × Int := if validDuty xs = true then fin (rest xs p (xs.length - 1)) else (0, 1)
theorem gap_ok (xs : List DU) (h : validDuty xs = true) (i : Nat) (hi : i + 1 < xs.length) :
    0 ≤ (RDU xs (i : Int)).f1 ∧ (RDU xs (i : Int)).f1 ≤ 10000 ∧ 1 ≤ (RDU xs (i : Int)).f2 ∧ (RDU xs (i : Int)).f2 ≤ 48 ∧ 0 ≤ (RDU xs ((i + 1 : Nat) : Int)).f1 ∧ (RDU xs ((i + 1 : Nat) : Int)).f1 ≤ 10000 ∧
    ((RDU xs (i : Int)).f0.toList = (RDU xs ((i + 1 : Nat) : Int)).f0.toList → 0 ≤ gap xs i) := by
  obtain ⟨a, _⟩ := validDuty_at h i (by omega)
  obtain ⟨b, c⟩ := validDuty_at h (i + 1) hi
  have c := c (by omega)
  have e0 : RDU xs (i : Int) = xs[i] := rdi_Duty xs i (by omega)
  have e1 : RDU xs ((i + 1 : Nat) : Int) = xs[i + 1] := rdi_Duty xs (i + 1) hi
  unfold gap
  rw [e0, e1]
  unfold oneDuty at a b
  unfold adjS at c
  simp only [Bool.and_eq_true, decide_eq_true_eq] at a b
  simp only [show i + 1 - 1 = i by omega] at c
  refine ⟨by omega, by omega, by omega, by omega, by omega, by omega, fun e => ?_⟩
  rw [w64 (by omega) (by omega)] at c
  simp only [Bool.and_eq_true, Bool.or_eq_true, Bool.not_eq_true', decide_eq_false_iff_not, decide_eq_true_eq] at c
  rcases c.2 with c | c
  · exact absurd e c
  · omega
theorem specRest (xs : List DU) (p : ByteArray) (h : validDuty xs = true) (hl : (xs.length : Int) ≤ 32) : Ev (fun k => spec_LeastRest.l0 k xs p (-1) 0) (fin (rest xs p (xs.length - 1))) := by
  rcases Nat.eq_zero_or_pos xs.length with h0 | h0
  · refine Ev.succ ?_
    simp only [spec_LeastRest.l0, h0, if_neg (show ¬ (0 : Int) < ((0 : Nat) : Int) by omega)]
    exact Ev.now _
  have last : Ev (fun k => spec_LeastRest.l0 k xs p (rest xs p (xs.length - 1)) (xs.length : Int)) (fin (rest xs p (xs.length - 1))) := by
    refine Ev.succ ?_
    simp only [spec_LeastRest.l0, if_neg (show ¬ (xs.length : Int) < (xs.length : Int) by omega)]
    unfold fin
    by_cases c : rest xs p (xs.length - 1) < 0
    · simp only [if_pos c]; exact Ev.now _
    · simp only [if_neg c]; exact Ev.now _
  have last2 : Ev (fun k => spec_LeastRest.l0 k xs p (rest xs p (xs.length - 1)) ((xs.length - 1 : Nat) : Int)) (fin (rest xs p (xs.length - 1))) := by
    refine Ev.succ ?_
    have e : spec_l26Rest.f xs ((xs.length - 1 : Nat) : Int) = some (-1) := by
      unfold spec_l26Rest.f
      rw [w64s (by omega), if_pos (by omega)]
    simp only [spec_LeastRest.l0, if_pos (show ((xs.length - 1 : Nat) : Int) < (xs.length : Int) by omega), e, Option.bind_some, if_pos (show 0 ≤ ((xs.length - 1 : Nat) : Int) by omega), if_neg (show ¬ (-1 : Int) ≥ 0 by omega), w64s (show xs.length - 1 < 9223372036854775807 by omega), ite_self]
    rw [show xs.length - 1 + 1 = xs.length by omega]
    exact last
  refine fold_from (fun k s i => spec_LeastRest.l0 k xs p s i) 0 (xs.length - 1) (rest xs p) _ (Nat.zero_le _) (fun i _ hi r hr => Ev.succ ?_) last2
  obtain ⟨g1, g2, g3, g4, g5, g6, g7⟩ := gap_ok xs h i (by omega)
  have e : spec_l26Rest.f xs (i : Int) = some (if (RDU xs (i : Int)).f0.toList = (RDU xs ((i + 1 : Nat) : Int)).f0.toList then gap xs i else -1) := by
    unfold spec_l26Rest.f
    rw [w64s (by omega), if_neg (by omega), if_pos (by omega), if_pos (by omega), if_pos (by omega), if_pos (by omega)]
    by_cases c : (RDU xs (i : Int)).f0.toList = (RDU xs ((i + 1 : Nat) : Int)).f0.toList
    · rw [if_pos c, if_pos c]
      unfold gap
      rw [w64 (x := (RDU xs ((i + 1 : Nat) : Int)).f1 - (RDU xs (i : Int)).f1) (by omega) (by omega), w64 (x := (RDU xs ((i + 1 : Nat) : Int)).f1 - (RDU xs (i : Int)).f1 - (RDU xs (i : Int)).f2) (by omega) (by omega)]
    · rw [if_neg c, if_neg c]
  simp only [spec_LeastRest.l0, if_pos (show (i : Int) < (xs.length : Int) by omega), e, Option.bind_some, if_pos (show 0 ≤ (i : Int) by omega), w64s (show i < 9223372036854775807 by omega)]
  simp only [rest] at hr
  by_cases c1 : (RDU xs (i : Int)).f0.toList = p.toList
  · simp only [if_pos c1]
    by_cases c2 : (RDU xs ((i + 1 : Nat) : Int)).f0.toList = p.toList
    · have eq : (RDU xs (i : Int)).f0.toList = (RDU xs ((i + 1 : Nat) : Int)).f0.toList := c1.trans c2.symm
      rw [if_pos (show both xs p i = true by unfold both; rw [decide_eq_true c1, decide_eq_true c2]; rfl)] at hr
      have g := g7 eq
      simp only [if_pos eq, if_pos (show gap xs i ≥ 0 from g)]
      by_cases c3 : rest xs p i < 0
      · simp only [if_pos c3] at hr ⊢; exact hr
      · simp only [if_neg c3] at hr ⊢
        by_cases c4 : gap xs i < rest xs p i
        · simp only [if_pos c4] at hr ⊢; exact hr
        · simp only [if_neg c4] at hr ⊢; exact hr
    · have ne : ¬ (RDU xs (i : Int)).f0.toList = (RDU xs ((i + 1 : Nat) : Int)).f0.toList := fun e => c2 (e.symm.trans c1)
      rw [if_neg (show ¬ both xs p i = true by unfold both; rw [decide_eq_false c2]; simp)] at hr
      simp only [if_neg ne, if_neg (show ¬ (-1 : Int) ≥ 0 by omega)]
      exact hr
  · simp only [if_neg c1]
    rw [if_neg (show ¬ both xs p i = true by unfold both; rw [decide_eq_false c1]; simp)] at hr
    exact hr
theorem implRest (xs : List DU) (p : ByteArray) (h : validDuty xs = true) (hl : (xs.length : Int) ≤ 32) : Ev (fun k => impl_LeastRest.l0 k xs p (-1) 1) (fin (rest xs p (xs.length - 1))) := by
  have orN : ∀ n : Int, impl_orNotFound.f n (decide (n ≥ 0)) = some (fin n) := fun n => by
    unfold impl_orNotFound.f fin
    by_cases c : n < 0
    · rw [if_pos c, decide_eq_false (by omega), if_neg (by simp)]
    · rw [if_neg c, decide_eq_true (by omega), if_pos rfl]
  rcases Nat.eq_zero_or_pos xs.length with h0 | h0
  · refine Ev.succ ?_
    simp only [impl_LeastRest.l0, h0, if_neg (show ¬ (1 : Int) < ((0 : Nat) : Int) by omega), orN, Option.bind_some]
    exact Ev.now _
  refine fold_from (fun k s i => impl_LeastRest.l0 k xs p s i) 1 xs.length (fun i => rest xs p (i - 1)) _ h0 (fun i h1 hi r hr => Ev.succ ?_) (Ev.succ ?_)
  · obtain ⟨i, rfl⟩ : ∃ j, i = j + 1 := ⟨i - 1, by omega⟩
    obtain ⟨g1, g2, g3, g4, g5, g6, g7⟩ := gap_ok xs h i (by omega)
    have e1 : wrap64 (((i + 1 : Nat) : Int) - 1) = (i : Int) := by rw [w64] <;> omega
    have e2 : wrap64 ((RDU xs ((i + 1 : Nat) : Int)).f1 - wrap64 ((RDU xs (i : Int)).f1 + (RDU xs (i : Int)).f2)) = gap xs i := by
      unfold gap
      rw [w64 (x := (RDU xs (i : Int)).f1 + (RDU xs (i : Int)).f2) (by omega) (by omega), w64 (by omega) (by omega)]
      omega
    simp only [show i + 1 + 1 - 1 = i + 1 by omega, rest] at hr
    simp only [impl_LeastRest.l0, if_pos (show ((i + 1 : Nat) : Int) < (xs.length : Int) by omega), if_pos (show 0 ≤ ((i + 1 : Nat) : Int) by omega), e1, if_pos (show 0 ≤ (i : Int) by omega), if_pos (show (i : Int) < (xs.length : Int) by omega),
      impl_Duty_end.f, Option.bind_some, e2, w64s (show i + 1 < 9223372036854775807 by omega), show i + 1 - 1 = i by omega]
    by_cases c2 : (RDU xs ((i + 1 : Nat) : Int)).f0.toList = p.toList
    · simp only [if_pos c2]
      by_cases c1 : (RDU xs (i : Int)).f0.toList = p.toList
      · simp only [if_pos c1]
        rw [if_pos (show both xs p i = true by unfold both; rw [decide_eq_true c1, decide_eq_true c2]; rfl)] at hr
        by_cases c3 : rest xs p i < 0
        · simp only [if_pos c3] at hr ⊢; exact hr
        · simp only [if_neg c3] at hr ⊢
          by_cases c4 : gap xs i < rest xs p i
          · simp only [if_pos c4] at hr ⊢; exact hr
          · simp only [if_neg c4] at hr ⊢; exact hr
      · simp only [if_neg c1]
        rw [if_neg (show ¬ both xs p i = true by unfold both; rw [decide_eq_false c1]; simp)] at hr
        exact hr
    · simp only [if_neg c2]
      rw [if_neg (show ¬ both xs p i = true by unfold both; rw [decide_eq_false c2]; simp)] at hr
      exact hr
  · simp only [impl_LeastRest.l0, if_neg (show ¬ (xs.length : Int) < (xs.length : Int) by omega), orN, Option.bind_some]; exact Ev.now _
theorem spec_ev (xs : List DU) (p : ByteArray) (h : smallDuty xs) : Ev (fun k => spec_LeastRest.f k xs p) (res xs p) := by
  unfold spec_LeastRest.f res
  refine Ev.bind (specDutyS_ev xs h) ?_
  by_cases c : validDuty xs = true
  · simp only [if_pos c]; exact specRest xs p c (validDuty_len c)
  · simp only [if_neg c]; exact Ev.now _
theorem impl_ev (xs : List DU) (p : ByteArray) (h : smallDuty xs) : Ev (fun k => impl_LeastRest.f k xs p) (res xs p) := by
  unfold impl_LeastRest.f res
  refine Ev.bind (implDutyS_ev xs h) ?_
  by_cases c : validDuty xs = true
  · simp only [if_pos c]; exact implRest xs p c (validDuty_len c)
  · simp only [if_neg c]; exact Ev.now _
end Go.Proofs.Ytkpjhohkopgdfaa.PFnExactLeastRest
namespace Go.Proofs.Ytkpjhohkopgdfaa.Pure
open Go.RowKit Go.Proofs.YtkpjhohkopgdfaaW.PrintWords Go.Proofs.YtkpjhohkopgdfaaW.PLib Go.Proofs.Ytkpjhohkopgdfaa.PFnExactLeastRest

theorem FnExactLeastRest : PFnExactLeastRest.Pure := by
  intro xs p hx _
  obtain ⟨_, hl, hw⟩ := hx
  have hs : smallDuty (xs.map cvDuty) := ⟨by simp; omega, fun x hx => by
    obtain ⟨y, hy, rfl⟩ := List.mem_map.1 hx
    have h1 : y.f0.size ≤ 140737488351232 := (hw y hy).1
    show y.f0.size < _
    omega⟩
  obtain ⟨r, hr⟩ := szDuty_ev xs 1048576 (by omega)
  refine Ev.get ?_
  unfold laws_FnExactLeastRest.f
  by_cases cp : (p.size : Int) > 1048576
  · simp only [if_pos cp]; exact Ev.now _
  simp only [if_neg cp]
  refine Ev.bind hr ?_
  by_cases c : r < 0
  · simp only [if_pos c]; exact Ev.now _
  simp only [if_neg c]
  refine Ev.bind (toDuty_ev xs hl) (Ev.bind (spec_ev _ _ hs) (Ev.bind (toDuty_ev xs hl) (Ev.bind (impl_ev _ _ hs) ?_)))
  simp only [bne_self_eq_false, if_true]
  refine Ev.succ ?_
  simp only [laws_FnExactLeastRest.j0, Bool.false_eq_true, if_false]
  refine Ev.bind (toDuty_ev xs hl) (Ev.bind (eqDuty_ev _ hs.1) ?_)
  simp only [if_true]; exact Ev.now _
end Go.Proofs.Ytkpjhohkopgdfaa.Pure

