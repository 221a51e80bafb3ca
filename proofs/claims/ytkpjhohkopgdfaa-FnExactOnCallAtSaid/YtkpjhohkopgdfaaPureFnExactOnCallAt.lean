/- The law FnExactOnCallAt, in numbers and lists alone: the program's OnCallAt and the reference's give one answer, and the duties stay as they were. No condition. -/
import Derived.Test.YtkpjhohkopgdfaaQFnExactOnCallAt
import Derived.Test.YtkpjhohkopgdfaaPLib
set_option linter.unusedVariables false
set_option linter.unusedSimpArgs false
namespace Go.Proofs.Ytkpjhohkopgdfaa.PFnExactOnCallAt
open Go.RowKit Go.Proofs.YtkpjhohkopgdfaaW.PrintWords Go.Proofs.YtkpjhohkopgdfaaW.PLib

theorem l00In_eq (a b c : Int) : spec_l00In.f a b c = some (decide (b ≤ a) && decide (a ≤ c)) := by
  unfold spec_l00In.f; by_cases h : a ≥ b
  · rw [if_pos h]; simp [show b ≤ a from h]
  · rw [if_neg h]; simp [show ¬ b ≤ a from h]

theorem within_eq (a b c : Int) : impl_within.f a b c = some (decide (b ≤ a) && decide (a ≤ c)) := by
  unfold impl_within.f; by_cases h : a ≥ b
  · rw [if_pos h]; simp [show b ≤ a from h]
  · rw [if_neg h]; simp [show ¬ b ≤ a from h]

/-! names -/
def smallB (c : Int) : Bool := decide (97 ≤ c) && decide (c ≤ 122)
def digitB (c : Int) : Bool := decide (48 ≤ c) && decide (c ≤ 57)
def nameB (s : ByteArray) : Bool := (decide (1 ≤ s.size) && decide (s.size ≤ 10)) && (smallB (bt s 0) && allB (fun i => smallB (bt s i) || digitB (bt s i)) s.size)
theorem small_eq (c : Int) : spec_l01Small.f c = some (smallB c) := by
  unfold spec_l01Small.f smallB; by_cases h : c ≥ 97
  · rw [if_pos h]; simp [show 97 ≤ c from h]
  · rw [if_neg h]; simp [show ¬ 97 ≤ c from h]
theorem digit_eq (c : Int) : spec_l01Digit.f c = some (digitB c) := by
  unfold spec_l01Digit.f digitB; by_cases h : c ≥ 48
  · rw [if_pos h]; simp [show 48 ≤ c from h]
  · rw [if_neg h]; simp [show ¬ 48 ≤ c from h]
theorem specName_loop (s : ByteArray) (hs : s.size < 9223372036854775807) : Ev (fun k => spec_l01Name.l0 k s 0) (allB (fun i => smallB (bt s i) || digitB (bt s i)) s.size && true) := by
  refine all_ev (fun k i => spec_l01Name.l0 k s i) s.size true _ (fun i hi => ⟨0, fun k _ => ?_⟩) ⟨0, fun k _ => ?_⟩
  · simp only [spec_l01Name.l0]
    rw [if_pos (by omega), if_pos (by omega)]
    simp only [small_eq, digit_eq, Option.bind_some, w64s (show i < 9223372036854775807 by omega)]
    by_cases c1 : smallB (bt s i) = true
    · simp [c1]
    · simp only [Bool.not_eq_true] at c1
      by_cases c2 : digitB (bt s i) = true
      · simp [c1, c2]
      · simp only [Bool.not_eq_true] at c2; simp [c1, c2]
  · simp only [spec_l01Name.l0]
    rw [if_neg (by omega)]
theorem specName_ev (s : ByteArray) (hs : s.size < 9223372036854775807) : Ev (fun k => spec_l01Name.f k s) (nameB s) := by
  obtain ⟨K, hK⟩ := specName_loop s hs
  refine ⟨K + 1, fun k hk => ?_⟩
  obtain ⟨k, rfl⟩ : ∃ m, k = m + 1 := ⟨k - 1, by omega⟩
  unfold spec_l01Name.f nameB
  simp only [spec_l01Name.j0, hK k (by omega), small_eq, Option.bind_some]
  by_cases c1 : s.toList = ([] : List UInt8)
  · rw [if_pos c1]
    have : s.size = 0 := by
      have := congrArg List.length c1
      simpa [ByteArray.toList_eq] using this
    simp [this]
  · rw [if_neg c1]
    have h0 : 1 ≤ s.size := by
      rcases Nat.eq_zero_or_pos s.size with h | h
      · exact absurd (by
          have : s.data.toList = [] := List.eq_nil_of_length_eq_zero (by rw [Array.length_toList]; exact h)
          simpa [ByteArray.toList_eq] using this) c1
      · exact h
    by_cases c2 : (s.size : Int) > 10
    · rw [if_pos c2, decide_eq_false (show ¬ s.size ≤ 10 by omega)]; simp
    · rw [if_neg c2, if_pos (by omega), decide_eq_true (show s.size ≤ 10 by omega), decide_eq_true h0]
      by_cases c3 : smallB (bt s 0) = true
      · simp [c3]
      · simp only [Bool.not_eq_true] at c3; simp [c3]
theorem implName_loop (s : ByteArray) (hs : s.size < 9223372036854775807) : Ev (fun k => impl_onlyNameBytes.f k s) (allB (fun i => smallB (bt s i) || digitB (bt s i)) s.size && true) := by
  unfold impl_onlyNameBytes.f
  refine all_ev (fun k i => impl_onlyNameBytes.l0 k s (s.size : Int) i) s.size true _ (fun i hi => ⟨0, fun k _ => ?_⟩) ⟨0, fun k _ => ?_⟩
  · simp only [impl_onlyNameBytes.l0]
    rw [if_pos (by omega), if_pos (by omega), if_pos (by omega)]
    simp only [w64s (show i < 9223372036854775807 by omega), smallB, digitB]
    by_cases a : bt s i < 97 <;> by_cases b : bt s i < 48 <;> by_cases c : bt s i > 57 <;> by_cases d : bt s i > 122 <;> simp [a, b, c, d] <;> omega
  · simp only [impl_onlyNameBytes.l0]
    rw [if_neg (by omega)]
theorem implName_ev (s : ByteArray) (hs : s.size < 9223372036854775807) : Ev (fun k => impl_IsName.f k s) (nameB s) := by
  obtain ⟨K, hK⟩ := implName_loop s hs
  refine ⟨K, fun k hk => ?_⟩
  unfold impl_IsName.f nameB
  simp only [hK k hk, Option.bind_some]
  by_cases c1 : (s.size : Int) < 1
  · rw [if_pos c1, decide_eq_false (show ¬ 1 ≤ s.size by omega)]; simp
  · rw [if_neg c1, decide_eq_true (show 1 ≤ s.size by omega)]
    by_cases c2 : (s.size : Int) > 10
    · rw [if_pos c2, decide_eq_false (show ¬ s.size ≤ 10 by omega)]; simp
    · rw [if_neg c2, if_pos (by omega), decide_eq_true (show s.size ≤ 10 by omega)]
      unfold smallB
      by_cases a : bt s 0 < 97
      · rw [if_pos a, decide_eq_false (show ¬ 97 ≤ bt s 0 by omega)]; simp
      · rw [if_neg a, decide_eq_true (show 97 ≤ bt s 0 by omega)]
        by_cases b : bt s 0 > 122
        · rw [if_pos b, decide_eq_false (show ¬ bt s 0 ≤ 122 by omega)]; simp
        · rw [if_neg b, decide_eq_true (show bt s 0 ≤ 122 by omega)]; simp

/-! Duty -/
theorem rdl_Duty (xs : List S127) (i : Nat) (h : i < xs.length) : rd_T127 xs (i : Int) = xs[i] := by unfold rd_T127; exact getD_cast xs i h _
theorem rdi_Duty (xs : List S130) (i : Nat) (h : i < xs.length) : rd_T130 xs (i : Int) = xs[i] := by unfold rd_T130; exact getD_cast xs i h _
theorem rd1_Duty (x : S130) : rd_T130 [x] 0 = x := rfl
def cvDuty (x : S127) : S130 := ⟨x.f0, x.f1, x.f2, x.f3⟩
theorem toDuty_ev (xs : List S127) (hl : xs.length * 40 ≤ 140737488351232) : Ev (fun k => laws_toDutyS.f k xs) (xs.map cvDuty) := by
  refine ⟨xs.length + 1, fun k hk => ?_⟩
  simp only [laws_toDutyS.f]
  rw [if_pos (by omega), if_pos (by omega)]
  refine to_loop (fun k ys i => laws_toDutyS.l0 k xs ys i) xs cvDuty (fun k ys i h hy => ?_) (fun k ys hy => ?_) _ (by simp) k (by omega)
  · simp only [laws_toDutyS.l0]
    rw [if_pos (by omega), if_pos (by omega)]
    simp only [laws_toDuty.f, Option.bind_some, rdl_Duty xs i h]
    rw [if_pos (by omega), w64s (by omega)]
    rfl
  · simp only [laws_toDutyS.l0]
    rw [if_neg (by omega)]
theorem eqDuty_ev (xs : List S130) (hl : xs.length < 9223372036854775807) : Ev (fun k => laws_eqDutyS.f k xs xs) true := by
  unfold laws_eqDutyS.f
  simp only [if_true]
  have := all_ev (fun k i => laws_eqDutyS.l0 k xs xs i) xs.length true (fun _ => true) (fun i hi => ⟨0, fun k _ => ?_⟩) ⟨0, fun k _ => ?_⟩
  · rw [allB_const] at this; exact this
  · simp only [laws_eqDutyS.l0]
    rw [if_pos (by omega), if_pos (by omega), if_pos (by omega)]
    simp only [laws_eqDuty.f, if_true, bne_self_eq_false, Bool.false_eq_true, if_false, Option.bind_some, w64s (show i < 9223372036854775807 by omega)]
  · simp only [laws_eqDutyS.l0]
    rw [if_neg (by omega)]
theorem szDuty_ev (xs : List S127) (a : Int) (hl : xs.length < 9223372036854775807) : ∃ r, Ev (fun k => laws_szDutyS.f k xs a) r := by
  unfold laws_szDutyS.f
  by_cases c : wrap64 (a - (xs.length : Int)) < 0
  · exact ⟨-1, by simp only [if_pos c]; exact Ev.now _⟩
  · simp only [if_neg c]
    refine tot_ev (fun k s i => laws_szDutyS.l0 k xs s i) xs.length (fun i s hi => ?_) (fun s => ⟨s, 0, fun k _ => ?_⟩) xs.length 0 _ (by omega)
    · obtain ⟨t, ht⟩ : ∃ t, laws_szDuty.f ((rd_T127 xs i).f0) ((rd_T127 xs i).f1) ((rd_T127 xs i).f2) ((rd_T127 xs i).f3) s = some t := by
        unfold laws_szDuty.f
        repeat' split
        all_goals exact ⟨_, rfl⟩
      by_cases c2 : t < 0
      · refine .inl ⟨-1, 0, fun k _ => ?_⟩
        simp only [laws_szDutyS.l0]
        rw [if_pos (by omega), if_pos (by omega), ht]
        simp only [Option.bind_some]
        rw [if_pos c2]
      · refine .inr ⟨t, 0, fun k _ => ?_⟩
        simp only [laws_szDutyS.l0]
        rw [if_pos (by omega), if_pos (by omega), ht]
        simp only [Option.bind_some]
        rw [if_neg c2, w64s (by omega)]
    · simp only [laws_szDutyS.l0]
      rw [if_neg (by omega)]

/-! duties -/
abbrev DU := S130
def oneDuty (x : DU) : Bool := nameB x.f0 && ((decide (0 ≤ x.f1) && decide (x.f1 ≤ 10000)) && (decide (1 ≤ x.f2) && decide (x.f2 ≤ 48)))
/-- As the reference tests two that follow one another. -/
def adjS (p x : DU) : Bool := !(Op.bytesLess x.f0.toList p.f0.toList) && (!decide (p.f0.toList = x.f0.toList) || decide (wrap64 (p.f1 + p.f2) ≤ x.f1))
def cmpStr (a b : ByteArray) : Int := if Op.bytesLess a.toList b.toList = true then -1 else if Op.bytesLess b.toList a.toList = true then 1 else 0
def cmpInt (a b : Int) : Int := if a < b then -1 else if a > b then 1 else 0
def cmpDuty (p x : DU) : Int := if cmpStr p.f0 x.f0 = 0 then cmpInt p.f1 x.f1 else cmpStr p.f0 x.f0
/-- As the program does. -/
def adjI (p x : DU) : Bool := decide (cmpDuty p x < 0) && (!decide (p.f0.toList = x.f0.toList) || decide (wrap64 (p.f1 + p.f2) ≤ x.f1))
def okS (xs : List DU) (i : Nat) : Bool := if h : i < xs.length then oneDuty xs[i] && (decide (i = 0) || adjS xs[i - 1] xs[i]) else false
def okI (xs : List DU) (i : Nat) : Bool := if h : i < xs.length then oneDuty xs[i] && (decide (i = 0) || adjI xs[i - 1] xs[i]) else false
def validDuty (xs : List DU) : Bool := allB (okS xs) xs.length && decide ((xs.length : Int) ≤ 32)
def smDuty (x : DU) : Prop := x.f0.size < 9223372036854775807
def smallDuty (xs : List DU) : Prop := xs.length < 9223372036854775807 ∧ ∀ x ∈ xs, smDuty x
theorem bl_irrefl : ∀ a : List UInt8, Op.bytesLess a a = false
  | [] => rfl
  | x :: a => by simp [Op.bytesLess, bl_irrefl a]
theorem adj_iff (p x : DU) (hp : oneDuty p = true) (hx : oneDuty x = true) : adjS p x = adjI p x := by
  unfold oneDuty at hp hx
  simp only [Bool.and_eq_true, decide_eq_true_eq] at hp hx
  have hw : wrap64 (p.f1 + p.f2) = p.f1 + p.f2 := by rw [w64] <;> omega
  unfold adjS adjI cmpDuty cmpStr cmpInt
  rw [hw]
  have tot := bl_total p.f0.toList x.f0.toList
  by_cases e : p.f0.toList = x.f0.toList
  · rw [e, bl_irrefl]
    by_cases c1 : p.f1 < x.f1
    · simp [c1]
    · have c2 : ¬ p.f1 + p.f2 ≤ x.f1 := by omega
      simp [c2]
  · rw [show (p.f0.toList == x.f0.toList) = false by simpa using e, Bool.or_false] at tot
    cases c : Op.bytesLess x.f0.toList p.f0.toList
    · rw [c] at tot; simp [tot, e]
    · rw [c] at tot; simp [tot, e]
theorem ok_iff (xs : List DU) : allB (okS xs) xs.length = allB (okI xs) xs.length := by
  rw [Bool.eq_iff_iff, allB_true, allB_true]
  constructor
  · intro h i hi
    have h1 := h i hi
    unfold okS at h1
    unfold okI
    rw [dif_pos hi] at h1 ⊢
    simp only [Bool.and_eq_true, Bool.or_eq_true, decide_eq_true_eq] at h1 ⊢
    refine ⟨h1.1, ?_⟩
    rcases h1.2 with h2 | h2
    · exact .inl h2
    · by_cases c : i = 0
      · exact .inl c
      · have h3 := h (i - 1) (by omega)
        unfold okS at h3
        rw [dif_pos (by omega)] at h3
        simp only [Bool.and_eq_true] at h3
        exact .inr ((adj_iff _ _ h3.1 h1.1).symm.trans h2)
  · intro h i hi
    have h1 := h i hi
    unfold okI at h1
    unfold okS
    rw [dif_pos hi] at h1 ⊢
    simp only [Bool.and_eq_true, Bool.or_eq_true, decide_eq_true_eq] at h1 ⊢
    refine ⟨h1.1, ?_⟩
    rcases h1.2 with h2 | h2
    · exact .inl h2
    · by_cases c : i = 0
      · exact .inl c
      · have h3 := h (i - 1) (by omega)
        unfold okI at h3
        rw [dif_pos (by omega)] at h3
        simp only [Bool.and_eq_true] at h3
        exact .inr ((adj_iff _ _ h3.1 h1.1).trans h2)
theorem specOneDuty_ev (x : DU) (h : smDuty x) : Ev (fun k => spec_l26One.f k [x]) (oneDuty x) := by
  refine Ev.then_ (specName_ev x.f0 h) fun k e => ?_
  unfold spec_l26One.f oneDuty
  rw [if_pos (by simp)]
  simp only [rd1_Duty, e, Option.bind_some, l00In_eq, ifs, ifn]
theorem implOneDuty_ev (x : DU) (h : smDuty x) : Ev (fun k => impl_Duty_valid.f k x.f0 x.f1 x.f2 x.f3) (oneDuty x) := by
  refine Ev.then_ (implName_ev x.f0 h) fun k e => ?_
  unfold impl_Duty_valid.f oneDuty
  simp only [e, Option.bind_some, within_eq, ifs, ifn]
theorem specDutyS_ev (xs : List DU) (h : smallDuty xs) : Ev (fun k => spec_l26Ok.f k xs) (validDuty xs) := by
  obtain ⟨hl, hx⟩ := h
  unfold spec_l26Ok.f validDuty
  refine all_ev (fun k i => spec_l26Ok.l0 k xs i) xs.length _ (okS xs) (fun i hi => ?_) ⟨0, fun k _ => ?_⟩
  · refine Ev.with_ (specOneDuty_ev xs[i] (hx _ (List.getElem_mem hi))) fun k e => ?_
    simp only [spec_l26Ok.l0]
    rw [if_pos (by omega), if_pos (by omega), rdi_Duty xs i hi, e, Option.bind_some, w64s (by omega)]
    by_cases c1 : oneDuty xs[i] = true
    · rw [if_pos c1]
      by_cases c2 : i = 0
      · rw [if_neg (by omega), if_pos (by unfold okS; rw [dif_pos hi, c1, decide_eq_true c2]; rfl)]
      · have e1 : wrap64 ((i : Int) - 1) = ((i - 1 : Nat) : Int) := by rw [w64] <;> omega
        rw [if_pos (by omega), e1, if_pos (by omega), if_pos (by omega), rdi_Duty xs (i - 1) (by omega)]
        rw [show okS xs i = adjS xs[i - 1] xs[i] from by unfold okS; rw [dif_pos hi, c1, decide_eq_false c2, Bool.true_and, Bool.false_or]]
        unfold adjS
        cases a : Op.bytesLess xs[i].f0.toList xs[i - 1].f0.toList
        · by_cases b : xs[i - 1].f0.toList = xs[i].f0.toList
          · by_cases c : wrap64 (xs[i - 1].f1 + xs[i - 1].f2) ≤ xs[i].f1
            · have c' : ¬ wrap64 (xs[i - 1].f1 + xs[i - 1].f2) > xs[i].f1 := by omega
              simp [b, c, c']
            · have c' : wrap64 (xs[i - 1].f1 + xs[i - 1].f2) > xs[i].f1 := by omega
              simp [b, c, c']
          · simp [b]
        · simp
    · rw [if_neg c1, if_neg (by unfold okS; simp only [Bool.not_eq_true] at c1; rw [dif_pos hi, c1]; simp)]
  · simp only [spec_l26Ok.l0]
    rw [if_neg (by omega)]
theorem cmpStr_eq (a b : ByteArray) : cmp_Compare_string.f a b = some (cmpStr a b) := by
  unfold cmp_Compare_string.f cmp_isNaN_string.f cmpStr
  simp only [bne_self_eq_false, Option.bind_some, Bool.false_eq_true, if_false]
  repeat' split
  all_goals rfl
theorem cmpInt_eq (a b : Int) : cmp_Compare_int64.f a b = some (cmpInt a b) := by
  unfold cmp_Compare_int64.f cmp_isNaN_int64.f cmpInt
  simp only [bne_self_eq_false, Option.bind_some, Bool.false_eq_true, if_false]
  repeat' split
  all_goals rfl
theorem cmpOr_ev (a b : Int) : Ev (fun k => cmp_Or_int.f k [a, b]) (if a = 0 then b else a) := by
  refine ⟨3, fun k hk => ?_⟩
  obtain ⟨k, rfl⟩ : ∃ m, k = m + 3 := ⟨k - 3, by omega⟩
  have w1 : wrap64 (0 + 1) = 1 := by unfold wrap64; omega
  have w2 : wrap64 (1 + 1) = 2 := by unfold wrap64; omega
  have r0 : rd [a, b] 0 = a := rfl
  have r1 : rd [a, b] 1 = b := rfl
  unfold cmp_Or_int.f
  simp only [cmp_Or_int.l0, w1, w2, r0, r1]
  by_cases c : a = 0
  · by_cases d : b = 0
    · simp [c, d]
    · simp [c, d]
  · simp [c]
theorem cmpDuty_ev (p x : DU) : Ev (fun k => impl_compareDuties.f k p.f0 p.f1 p.f2 p.f3 x.f0 x.f1 x.f2 x.f3) (cmpDuty p x) := by
  unfold impl_compareDuties.f cmpDuty
  simp only [cmpStr_eq, cmpInt_eq, Option.bind_some]
  exact Ev.bind (cmpOr_ev _ _) (Ev.now _)
theorem implDutyS_ev (xs : List DU) (h : smallDuty xs) : Ev (fun k => impl_ValidDuties.f k xs) (validDuty xs) := by
  obtain ⟨hl, hx⟩ := h
  unfold impl_ValidDuties.f validDuty
  rw [ok_iff]
  by_cases c : (xs.length : Int) > 32
  · simp only [if_pos c]
    rw [decide_eq_false (show ¬ (xs.length : Int) ≤ 32 by omega), Bool.and_false]; exact Ev.now _
  simp only [if_neg c]
  rw [decide_eq_true (show (xs.length : Int) ≤ 32 by omega)]
  refine all_evE (fun k i => impl_ValidDuties.l0 k xs xs (xs.length : Int) i) xs.length true (okI xs) (fun i hi r hr => ?_) ⟨1, fun k hk => ?_⟩
  · refine Ev.succ ?_
    simp only [impl_ValidDuties.l0, if_pos (show (i : Int) < (xs.length : Int) by omega), if_pos (show 0 ≤ (i : Int) by omega), rdi_Duty xs i hi]
    refine Ev.bind (implOneDuty_ev xs[i] (hx _ (List.getElem_mem hi))) ?_
    have j1 : ∀ b : Bool, Ev (fun k => impl_ValidDuties.j1 k xs (i : Int) xs (xs.length : Int) (i : Int) b xs[i].f0 xs[i].f1 xs[i].f2 xs[i].f3)
        (if b = true then false else if i = 0 then r else if (!decide (xs[i - 1].f0.toList = xs[i].f0.toList) || decide (wrap64 (xs[i - 1].f1 + xs[i - 1].f2) ≤ xs[i].f1)) = true then r else false) := by
      intro b
      cases b
      · by_cases c2 : i = 0
        · simp only [if_pos c2, Bool.false_eq_true, if_false]
          refine Ev.step' hr (fun k => ?_)
          simp only [impl_ValidDuties.j1, Bool.false_eq_true, if_false]
          rw [if_neg (by omega), w64s (by omega)]
        · have e1 : wrap64 ((i : Int) - 1) = ((i - 1 : Nat) : Int) := by rw [w64] <;> omega
          simp only [if_neg c2, Bool.false_eq_true, if_false]
          by_cases b1 : xs[i - 1].f0.toList = xs[i].f0.toList
          · by_cases b2 : wrap64 (xs[i - 1].f1 + xs[i - 1].f2) ≤ xs[i].f1
            · simp only [b1, b2, decide_true, Bool.or_true, if_true]
              refine Ev.step' hr (fun k => ?_)
              simp only [impl_ValidDuties.j1, Bool.false_eq_true, if_false, impl_Duty_end.f]
              rw [if_pos (by omega), e1, if_pos (by omega), if_pos (by omega), rdi_Duty xs (i - 1) (by omega), if_pos b1, Option.bind_some, if_neg (by omega), w64s (by omega)]
            · simp only [b1, b2, decide_true, decide_false, Bool.not_true, Bool.or_false, Bool.false_eq_true, if_false]
              refine Ev.step' (Ev.now false) (fun k => ?_)
              simp only [impl_ValidDuties.j1, Bool.false_eq_true, if_false, impl_Duty_end.f]
              rw [if_pos (by omega), e1, if_pos (by omega), if_pos (by omega), rdi_Duty xs (i - 1) (by omega), if_pos b1, Option.bind_some, if_pos (by omega)]
          · simp only [b1, decide_false, Bool.not_false, Bool.true_or, if_true]
            refine Ev.step' hr (fun k => ?_)
            simp only [impl_ValidDuties.j1, Bool.false_eq_true, if_false, impl_Duty_end.f]
            rw [if_pos (by omega), e1, if_pos (by omega), if_pos (by omega), rdi_Duty xs (i - 1) (by omega), if_neg b1, w64s (by omega)]
      · simp only [if_true]
        refine Ev.step' (Ev.now false) (fun k => ?_)
        simp only [impl_ValidDuties.j1, if_true]
    by_cases c1 : oneDuty xs[i] = true
    · simp only [if_pos c1]
      by_cases c2 : i = 0
      · rw [if_pos (by unfold okI; rw [dif_pos hi, c1, decide_eq_true c2]; rfl)]
        have h1 := j1 false
        simp only [Bool.false_eq_true, if_false, if_pos c2] at h1
        simp only [if_neg (show ¬ (i : Int) > 0 by omega)]
        exact h1
      · have e1 : wrap64 ((i : Int) - 1) = ((i - 1 : Nat) : Int) := by rw [w64] <;> omega
        simp only [if_pos (show (i : Int) > 0 by omega), e1, if_pos (show 0 ≤ ((i - 1 : Nat) : Int) by omega), if_pos (show ((i - 1 : Nat) : Int) < (xs.length : Int) by omega), rdi_Duty xs (i - 1) (by omega)]
        refine Ev.bind (cmpDuty_ev xs[i - 1] xs[i]) ?_
        have h1 := j1 (decide (cmpDuty xs[i - 1] xs[i] ≥ 0))
        rw [show okI xs i = adjI xs[i - 1] xs[i] from by unfold okI; rw [dif_pos hi, c1, decide_eq_false c2, Bool.true_and, Bool.false_or]]
        unfold adjI
        simp only [if_neg c2] at h1
        by_cases c3 : cmpDuty xs[i - 1] xs[i] < 0
        · rw [decide_eq_true c3, Bool.true_and]
          rw [decide_eq_false (show ¬ cmpDuty xs[i - 1] xs[i] ≥ 0 by omega)] at h1 ⊢
          simp only [Bool.false_eq_true, if_false] at h1
          exact h1
        · rw [decide_eq_false c3, Bool.false_and]
          rw [decide_eq_true (show cmpDuty xs[i - 1] xs[i] ≥ 0 by omega)] at h1 ⊢
          simp only [if_true, Bool.false_eq_true, if_false] at h1 ⊢
          exact h1
    · simp only [if_neg c1]
      rw [if_neg (by unfold okI; simp only [Bool.not_eq_true] at c1; rw [dif_pos hi, c1]; simp)]
      have h1 := j1 true
      simp only [if_true] at h1
      exact h1
  · obtain ⟨k, rfl⟩ : ∃ m, k = m + 1 := ⟨k - 1, by omega⟩
    simp only [impl_ValidDuties.l0]
    rw [if_neg (by omega)]
theorem validDuty_len {xs : List DU} (h : validDuty xs = true) : (xs.length : Int) ≤ 32 := by
  unfold validDuty at h
  simp only [Bool.and_eq_true, decide_eq_true_eq] at h
  exact h.2
theorem validDuty_at {xs : List DU} (h : validDuty xs = true) (i : Nat) (hi : i < xs.length) : oneDuty xs[i] = true ∧ (0 < i → adjS xs[i - 1] xs[i] = true) := by
  unfold validDuty at h
  simp only [Bool.and_eq_true] at h
  have := allB_true.1 h.1 i hi
  unfold okS at this
  rw [dif_pos hi] at this
  simp only [Bool.and_eq_true, Bool.or_eq_true, decide_eq_true_eq] at this
  exact ⟨this.1, fun h0 => by rcases this.2 with h1 | h1; omega; exact h1⟩

abbrev RDU := rd_T130
def atB (xs : List DU) (h : Int) (i : Nat) : Bool := (RDU xs i).f3 && (decide ((RDU xs i).f1 ≤ h) && decide (h < wrap64 ((RDU xs i).f1 + (RDU xs i).f2)))
/-- Who is on call at the hour, among the first i. -/
def pers (xs : List DU) (h : Int) : Nat → List ByteArray
  | 0 => []
  | i + 1 => if atB xs h i = true then pers xs h i ++ [(RDU xs i).f0] else pers xs h i
theorem pers_len (xs : List DU) (h : Int) : ∀ i, (pers xs h i).length ≤ i
  | 0 => Nat.le_refl _
  | i + 1 => by
    have := pers_len xs h i
    unfold pers
    split
    · simp; omega
    · omega
theorem pers_pre (xs : List DU) (h : Int) (i : Nat) : ∀ d, ∃ t, pers xs h (i + d) = pers xs h i ++ t
  | 0 => ⟨[], by simp⟩
  | d + 1 => by
    obtain ⟨t, ht⟩ := pers_pre xs h i d
    rw [← Nat.add_assoc, pers]
    split
    · exact ⟨t ++ [(RDU xs ((i + d : Nat) : Int)).f0], by rw [ht, List.append_assoc]⟩
    · exact ⟨t, ht⟩
def first (l : List ByteArray) : ByteArray × Int := match l with | [] => ((⟨#[]⟩ : ByteArray), 3) | x :: _ => (x, 0)
def hourB (h : Int) : Bool := decide (0 ≤ h) && decide (h ≤ 10100)
def res (xs : List DU) (h : Int) : ByteArray × Int := if validDuty xs = true then (if hourB h = true then first (pers xs h xs.length) else ((⟨#[]⟩ : ByteArray), 2)) else ((⟨#[]⟩ : ByteArray), 1)
theorem specLoop (xs : List DU) (h : Int) (hl : xs.length < 9223372036854775807) : Ev (fun k => spec_OnCallAt.l0 k xs h 0) (first (pers xs h xs.length)) := by
  have key := inv_evE (σ := Unit) (fun k _ i => spec_OnCallAt.l0 k xs h i) xs.length (fun i _ => pers xs h i = []) (fun r => r = first (pers xs h xs.length)) (fun i _ hi hI => ?_) (fun _ hI => ?_) xs.length 0 () (by omega) rfl
  · obtain ⟨r, rfl, hr⟩ := key
    exact hr
  · have hat : spec_l26At.f [RDU xs i] h = some (decide ((RDU xs i).f1 ≤ h) && decide (h < wrap64 ((RDU xs i).f1 + (RDU xs i).f2))) := by
      unfold spec_l26At.f
      rw [if_pos (by simp)]
      show (if h ≥ (RDU xs i).f1 then some (decide (h < wrap64 ((RDU xs i).f1 + (RDU xs i).f2))) else some false) = _
      by_cases c : h ≥ (RDU xs i).f1
      · rw [if_pos c, decide_eq_true (show (RDU xs i).f1 ≤ h from c)]; simp
      · rw [if_neg c, decide_eq_false (show ¬ (RDU xs i).f1 ≤ h from c)]; simp
    by_cases c : atB xs h i = true
    · refine .inl ⟨_, rfl, Ev.succ ?_⟩
      have e : first (pers xs h xs.length) = ((RDU xs i).f0, 0) := by
        obtain ⟨t, ht⟩ := pers_pre xs h (i + 1) (xs.length - (i + 1))
        rw [show i + 1 + (xs.length - (i + 1)) = xs.length by omega] at ht
        rw [ht, pers, if_pos c, hI]
        rfl
      rw [e]
      unfold atB at c
      simp only [Bool.and_eq_true] at c
      simp only [spec_OnCallAt.l0, if_pos (show (i : Int) < (xs.length : Int) by omega), if_pos (show 0 ≤ (i : Int) by omega), if_pos c.1, hat, Option.bind_some]
      rw [show (decide ((RDU xs i).f1 ≤ h) && decide (h < wrap64 ((RDU xs i).f1 + (RDU xs i).f2))) = true by simp only [Bool.and_eq_true]; exact c.2]
      simp only [if_true]; exact Ev.now _
    · refine .inr ⟨(), by rw [pers, if_neg c]; exact hI, fun r hr => Ev.succ ?_⟩
      simp only [spec_OnCallAt.l0, if_pos (show (i : Int) < (xs.length : Int) by omega), if_pos (show 0 ≤ (i : Int) by omega), hat, Option.bind_some, w64s (show i < 9223372036854775807 by omega)]
      by_cases c3 : (RDU xs i).f3 = true
      · simp only [if_pos c3]
        rw [show (decide ((RDU xs i).f1 ≤ h) && decide (h < wrap64 ((RDU xs i).f1 + (RDU xs i).f2))) = false by unfold atB at c; rw [c3, Bool.true_and] at c; simpa using c]
        simp only [Bool.false_eq_true, if_false]; exact hr
      · simp only [if_neg c3]; exact hr
  · refine ⟨_, rfl, Ev.succ ?_⟩
    rw [hI]
    simp only [spec_OnCallAt.l0, if_neg (show ¬ (xs.length : Int) < (xs.length : Int) by omega)]; exact Ev.now _
theorem implPers (xs : List DU) (h : Int) (hl : (xs.length : Int) ≤ 32) : Ev (fun k => impl_personsAt.f k xs h true) (pers xs h xs.length) := by
  unfold impl_personsAt.f
  refine fold_from (fun k s i => impl_personsAt.l0 k h true s xs (xs.length : Int) i) 0 xs.length (pers xs h) _ (Nat.zero_le _) (fun i _ hi r hr => Ev.succ ?_) (Ev.succ ?_)
  · have := pers_len xs h i
    simp only [impl_personsAt.l0, if_pos (show (i : Int) < (xs.length : Int) by omega), if_pos (show 0 ≤ (i : Int) by omega), impl_Duty_end.f, Option.bind_some, w64s (show i < 9223372036854775807 by omega), if_pos (show (pers xs h i).length < 8796093022208 by omega), beq_true]
    simp only [pers] at hr
    by_cases c1 : (RDU xs i).f3 = true
    · simp only [if_pos c1]
      by_cases c2 : (RDU xs i).f1 ≤ h
      · simp only [if_pos c2]
        by_cases c3 : h < wrap64 ((RDU xs i).f1 + (RDU xs i).f2)
        · simp only [if_pos c3]; rw [if_pos (show atB xs h i = true by unfold atB; rw [c1, decide_eq_true c2, decide_eq_true c3]; rfl)] at hr; exact hr
        · simp only [if_neg c3]; rw [if_neg (show ¬ atB xs h i = true by unfold atB; rw [decide_eq_false c3]; simp)] at hr; exact hr
      · simp only [if_neg c2]; rw [if_neg (show ¬ atB xs h i = true by unfold atB; rw [decide_eq_false c2]; simp)] at hr; exact hr
    · simp only [if_neg c1]
      rw [if_neg (show ¬ atB xs h i = true by unfold atB; simp only [Bool.not_eq_true] at c1; rw [c1]; simp)] at hr; exact hr
  · simp only [impl_personsAt.l0, if_neg (show ¬ (xs.length : Int) < (xs.length : Int) by omega)]; exact Ev.now _
theorem spec_ev (xs : List DU) (h : Int) (hs : smallDuty xs) : Ev (fun k => spec_OnCallAt.f k xs h) (res xs h) := by
  unfold spec_OnCallAt.f res
  refine Ev.bind (specDutyS_ev xs hs) ?_
  by_cases c : validDuty xs = true
  · simp only [if_pos c, spec_l26Hour.f, l00In_eq, Option.bind_some]
    show Ev (fun k => if hourB h = true then _ else _) _
    by_cases c2 : hourB h = true
    · simp only [if_pos c2]; exact specLoop xs h hs.1
    · simp only [if_neg c2]; exact Ev.now _
  · simp only [if_neg c]; exact Ev.now _
theorem impl_ev (xs : List DU) (h : Int) (hs : smallDuty xs) : Ev (fun k => impl_OnCallAt.f k xs h) (res xs h) := by
  unfold impl_OnCallAt.f res
  refine Ev.bind (implDutyS_ev xs hs) ?_
  by_cases c : validDuty xs = true
  · simp only [if_pos c, impl_dutyHour.f, within_eq, Option.bind_some]
    show Ev (fun k => if hourB h = true then _ else _) _
    by_cases c2 : hourB h = true
    · simp only [if_pos c2]
      refine Ev.bind (implPers xs h (validDuty_len c)) ?_
      cases e : pers xs h xs.length with
      | nil => simp [first]; exact Ev.now _
      | cons x t =>
        simp only [List.length_cons, if_neg (show ¬ ((t.length + 1 : Nat) : Int) = 0 by omega), if_pos (show 0 < ((t.length + 1 : Nat) : Int) by omega)]
        exact Ev.now _
    · simp only [if_neg c2]; exact Ev.now _
  · simp only [if_neg c]; exact Ev.now _
end Go.Proofs.Ytkpjhohkopgdfaa.PFnExactOnCallAt
namespace Go.Proofs.Ytkpjhohkopgdfaa.Pure
open Go.RowKit Go.Proofs.YtkpjhohkopgdfaaW.PrintWords Go.Proofs.YtkpjhohkopgdfaaW.PLib Go.Proofs.Ytkpjhohkopgdfaa.PFnExactOnCallAt

theorem FnExactOnCallAt : PFnExactOnCallAt.Pure := by
  intro xs p hx _
  obtain ⟨_, hl, hw⟩ := hx
  have hs : smallDuty (xs.map cvDuty) := ⟨by simp; omega, fun x hx => by
    obtain ⟨y, hy, rfl⟩ := List.mem_map.1 hx
    have h1 : y.f0.size ≤ 140737488351232 := (hw y hy).1
    show y.f0.size < _
    omega⟩
  obtain ⟨r, hr⟩ := szDuty_ev xs 1048576 (by omega)
  refine Ev.get ?_
  unfold laws_FnExactOnCallAt.f
  refine Ev.bind hr ?_
  by_cases c : r < 0
  · simp only [if_pos c]; exact Ev.now _
  simp only [if_neg c]
  refine Ev.bind (toDuty_ev xs hl) (Ev.bind (spec_ev _ _ hs) (Ev.bind (toDuty_ev xs hl) (Ev.bind (impl_ev _ _ hs) ?_)))
  simp only [bne_self_eq_false, if_true]
  refine Ev.succ ?_
  simp only [laws_FnExactOnCallAt.j0, Bool.false_eq_true, if_false]
  refine Ev.bind (toDuty_ev xs hl) (Ev.bind (eqDuty_ev _ hs.1) ?_)
  simp only [if_true]; exact Ev.now _
end Go.Proofs.Ytkpjhohkopgdfaa.Pure

