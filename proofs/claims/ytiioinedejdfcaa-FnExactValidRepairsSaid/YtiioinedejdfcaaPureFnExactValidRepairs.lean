/- The law FnExactValidRepairs, in numbers and lists alone: the program's ValidRepairs and the reference's give one answer, and the list stays as it was. No condition. -/
import Derived.Test.YtiioinedejdfcaaQFnExactValidRepairs
import Derived.Test.YtiioinedejdfcaaPLib
set_option linter.unusedVariables false
set_option linter.unusedSimpArgs false
namespace Go.Proofs.Ytiioinedejdfcaa.PFnExactValidRepairs
open Go.RowKit Go.Proofs.YtiioinedejdfcaaW.PrintWords Go.Proofs.YtiioinedejdfcaaW.PLib

theorem l00In_eq (a b c : Int) : spec_l00In.f a b c = some (decide (b ≤ a) && decide (a ≤ c)) := by
  unfold spec_l00In.f; by_cases h : a ≥ b
  · rw [if_pos h]; simp [show b ≤ a from h]
  · rw [if_neg h]; simp [show ¬ b ≤ a from h]

theorem within_eq (a b c : Int) : impl_within.f a b c = some (decide (b ≤ a) && decide (a ≤ c)) := by
  unfold impl_within.f; by_cases h : a ≥ b
  · rw [if_pos h]; simp [show b ≤ a from h]
  · rw [if_neg h]; simp [show ¬ b ≤ a from h]

/-! names -/
def smallB (c : Int) : Bool := decide (97 ≤ c) && decide (c ≤ 122)
def digitB (c : Int) : Bool := decide (48 ≤ c) && decide (c ≤ 57)
def nameB (s : ByteArray) : Bool := (decide (1 ≤ s.size) && decide (s.size ≤ 10)) && (smallB (bt s 0) && allB (fun i => smallB (bt s i) || digitB (bt s i)) s.size)
theorem small_eq (c : Int) : spec_l01Small.f c = some (smallB c) := by
  unfold spec_l01Small.f smallB; by_cases h : c ≥ 97
  · rw [if_pos h]; simp [show 97 ≤ c from h]
  · rw [if_neg h]; simp [show ¬ 97 ≤ c from h]
theorem digit_eq (c : Int) : spec_l01Digit.f c = some (digitB c) := by
  unfold spec_l01Digit.f digitB; by_cases h : c ≥ 48
  · rw [if_pos h]; simp [show 48 ≤ c from h]
  · rw [if_neg h]; simp [show ¬ 48 ≤ c from h]
theorem specName_loop (s : ByteArray) (hs : s.size < 9223372036854775807) : Ev (fun k => spec_l01Name.l0 k s 0) (allB (fun i => smallB (bt s i) || digitB (bt s i)) s.size && true) := by
  refine all_ev (fun k i => spec_l01Name.l0 k s i) s.size true _ (fun i hi => ⟨0, fun k _ => ?_⟩) ⟨0, fun k _ => ?_⟩
  · simp only [spec_l01Name.l0]
    rw [if_pos (by omega), if_pos (by omega)]
    simp only [small_eq, digit_eq, Option.bind_some, w64s (show i < 9223372036854775807 by omega)]
    by_cases c1 : smallB (bt s i) = true
    · simp [c1]
    · simp only [Bool.not_eq_true] at c1
      by_cases c2 : digitB (bt s i) = true
      · simp [c1, c2]
      · simp only [Bool.not_eq_true] at c2; simp [c1, c2]
  · simp only [spec_l01Name.l0]
    rw [if_neg (by omega)]
theorem specName_ev (s : ByteArray) (hs : s.size < 9223372036854775807) : Ev (fun k => spec_l01Name.f k s) (nameB s) := by
  obtain ⟨K, hK⟩ := specName_loop s hs
  refine ⟨K + 1, fun k hk => ?_⟩
  obtain ⟨k, rfl⟩ : ∃ m, k = m + 1 := ⟨k - 1, by omega⟩
  unfold spec_l01Name.f nameB
  simp only [spec_l01Name.j0, hK k (by omega), small_eq, Option.bind_some]
  by_cases c1 : s.toList = ([] : List UInt8)
  · rw [if_pos c1]
    have : s.size = 0 := by
      have := congrArg List.length c1
      simpa [ByteArray.toList_eq] using this
    simp [this]
  · rw [if_neg c1]
    have h0 : 1 ≤ s.size := by
      rcases Nat.eq_zero_or_pos s.size with h | h
      · exact absurd (by
          have : s.data.toList = [] := List.eq_nil_of_length_eq_zero (by rw [Array.length_toList]; exact h)
          simpa [ByteArray.toList_eq] using this) c1
      · exact h
    by_cases c2 : (s.size : Int) > 10
    · rw [if_pos c2, decide_eq_false (show ¬ s.size ≤ 10 by omega)]; simp
    · rw [if_neg c2, if_pos (by omega), decide_eq_true (show s.size ≤ 10 by omega), decide_eq_true h0]
      by_cases c3 : smallB (bt s 0) = true
      · simp [c3]
      · simp only [Bool.not_eq_true] at c3; simp [c3]
theorem implName_loop (s : ByteArray) (hs : s.size < 9223372036854775807) : Ev (fun k => impl_onlyNameBytes.f k s) (allB (fun i => smallB (bt s i) || digitB (bt s i)) s.size && true) := by
  unfold impl_onlyNameBytes.f
  refine all_ev (fun k i => impl_onlyNameBytes.l0 k s (s.size : Int) i) s.size true _ (fun i hi => ⟨0, fun k _ => ?_⟩) ⟨0, fun k _ => ?_⟩
  · simp only [impl_onlyNameBytes.l0]
    rw [if_pos (by omega), if_pos (by omega), if_pos (by omega)]
    simp only [w64s (show i < 9223372036854775807 by omega), smallB, digitB]
    by_cases a : bt s i < 97 <;> by_cases b : bt s i < 48 <;> by_cases c : bt s i > 57 <;> by_cases d : bt s i > 122 <;> simp [a, b, c, d] <;> omega
  · simp only [impl_onlyNameBytes.l0]
    rw [if_neg (by omega)]
theorem implName_ev (s : ByteArray) (hs : s.size < 9223372036854775807) : Ev (fun k => impl_IsName.f k s) (nameB s) := by
  obtain ⟨K, hK⟩ := implName_loop s hs
  refine ⟨K, fun k hk => ?_⟩
  unfold impl_IsName.f nameB
  simp only [hK k hk, Option.bind_some]
  by_cases c1 : (s.size : Int) < 1
  · rw [if_pos c1, decide_eq_false (show ¬ 1 ≤ s.size by omega)]; simp
  · rw [if_neg c1, decide_eq_true (show 1 ≤ s.size by omega)]
    by_cases c2 : (s.size : Int) > 10
    · rw [if_pos c2, decide_eq_false (show ¬ s.size ≤ 10 by omega)]; simp
    · rw [if_neg c2, if_pos (by omega), decide_eq_true (show s.size ≤ 10 by omega)]
      unfold smallB
      by_cases a : bt s 0 < 97
      · rw [if_pos a, decide_eq_false (show ¬ 97 ≤ bt s 0 by omega)]; simp
      · rw [if_neg a, decide_eq_true (show 97 ≤ bt s 0 by omega)]
        by_cases b : bt s 0 > 122
        · rw [if_pos b, decide_eq_false (show ¬ bt s 0 ≤ 122 by omega)]; simp
        · rw [if_neg b, decide_eq_true (show bt s 0 ≤ 122 by omega)]; simp

/-! Repair -/
theorem rdl_Repair (xs : List S152) (i : Nat) (h : i < xs.length) : rd_T152 xs (i : Int) = xs[i] := by unfold rd_T152; exact getD_cast xs i h _
theorem rdi_Repair (xs : List S153) (i : Nat) (h : i < xs.length) : rd_T153 xs (i : Int) = xs[i] := by unfold rd_T153; exact getD_cast xs i h _
theorem rd1_Repair (x : S153) : rd_T153 [x] 0 = x := rfl
def cvRepair (x : S152) : S153 := ⟨x.f0, x.f1, x.f2, x.f3⟩
theorem toRepair_ev (xs : List S152) (hl : xs.length * 40 ≤ 140737488351232) : Ev (fun k => laws_toRepairS.f k xs) (xs.map cvRepair) := by
  refine ⟨xs.length + 1, fun k hk => ?_⟩
  simp only [laws_toRepairS.f]
  rw [if_pos (by omega), if_pos (by omega)]
  refine to_loop (fun k ys i => laws_toRepairS.l0 k xs ys i) xs cvRepair (fun k ys i h hy => ?_) (fun k ys hy => ?_) _ (by simp) k (by omega)
  · simp only [laws_toRepairS.l0]
    rw [if_pos (by omega), if_pos (by omega)]
    simp only [laws_toRepair.f, Option.bind_some, rdl_Repair xs i h]
    rw [if_pos (by omega), w64s (by omega)]
    rfl
  · simp only [laws_toRepairS.l0]
    rw [if_neg (by omega)]
theorem eqRepair_ev (xs : List S153) (hl : xs.length < 9223372036854775807) : Ev (fun k => laws_eqRepairS.f k xs xs) true := by
  unfold laws_eqRepairS.f
  simp only [if_true]
  have := all_ev (fun k i => laws_eqRepairS.l0 k xs xs i) xs.length true (fun _ => true) (fun i hi => ⟨0, fun k _ => ?_⟩) ⟨0, fun k _ => ?_⟩
  · rw [allB_const] at this; exact this
  · simp only [laws_eqRepairS.l0]
    rw [if_pos (by omega), if_pos (by omega), if_pos (by omega)]
    simp only [laws_eqRepair.f, if_true, Option.bind_some, w64s (show i < 9223372036854775807 by omega)]
  · simp only [laws_eqRepairS.l0]
    rw [if_neg (by omega)]
theorem szRepair_ev (xs : List S152) (a : Int) (hl : xs.length < 9223372036854775807) : ∃ r, Ev (fun k => laws_szRepairS.f k xs a) r := by
  unfold laws_szRepairS.f
  by_cases c : wrap64 (a - (xs.length : Int)) < 0
  · exact ⟨-1, by simp only [if_pos c]; exact Ev.now _⟩
  · simp only [if_neg c]
    refine tot_ev (fun k s i => laws_szRepairS.l0 k xs s i) xs.length (fun i s hi => ?_) (fun s => ⟨s, 0, fun k _ => ?_⟩) xs.length 0 _ (by omega)
    · obtain ⟨t, ht⟩ : ∃ t, laws_szRepair.f ((rd_T152 xs i).f0) ((rd_T152 xs i).f1) ((rd_T152 xs i).f2) ((rd_T152 xs i).f3) s = some t := by
        unfold laws_szRepair.f
        repeat' split
        all_goals exact ⟨_, rfl⟩
      by_cases c2 : t < 0
      · refine .inl ⟨-1, 0, fun k _ => ?_⟩
        simp only [laws_szRepairS.l0]
        rw [if_pos (by omega), if_pos (by omega), ht]
        simp only [Option.bind_some]
        rw [if_pos c2]
      · refine .inr ⟨t, 0, fun k _ => ?_⟩
        simp only [laws_szRepairS.l0]
        rw [if_pos (by omega), if_pos (by omega), ht]
        simp only [Option.bind_some]
        rw [if_neg c2, w64s (by omega)]
    · simp only [laws_szRepairS.l0]
      rw [if_neg (by omega)]

/-! valid lists of Repair -/
def oneRepair (x : S153) : Bool := nameB x.f0 && ((decide (1 ≤ x.f1) && decide (x.f1 ≤ 100)) && ((decide (0 ≤ x.f2) && decide (x.f2 ≤ 100000)) && (decide (0 ≤ x.f3) && decide (x.f3 ≤ 1000))))
def adjRepair (p x : S153) : Bool := Op.bytesLess (p.f0.toList) (x.f0.toList)
def okRepair (xs : List S153) (i : Nat) : Bool := if h : i < xs.length then oneRepair xs[i] && (decide (i = 0) || adjRepair xs[i - 1] xs[i]) else false
def validRepair (xs : List S153) : Bool := allB (okRepair xs) xs.length && decide ((xs.length : Int) ≤ 8)
def smRepair (x : S153) : Prop := x.f0.size < 9223372036854775807
def smallRepair (xs : List S153) : Prop := xs.length < 9223372036854775807 ∧ ∀ x ∈ xs, smRepair x
theorem specOneRepair_ev (x : S153) (h : smRepair x) : Ev (fun k => spec_l20One.f k [x]) (oneRepair x) := by
  refine Ev.then_ (specName_ev x.f0 h) fun k e => ?_
  unfold spec_l20One.f oneRepair
  rw [if_pos (by simp)]
  simp only [rd1_Repair, e, Option.bind_some, l00In_eq,  ifs, ifn]
theorem implOneRepair_ev (x : S153) (h : smRepair x) : Ev (fun k => impl_Repair_valid.f k x.f0 x.f1 x.f2 x.f3) (oneRepair x) := by
  refine Ev.then_ (implName_ev x.f0 h) fun k e => ?_
  unfold impl_Repair_valid.f oneRepair
  simp only [e, Option.bind_some, within_eq,  ifs, ifn]
theorem specRepairS_ev (xs : List S153) (h : smallRepair xs) : Ev (fun k => spec_l20Ok.f k xs) (validRepair xs) := by
  obtain ⟨hl, hx⟩ := h
  unfold spec_l20Ok.f validRepair
  refine all_ev (fun k i => spec_l20Ok.l0 k xs i) xs.length _ (okRepair xs) (fun i hi => ?_) ⟨0, fun k _ => ?_⟩
  · refine Ev.with_ (specOneRepair_ev xs[i] (hx _ (List.getElem_mem hi))) fun k e => ?_
    simp only [spec_l20Ok.l0]
    rw [if_pos (by omega), if_pos (by omega), rdi_Repair xs i hi, e, Option.bind_some, w64s (by omega)]
    by_cases c1 : oneRepair xs[i] = true
    · rw [if_pos c1]
      by_cases c2 : i = 0
      · rw [if_neg (by omega), if_pos (by unfold okRepair; rw [dif_pos hi, c1, decide_eq_true c2]; rfl)]
      · have e1 : wrap64 ((i : Int) - 1) = ((i - 1 : Nat) : Int) := by rw [w64] <;> omega
        rw [if_pos (by omega), e1, if_pos (by omega), if_pos (by omega), rdi_Repair xs (i - 1) (by omega)]
        rw [show okRepair xs i = adjRepair xs[i - 1] xs[i] from by unfold okRepair; rw [dif_pos hi, c1, decide_eq_false c2, Bool.true_and, Bool.false_or]]
        unfold adjRepair
        rfl
    · rw [if_neg c1, if_neg (by unfold okRepair; simp only [Bool.not_eq_true] at c1; rw [dif_pos hi, c1]; simp)]
  · simp only [spec_l20Ok.l0]
    rw [if_neg (by omega)]
theorem implRepairS_ev (xs : List S153) (h : smallRepair xs) : Ev (fun k => impl_ValidRepairs.f k xs) (validRepair xs) := by
  obtain ⟨hl, hx⟩ := h
  unfold impl_ValidRepairs.f validRepair
  by_cases c : (xs.length : Int) > 8
  · simp only [if_pos c]
    rw [decide_eq_false (show ¬ (xs.length : Int) ≤ 8 by omega), Bool.and_false]; exact Ev.now _
  simp only [if_neg c]
  rw [decide_eq_true (show (xs.length : Int) ≤ 8 by omega)]
  refine all_ev (fun k i => impl_ValidRepairs.l0 k xs xs (xs.length : Int) i) xs.length true (okRepair xs) (fun i hi => ?_) ⟨0, fun k _ => ?_⟩
  · refine Ev.with_ (implOneRepair_ev xs[i] (hx _ (List.getElem_mem hi))) fun k e => ?_
    simp only [impl_ValidRepairs.l0]
    rw [if_pos (by omega), if_pos (by omega), if_pos (by omega), rdi_Repair xs i hi, e, Option.bind_some, w64s (by omega)]
    by_cases c1 : oneRepair xs[i] = true
    · rw [if_pos c1]
      by_cases c2 : i = 0
      · rw [if_neg (by omega), if_pos (by unfold okRepair; rw [dif_pos hi, c1, decide_eq_true c2]; rfl)]
      · have e1 : wrap64 ((i : Int) - 1) = ((i - 1 : Nat) : Int) := by rw [w64] <;> omega
        rw [if_pos (by omega), e1, if_pos (by omega), if_pos (by omega), rdi_Repair xs (i - 1) (by omega)]
        rw [show okRepair xs i = adjRepair xs[i - 1] xs[i] from by unfold okRepair; rw [dif_pos hi, c1, decide_eq_false c2, Bool.true_and, Bool.false_or]]
        unfold adjRepair
        rfl
    · rw [if_neg c1, if_neg (by unfold okRepair; simp only [Bool.not_eq_true] at c1; rw [dif_pos hi, c1]; simp)]
  · simp only [impl_ValidRepairs.l0]
    rw [if_neg (by omega)]
theorem validRepair_len {xs : List S153} (h : validRepair xs = true) : (xs.length : Int) ≤ 8 := by
  unfold validRepair at h
  simp only [Bool.and_eq_true, decide_eq_true_eq] at h
  exact h.2
theorem validRepair_at {xs : List S153} (h : validRepair xs = true) (i : Nat) (hi : i < xs.length) : oneRepair xs[i] = true ∧ (0 < i → adjRepair xs[i - 1] xs[i] = true) := by
  unfold validRepair at h
  simp only [Bool.and_eq_true] at h
  have := allB_true.1 h.1 i hi
  unfold okRepair at this
  rw [dif_pos hi] at this
  simp only [Bool.and_eq_true, Bool.or_eq_true, decide_eq_true_eq] at this
  exact ⟨this.1, fun h0 => by rcases this.2 with h1 | h1; omega; exact h1⟩

end Go.Proofs.Ytiioinedejdfcaa.PFnExactValidRepairs
namespace Go.Proofs.Ytiioinedejdfcaa.Pure
open Go.RowKit Go.Proofs.YtiioinedejdfcaaW.PrintWords Go.Proofs.YtiioinedejdfcaaW.PLib Go.Proofs.Ytiioinedejdfcaa.PFnExactValidRepairs

theorem FnExactValidRepairs : PFnExactValidRepairs.Pure := by
  intro xs hx
  obtain ⟨_, hl, hw⟩ := hx
  have hs : smallRepair (xs.map cvRepair) := ⟨by simp; omega, fun x hx => by
    obtain ⟨y, hy, rfl⟩ := List.mem_map.1 hx
    have h1 : y.f0.size ≤ 140737488351232 := (hw y hy).1
    show y.f0.size < _
    omega⟩
  obtain ⟨r, hr⟩ := szRepair_ev xs 1048576 (by omega)
  refine Ev.get ?_
  unfold laws_FnExactValidRepairs.f
  refine Ev.bind hr ?_
  by_cases c : r < 0
  · simp only [if_pos c]; exact Ev.now _
  simp only [if_neg c]
  refine Ev.bind (toRepair_ev xs hl) (Ev.bind (Ev.bind (specRepairS_ev _ hs) (Ev.now _)) (Ev.bind (toRepair_ev xs hl) (Ev.bind (implRepairS_ev _ hs) ?_)))
  simp only [bne_self_eq_false, Bool.false_eq_true, if_false]
  refine Ev.bind (toRepair_ev xs hl) (Ev.bind (eqRepair_ev _ hs.1) ?_)
  simp only [if_true]; exact Ev.now _
end Go.Proofs.Ytiioinedejdfcaa.Pure
