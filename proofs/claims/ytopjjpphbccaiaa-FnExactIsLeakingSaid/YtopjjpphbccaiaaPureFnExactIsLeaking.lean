/- The law FnExactIsLeaking, in numbers and lists alone: the program's IsLeaking and the reference's give one answer, and the meters stay as they were. No condition. -/
import Derived.Test.YtopjjpphbccaiaaQFnExactIsLeaking
import Derived.Test.YtopjjpphbccaiaaPLib
set_option linter.unusedVariables false
set_option linter.unusedSimpArgs false
namespace Go.Proofs.Ytopjjpphbccaiaa.PFnExactIsLeaking
open Go.RowKit Go.Proofs.YtopjjpphbccaiaaW.PrintWords Go.Proofs.YtopjjpphbccaiaaW.PLib

theorem l00In_eq (a b c : Int) : spec_l00In.f a b c = some (decide (b ≤ a) && decide (a ≤ c)) := by
  unfold spec_l00In.f; by_cases h : a ≥ b
  · rw [if_pos h]; simp [show b ≤ a from h]
  · rw [if_neg h]; simp [show ¬ b ≤ a from h]

theorem within_eq (a b c : Int) : impl_within.f a b c = some (decide (b ≤ a) && decide (a ≤ c)) := by
  unfold impl_within.f; by_cases h : a ≥ b
  · rw [if_pos h]; simp [show b ≤ a from h]
  · rw [if_neg h]; simp [show ¬ b ≤ a from h]

/-! names -/
def smallB (c : Int) : Bool := decide (97 ≤ c) && decide (c ≤ 122)
def digitB (c : Int) : Bool := decide (48 ≤ c) && decide (c ≤ 57)
def nameB (s : ByteArray) : Bool := (decide (1 ≤ s.size) && decide (s.size ≤ 10)) && (smallB (bt s 0) && allB (fun i => smallB (bt s i) || digitB (bt s i)) s.size)
theorem small_eq (c : Int) : spec_l01Small.f c = some (smallB c) := by
  unfold spec_l01Small.f smallB; by_cases h : c ≥ 97
  · rw [if_pos h]; simp [show 97 ≤ c from h]
  · rw [if_neg h]; simp [show ¬ 97 ≤ c from h]
theorem digit_eq (c : Int) : spec_l01Digit.f c = some (digitB c) := by
  unfold spec_l01Digit.f digitB; by_cases h : c ≥ 48
  · rw [if_pos h]; simp [show 48 ≤ c from h]
  · rw [if_neg h]; simp [show ¬ 48 ≤ c from h]
theorem specName_loop (s : ByteArray) (hs : s.size < 9223372036854775807) : Ev (fun k => spec_l01Name.l0 k s 0) (allB (fun i => smallB (bt s i) || digitB (bt s i)) s.size && true) := by
  refine all_ev (fun k i => spec_l01Name.l0 k s i) s.size true _ (fun i hi => ⟨0, fun k _ => ?_⟩) ⟨0, fun k _ => ?_⟩
  · simp only [spec_l01Name.l0]
    rw [if_pos (by omega), if_pos (by omega)]
    simp only [small_eq, digit_eq, Option.bind_some, w64s (show i < 9223372036854775807 by omega)]
    by_cases c1 : smallB (bt s i) = true
    · simp [c1]
    · simp only [Bool.not_eq_true] at c1
      by_cases c2 : digitB (bt s i) = true
      · simp [c1, c2]
      · simp only [Bool.not_eq_true] at c2; simp [c1, c2]
  · simp only [spec_l01Name.l0]
    rw [if_neg (by omega)]
theorem specName_ev (s : ByteArray) (hs : s.size < 9223372036854775807) : Ev (fun k => spec_l01Name.f k s) (nameB s) := by
  obtain ⟨K, hK⟩ := specName_loop s hs
  refine ⟨K + 1, fun k hk => ?_⟩
  obtain ⟨k, rfl⟩ : ∃ m, k = m + 1 := ⟨k - 1, by omega⟩
  unfold spec_l01Name.f nameB
  simp only [spec_l01Name.j0, hK k (by omega), small_eq, Option.bind_some]
  by_cases c1 : s.toList = ([] : List UInt8)
  · rw [if_pos c1]
    have : s.size = 0 := by
      have := congrArg List.length c1
      simpa [ByteArray.toList_eq] using this
    simp [this]
  · rw [if_neg c1]
    have h0 : 1 ≤ s.size := by
      rcases Nat.eq_zero_or_pos s.size with h | h
      · exact absurd (by
          have : s.data.toList = [] := List.eq_nil_of_length_eq_zero (by rw [Array.length_toList]; exact h)
          simpa [ByteArray.toList_eq] using this) c1
      · exact h
    by_cases c2 : (s.size : Int) > 10
    · rw [if_pos c2, decide_eq_false (show ¬ s.size ≤ 10 by omega)]; simp
    · rw [if_neg c2, if_pos (by omega), decide_eq_true (show s.size ≤ 10 by omega), decide_eq_true h0]
      by_cases c3 : smallB (bt s 0) = true
      · simp [c3]
      · simp only [Bool.not_eq_true] at c3; simp [c3]
theorem implName_loop (s : ByteArray) (hs : s.size < 9223372036854775807) : Ev (fun k => impl_onlyNameBytes.f k s) (allB (fun i => smallB (bt s i) || digitB (bt s i)) s.size && true) := by
  unfold impl_onlyNameBytes.f
  refine all_ev (fun k i => impl_onlyNameBytes.l0 k s (s.size : Int) i) s.size true _ (fun i hi => ⟨0, fun k _ => ?_⟩) ⟨0, fun k _ => ?_⟩
  · simp only [impl_onlyNameBytes.l0]
    rw [if_pos (by omega), if_pos (by omega), if_pos (by omega)]
    simp only [w64s (show i < 9223372036854775807 by omega), smallB, digitB]
    by_cases a : bt s i < 97 <;> by_cases b : bt s i < 48 <;> by_cases c : bt s i > 57 <;> by_cases d : bt s i > 122 <;> simp [a, b, c, d] <;> omega
  · simp only [impl_onlyNameBytes.l0]
    rw [if_neg (by omega)]
theorem implName_ev (s : ByteArray) (hs : s.size < 9223372036854775807) : Ev (fun k => impl_IsName.f k s) (nameB s) := by
  obtain ⟨K, hK⟩ := implName_loop s hs
  refine ⟨K, fun k hk => ?_⟩
  unfold impl_IsName.f nameB
  simp only [hK k hk, Option.bind_some]
  by_cases c1 : (s.size : Int) < 1
  · rw [if_pos c1, decide_eq_false (show ¬ 1 ≤ s.size by omega)]; simp
  · rw [if_neg c1, decide_eq_true (show 1 ≤ s.size by omega)]
    by_cases c2 : (s.size : Int) > 10
    · rw [if_pos c2, decide_eq_false (show ¬ s.size ≤ 10 by omega)]; simp
    · rw [if_neg c2, if_pos (by omega), decide_eq_true (show s.size ≤ 10 by omega)]
      unfold smallB
      by_cases a : bt s 0 < 97
      · rw [if_pos a, decide_eq_false (show ¬ 97 ≤ bt s 0 by omega)]; simp
      · rw [if_neg a, decide_eq_true (show 97 ≤ bt s 0 by omega)]
        by_cases b : bt s 0 > 122
        · rw [if_pos b, decide_eq_false (show ¬ bt s 0 ≤ 122 by omega)]; simp
        · rw [if_neg b, decide_eq_true (show bt s 0 ≤ 122 by omega)]; simp

/-! Meter -/
theorem rdl_Meter (xs : List S34) (i : Nat) (h : i < xs.length) : rd_T34 xs (i : Int) = xs[i] := by unfold rd_T34; exact getD_cast xs i h _
theorem rdi_Meter (xs : List S35) (i : Nat) (h : i < xs.length) : rd_T35 xs (i : Int) = xs[i] := by unfold rd_T35; exact getD_cast xs i h _
theorem rd1_Meter (x : S35) : rd_T35 [x] 0 = x := rfl
def cvMeter (x : S34) : S35 := ⟨x.f0, x.f1, x.f2⟩
theorem toMeter_ev (xs : List S34) (hl : xs.length * 32 ≤ 140737488351232) : Ev (fun k => laws_toMeterS.f k xs) (xs.map cvMeter) := by
  refine ⟨xs.length + 1, fun k hk => ?_⟩
  simp only [laws_toMeterS.f]
  rw [if_pos (by omega), if_pos (by omega)]
  refine to_loop (fun k ys i => laws_toMeterS.l0 k xs ys i) xs cvMeter (fun k ys i h hy => ?_) (fun k ys hy => ?_) _ (by simp) k (by omega)
  · simp only [laws_toMeterS.l0]
    rw [if_pos (by omega), if_pos (by omega)]
    simp only [laws_toMeter.f, Option.bind_some, rdl_Meter xs i h]
    rw [if_pos (by omega), w64s (by omega)]
    rfl
  · simp only [laws_toMeterS.l0]
    rw [if_neg (by omega)]
theorem eqMeter_ev (xs : List S35) (hl : xs.length < 9223372036854775807) : Ev (fun k => laws_eqMeterS.f k xs xs) true := by
  unfold laws_eqMeterS.f
  simp only [if_true]
  have := all_ev (fun k i => laws_eqMeterS.l0 k xs xs i) xs.length true (fun _ => true) (fun i hi => ⟨0, fun k _ => ?_⟩) ⟨0, fun k _ => ?_⟩
  · rw [allB_const] at this; exact this
  · simp only [laws_eqMeterS.l0]
    rw [if_pos (by omega), if_pos (by omega), if_pos (by omega)]
    simp only [laws_eqMeter.f, if_true, bne_self_eq_false, Bool.false_eq_true, if_false, Option.bind_some, w64s (show i < 9223372036854775807 by omega)]
  · simp only [laws_eqMeterS.l0]
    rw [if_neg (by omega)]
theorem szMeter_ev (xs : List S34) (a : Int) (hl : xs.length < 9223372036854775807) : ∃ r, Ev (fun k => laws_szMeterS.f k xs a) r := by
  unfold laws_szMeterS.f
  by_cases c : wrap64 (a - (xs.length : Int)) < 0
  · exact ⟨-1, by simp only [if_pos c]; exact Ev.now _⟩
  · simp only [if_neg c]
    refine tot_ev (fun k s i => laws_szMeterS.l0 k xs s i) xs.length (fun i s hi => ?_) (fun s => ⟨s, 0, fun k _ => ?_⟩) xs.length 0 _ (by omega)
    · obtain ⟨t, ht⟩ : ∃ t, laws_szMeter.f ((rd_T34 xs i).f0) ((rd_T34 xs i).f1) ((rd_T34 xs i).f2) s = some t := by
        unfold laws_szMeter.f
        repeat' split
        all_goals exact ⟨_, rfl⟩
      by_cases c2 : t < 0
      · refine .inl ⟨-1, 0, fun k _ => ?_⟩
        simp only [laws_szMeterS.l0]
        rw [if_pos (by omega), if_pos (by omega), ht]
        simp only [Option.bind_some]
        rw [if_pos c2]
      · refine .inr ⟨t, 0, fun k _ => ?_⟩
        simp only [laws_szMeterS.l0]
        rw [if_pos (by omega), if_pos (by omega), ht]
        simp only [Option.bind_some]
        rw [if_neg c2, w64s (by omega)]
    · simp only [laws_szMeterS.l0]
      rw [if_neg (by omega)]

/-! valid meters -/
abbrev ME := S35
theorem rd1_M (x : ME) : rd_T35 [x] 0 = x := rfl
def inR (a lo hi : Int) : Bool := decide (lo ≤ a) && decide (a ≤ hi)
theorem l00In_r (a b c : Int) : spec_l00In.f a b c = some (inR a b c) := l00In_eq a b c
theorem within_r (a b c : Int) : impl_within.f a b c = some (inR a b c) := within_eq a b c
def oneM (x : ME) : Bool := nameB x.f0 && (inR x.f1 0 100000 && inR x.f2 0 10000)
theorem specOneM_ev (x : ME) (h : x.f0.size < 9223372036854775807) : Ev (fun k => spec_l17One.f k [x]) (oneM x) := by
  unfold spec_l17One.f oneM
  simp only [if_pos (show 0 < (([x] : List ME).length : Int) by simp), rd1_M]
  refine Ev.bind (specName_ev x.f0 h) ?_
  simp only [l00In_r, Option.bind_some]
  cases nameB x.f0 <;> cases inR x.f1 0 100000 <;> exact Ev.now _
theorem implOneM_ev (x : ME) (h : x.f0.size < 9223372036854775807) : Ev (fun k => impl_Meter_valid.f k x.f0 x.f1 x.f2) (oneM x) := by
  unfold impl_Meter_valid.f oneM
  refine Ev.bind (implName_ev x.f0 h) ?_
  simp only [within_r, Option.bind_some]
  cases nameB x.f0 <;> cases inR x.f1 0 100000 <;> exact Ev.now _
def okM' (xs : List ME) (i : Nat) : Bool := oneM (rd_T35 xs (i : Int)) && !(seenM xs i (rd_T35 xs (i : Int)).f0.data.toList)
def validM (xs : List ME) : Bool := allB (okM' xs) xs.length && decide ((xs.length : Int) ≤ 16)
def smallM (xs : List ME) : Prop := xs.length < 9223372036854775807 ∧ ∀ x ∈ xs, x.f0.size < 9223372036854775807
theorem smallM_rd {xs : List ME} (h : smallM xs) (i : Nat) (hi : i < xs.length) : (rd_T35 xs (i : Int)).f0.size < 9223372036854775807 := by
  rw [rdi_Meter xs i hi]; exact h.2 _ (List.getElem_mem hi)
theorem seen_allB (xs : List ME) (i : Nat) (hi : i ≤ xs.length) (s : ByteArray) : allB (fun j => !decide ((rd_T35 xs (j : Int)).f0.toList = s.toList)) i = !(seenM xs i s.data.toList) := by
  unfold seenM
  rw [Bool.eq_iff_iff, allB_true, Bool.not_eq_true', Bool.eq_false_iff, Ne, List.any_eq_true]
  constructor
  · rintro h ⟨y, hy, e⟩
    obtain ⟨j, hj, rfl⟩ := List.getElem_of_mem hy
    simp only [List.length_take] at hj
    have := h j (by omega)
    rw [rdi_Meter xs j (by omega)] at this
    rw [List.getElem_take] at e
    simp only [Bool.not_eq_true', decide_eq_false_iff_not, ByteArray.toList_eq] at this
    exact this (by simpa using e)
  · intro h j hj
    rw [rdi_Meter xs j (by omega)]
    simp only [Bool.not_eq_true', decide_eq_false_iff_not, ByteArray.toList_eq]
    intro e
    exact h ⟨xs[j], List.mem_take_iff_getElem.2 ⟨j, by omega, rfl⟩, by simpa using e⟩
theorem specM_ev (xs : List ME) (hs : smallM xs) : Ev (fun k => spec_l17Ok.f k xs) (validM xs) := by
  have hl := hs.1
  unfold spec_l17Ok.f validM
  refine all_evE (fun k i => spec_l17Ok.l0 k xs i) xs.length _ (okM' xs) (fun i hi r hr => Ev.succ ?_) (Ev.succ ?_)
  · simp only [spec_l17Ok.l0, if_pos (show (i : Int) < (xs.length : Int) by omega), if_pos (show 0 ≤ (i : Int) by omega)]
    refine Ev.bind (specOneM_ev _ (smallM_rd hs i hi)) ?_
    unfold okM'
    cases oneM (rd_T35 xs (i : Int))
    · simp only [Bool.false_eq_true, if_false, Bool.false_and]; exact Ev.now _
    simp only [if_true, Bool.true_and]
    rw [← seen_allB xs i (by omega)]
    refine scan_evE (fun k j => spec_l17Ok.l1 k xs (i : Int) j) i r false (fun j => !decide ((rd_T35 xs (j : Int)).f0.toList = (rd_T35 xs (i : Int)).f0.toList)) (fun j hj q hq => Ev.succ ?_) (Ev.succ ?_)
    · simp only [spec_l17Ok.l1, if_pos (show (j : Int) < (i : Int) by omega), if_pos (show 0 ≤ (j : Int) by omega), if_pos (show (j : Int) < (xs.length : Int) by omega), if_pos (show 0 ≤ (i : Int) by omega), if_pos (show (i : Int) < (xs.length : Int) by omega), w64s (show j < 9223372036854775807 by omega)]
      by_cases c : (rd_T35 xs (j : Int)).f0.toList = (rd_T35 xs (i : Int)).f0.toList
      · simp only [if_pos c, decide_eq_true c, Bool.not_true, Bool.false_eq_true, if_false]; exact Ev.now _
      · simp only [if_neg c, decide_eq_false c, Bool.not_false, if_true]; exact hq
    · simp only [spec_l17Ok.l1, if_neg (show ¬ (i : Int) < (i : Int) by omega), w64s (show i < 9223372036854775807 by omega)]
      exact hr
  · simp only [spec_l17Ok.l0, if_neg (show ¬ (xs.length : Int) < (xs.length : Int) by omega)]; exact Ev.now _
theorem vmL_ev (xs : List ME) (hs : smallM xs) : ∀ d i, i + d = xs.length → Ev (fun k => vmL k xs i d) ((List.range' i d).all (okM' xs))
  | 0, i, _ => by simp only [vmL]; exact Ev.now _
  | d + 1, i, hi => by
    simp only [vmL]
    refine Ev.bind (implOneM_ev _ (smallM_rd hs i (by omega))) ?_
    rw [List.range'_succ, List.all_cons]
    unfold okM'
    cases oneM (rd_T35 xs (i : Int))
    · simp only [Bool.false_eq_true, if_false, Bool.false_and]; exact Ev.now _
    simp only [if_true, Bool.true_and]
    cases seenM xs i (rd_T35 xs (i : Int)).f0.data.toList
    · simp only [Bool.false_eq_true, if_false, Bool.not_false, Bool.true_and]; exact vmL_ev xs hs d (i + 1) (by omega)
    · simp only [if_true, Bool.not_true, Bool.false_and]; exact Ev.now _
theorem implM_ev (xs : List ME) (hs : smallM xs) : Ev (fun k => impl_ValidMeters.f k xs) (validM xs) := by
  unfold impl_ValidMeters.f validM
  by_cases c : (xs.length : Int) > 16
  · simp only [if_pos c]; rw [decide_eq_false (show ¬ (xs.length : Int) ≤ 16 by omega), Bool.and_false]; exact Ev.now _
  · simp only [if_neg c]; rw [decide_eq_true (show (xs.length : Int) ≤ 16 by omega), Bool.and_true]
    have h := vmL_ev xs hs xs.length 0 (by omega)
    rw [← List.range_eq_range'] at h
    exact h
theorem smallM_cv (xs : List S34) (hl : xs.length < 9223372036854775807) (hx : ∀ x ∈ xs, x.f0.size < 9223372036854775807) : smallM (xs.map cvMeter) := by
  refine ⟨by simpa using hl, fun y hy => ?_⟩
  obtain ⟨x, h, rfl⟩ := List.mem_map.1 hy
  exact hx x h

/-! the bounds of a leak -/
theorem validM_at {xs : List ME} (h : validM xs = true) (i : Nat) (hi : i < xs.length) : 0 ≤ (rd_T35 xs (i : Int)).f1 ∧ (rd_T35 xs (i : Int)).f1 ≤ 100000 ∧ 0 ≤ (rd_T35 xs (i : Int)).f2 ∧ (rd_T35 xs (i : Int)).f2 ≤ 10000 := by
  unfold validM at h
  simp only [Bool.and_eq_true] at h
  have := allB_true.1 h.1 i hi
  unfold okM' oneM inR at this
  simp only [Bool.and_eq_true, decide_eq_true_eq] at this
  obtain ⟨⟨_, ⟨h1, h2⟩, h3, h4⟩, _⟩ := this
  exact ⟨h1, h2, h3, h4⟩
theorem validM_len {xs : List ME} (h : validM xs = true) : xs.length ≤ 16 := by
  unfold validM at h
  simp only [Bool.and_eq_true, decide_eq_true_eq] at h
  omega
def mxz (a : Int) : Int := if a < 0 then 0 else a
theorem max0_eq (a : Int) : spec_l00Max.f 0 a = some (mxz a) := by
  unfold spec_l00Max.f mxz
  by_cases c : a < 0
  · rw [if_pos (show 0 > a from c), if_pos c]
  · rw [if_neg (show ¬ 0 > a from c), if_neg c]
theorem mx0_eq (a : Int) : mx a 0 = mxz a := rfl
def leastS (xs : List ME) : Nat → Int
  | 0 => 0
  | i + 1 => leastS xs i + mxz ((rd_T35 xs (i : Int)).f1 - (rd_T35 xs (i : Int)).f2)
def mostS (xs : List ME) : Nat → Int
  | 0 => 0
  | i + 1 => mostS xs i + ((rd_T35 xs (i : Int)).f1 + (rd_T35 xs (i : Int)).f2)
theorem mxz_b (a : Int) : 0 ≤ mxz a ∧ (0 ≤ a → mxz a = a) ∧ (a < 0 → mxz a = 0) := by unfold mxz; split <;> omega
theorem leastS_b {xs : List ME} (h : validM xs = true) : ∀ i, i ≤ xs.length → 0 ≤ leastS xs i ∧ leastS xs i ≤ 100000 * (i : Int)
  | 0, _ => by simp [leastS]
  | i + 1, hi => by
    have h1 := leastS_b h i (by omega)
    have h2 := validM_at h i (by omega)
    have h3 := mxz_b ((rd_T35 xs (i : Int)).f1 - (rd_T35 xs (i : Int)).f2)
    unfold leastS
    omega
theorem mostS_b {xs : List ME} (h : validM xs = true) : ∀ i, i ≤ xs.length → 0 ≤ mostS xs i ∧ mostS xs i ≤ 110000 * (i : Int)
  | 0, _ => by simp [mostS]
  | i + 1, hi => by
    have h1 := mostS_b h i (by omega)
    have h2 := validM_at h i (by omega)
    unfold mostS
    omega
theorem sums_ev (xs : List ME) (h : validM xs = true) : Ev (fun k => impl_sumsOf.f k xs) (leastS xs xs.length, mostS xs xs.length) := by
  have hn := validM_len h
  unfold impl_sumsOf.f
  refine fold_from (fun k (s : Int × Int) i => impl_sumsOf.l0 k s.1 s.2 xs (xs.length : Int) i) 0 xs.length (fun i => (leastS xs i, mostS xs i)) _ (Nat.zero_le _) (fun i _ hi r hr => Ev.succ ?_) (Ev.succ ?_)
  · have h1 := leastS_b h i (by omega)
    have h2 := mostS_b h i (by omega)
    have h3 := validM_at h i hi
    have h4 := mxz_b ((rd_T35 xs (i : Int)).f1 - (rd_T35 xs (i : Int)).f2)
    have hr : Ev (fun k => impl_sumsOf.l0 k (leastS xs i + mxz ((rd_T35 xs (i : Int)).f1 - (rd_T35 xs (i : Int)).f2)) (mostS xs i + ((rd_T35 xs (i : Int)).f1 + (rd_T35 xs (i : Int)).f2)) xs (xs.length : Int) ((i + 1 : Nat) : Int)) r := hr
    simp only [impl_sumsOf.l0, if_pos (show (i : Int) < (xs.length : Int) by omega), if_pos (show 0 ≤ (i : Int) by omega), mx0_eq, w64s (show i < 9223372036854775807 by omega), w64 (x := (rd_T35 xs (i : Int)).f1 - (rd_T35 xs (i : Int)).f2) (by omega) (by omega), w64 (x := (rd_T35 xs (i : Int)).f1 + (rd_T35 xs (i : Int)).f2) (by omega) (by omega),
      w64 (x := leastS xs i + mxz ((rd_T35 xs (i : Int)).f1 - (rd_T35 xs (i : Int)).f2)) (by omega) (by omega), w64 (x := mostS xs i + ((rd_T35 xs (i : Int)).f1 + (rd_T35 xs (i : Int)).f2)) (by omega) (by omega)]
    exact hr
  · simp only [impl_sumsOf.l0, if_neg (show ¬ (xs.length : Int) < (xs.length : Int) by omega)]; exact Ev.now _
def bnd (xs ys : List ME) : Int × Int := (mxz (leastS xs xs.length - mostS ys ys.length), mostS xs xs.length - leastS ys ys.length)
theorem implB_ev (xs ys : List ME) (hx : validM xs = true) (hy : validM ys = true) : Ev (fun k => impl_leakBounds.f k xs ys) (bnd xs ys) := by
  have n1 := validM_len hx
  have n2 := validM_len hy
  have b1 := leastS_b hx xs.length (Nat.le_refl _)
  have b2 := mostS_b hx xs.length (Nat.le_refl _)
  have b3 := leastS_b hy ys.length (Nat.le_refl _)
  have b4 := mostS_b hy ys.length (Nat.le_refl _)
  unfold impl_leakBounds.f bnd
  refine Ev.bind (sums_ev xs hx) (Ev.bind (sums_ev ys hy) ?_)
  simp only [mx0_eq, w64 (x := leastS xs xs.length - mostS ys ys.length) (by omega) (by omega), w64 (x := mostS xs xs.length - leastS ys ys.length) (by omega) (by omega)]
  exact Ev.now _
theorem specB_ev (xs ys : List ME) (hx : validM xs = true) (hy : validM ys = true) : Ev (fun k => spec_l17Bounds.f k xs ys) (bnd xs ys) := by
  have n1 := validM_len hx
  have n2 := validM_len hy
  have b1 := leastS_b hx xs.length (Nat.le_refl _)
  have b2 := mostS_b hx xs.length (Nat.le_refl _)
  unfold spec_l17Bounds.f
  refine fold_from (fun k (s : Int × Int) i => spec_l17Bounds.l0 k xs ys s.1 s.2 i) 0 xs.length (fun i => (leastS xs i, mostS xs i)) _ (Nat.zero_le _) (fun i _ hi r hr => Ev.succ ?_) (Ev.succ ?_)
  · have h1 := leastS_b hx i (by omega)
    have h2 := mostS_b hx i (by omega)
    have h3 := validM_at hx i hi
    have h4 := mxz_b ((rd_T35 xs (i : Int)).f1 - (rd_T35 xs (i : Int)).f2)
    have hr : Ev (fun k => spec_l17Bounds.l0 k xs ys (leastS xs i + mxz ((rd_T35 xs (i : Int)).f1 - (rd_T35 xs (i : Int)).f2)) (mostS xs i + ((rd_T35 xs (i : Int)).f1 + (rd_T35 xs (i : Int)).f2)) ((i + 1 : Nat) : Int)) r := hr
    simp only [spec_l17Bounds.l0, if_pos (show (i : Int) < (xs.length : Int) by omega), if_pos (show 0 ≤ (i : Int) by omega), max0_eq, Option.bind_some, w64s (show i < 9223372036854775807 by omega), w64 (x := (rd_T35 xs (i : Int)).f1 - (rd_T35 xs (i : Int)).f2) (by omega) (by omega), w64 (x := (rd_T35 xs (i : Int)).f1 + (rd_T35 xs (i : Int)).f2) (by omega) (by omega),
      w64 (x := leastS xs i + mxz ((rd_T35 xs (i : Int)).f1 - (rd_T35 xs (i : Int)).f2)) (by omega) (by omega), w64 (x := mostS xs i + ((rd_T35 xs (i : Int)).f1 + (rd_T35 xs (i : Int)).f2)) (by omega) (by omega)]
    exact hr
  · simp only [spec_l17Bounds.l0, if_neg (show ¬ (xs.length : Int) < (xs.length : Int) by omega)]
    have h := fold_from (fun k (s : Int × Int) i => spec_l17Bounds.l1 k ys s.1 s.2 i) 0 ys.length (fun i => (leastS xs xs.length - mostS ys i, mostS xs xs.length - leastS ys i)) (bnd xs ys) (Nat.zero_le _) (fun i _ hi r hr => Ev.succ ?_) (Ev.succ ?_)
    · have e1 : leastS xs xs.length - mostS ys 0 = leastS xs xs.length := by simp [mostS]
      have e2 : mostS xs xs.length - leastS ys 0 = mostS xs xs.length := by simp [leastS]
      simp only [e1, e2] at h
      exact h
    · have h1 := leastS_b hy i (by omega)
      have h2 := mostS_b hy i (by omega)
      have h3 := validM_at hy i hi
      have h4 := mxz_b ((rd_T35 ys (i : Int)).f1 - (rd_T35 ys (i : Int)).f2)
      have hr : Ev (fun k => spec_l17Bounds.l1 k ys (leastS xs xs.length - (mostS ys i + ((rd_T35 ys (i : Int)).f1 + (rd_T35 ys (i : Int)).f2))) (mostS xs xs.length - (leastS ys i + mxz ((rd_T35 ys (i : Int)).f1 - (rd_T35 ys (i : Int)).f2))) ((i + 1 : Nat) : Int)) r := hr
      simp only [spec_l17Bounds.l1, if_pos (show (i : Int) < (ys.length : Int) by omega), if_pos (show 0 ≤ (i : Int) by omega), max0_eq, Option.bind_some, w64s (show i < 9223372036854775807 by omega), w64 (x := (rd_T35 ys (i : Int)).f1 - (rd_T35 ys (i : Int)).f2) (by omega) (by omega), w64 (x := (rd_T35 ys (i : Int)).f1 + (rd_T35 ys (i : Int)).f2) (by omega) (by omega),
        w64 (x := leastS xs xs.length - mostS ys i - ((rd_T35 ys (i : Int)).f1 + (rd_T35 ys (i : Int)).f2)) (by omega) (by omega), w64 (x := mostS xs xs.length - leastS ys i - mxz ((rd_T35 ys (i : Int)).f1 - (rd_T35 ys (i : Int)).f2)) (by omega) (by omega)]
      rw [show leastS xs xs.length - mostS ys i - ((rd_T35 ys (i : Int)).f1 + (rd_T35 ys (i : Int)).f2) = leastS xs xs.length - (mostS ys i + ((rd_T35 ys (i : Int)).f1 + (rd_T35 ys (i : Int)).f2)) by omega, show mostS xs xs.length - leastS ys i - mxz ((rd_T35 ys (i : Int)).f1 - (rd_T35 ys (i : Int)).f2) = mostS xs xs.length - (leastS ys i + mxz ((rd_T35 ys (i : Int)).f1 - (rd_T35 ys (i : Int)).f2)) by omega]
      exact hr
    · simp only [spec_l17Bounds.l1, if_neg (show ¬ (ys.length : Int) < (ys.length : Int) by omega), max0_eq, Option.bind_some]; exact Ev.now _
def resL (xs ys : List ME) : Int × Int × Int := if validM xs = true then (if validM ys = true then (if (bnd xs ys).2 < (bnd xs ys).1 then (0, 0, 6) else ((bnd xs ys).1, (bnd xs ys).2, 0)) else (0, 0, 1)) else (0, 0, 1)
theorem implL_ev (xs ys : List ME) (hx : smallM xs) (hy : smallM ys) : Ev (fun k => impl_LeakBounds.f k xs ys) (resL xs ys) := by
  have jT : Ev (fun k => impl_LeakBounds.j0 k xs ys true) (0, 0, 1) := Ev.succ (by simp only [impl_LeakBounds.j0, if_true]; exact Ev.now _)
  unfold impl_LeakBounds.f resL
  refine Ev.bind (implM_ev xs hx) ?_
  by_cases c : validM xs = true
  · simp only [if_pos c]
    refine Ev.bind (implM_ev ys hy) ?_
    by_cases c2 : validM ys = true
    · rw [if_pos c2]
      simp only [c2, Bool.not_true]
      refine Ev.succ ?_
      simp only [impl_LeakBounds.j0, Bool.false_eq_true, if_false]
      refine Ev.bind (implB_ev xs ys c c2) ?_
      by_cases c3 : (bnd xs ys).2 < (bnd xs ys).1
      · simp only [if_pos c3]; exact Ev.now _
      · simp only [if_neg c3]; exact Ev.now _
    · rw [if_neg c2]
      simp only [Bool.not_eq_true] at c2
      simp only [c2, Bool.not_false]; exact jT
  · simp only [if_neg c]; exact jT
theorem tailM (xs : List S34) (hl : xs.length * 32 ≤ 140737488351232) (hw : ∀ x ∈ xs, x.f0.size ≤ 140737488351232) : smallM (xs.map cvMeter) := smallM_cv xs (by omega) (fun x hx => by have := hw x hx; omega)

end Go.Proofs.Ytopjjpphbccaiaa.PFnExactIsLeaking
namespace Go.Proofs.Ytopjjpphbccaiaa.Pure
open Go.RowKit Go.Proofs.YtopjjpphbccaiaaW.PrintWords Go.Proofs.YtopjjpphbccaiaaW.PLib Go.Proofs.Ytopjjpphbccaiaa.PFnExactIsLeaking

def resK (xs ys : List ME) : Bool := if (resL xs ys).2.2 = 0 then decide ((resL xs ys).1 > 0) else false
theorem impl_ev (xs ys : List ME) (hx : smallM xs) (hy : smallM ys) : Ev (fun k => impl_IsLeaking.f k xs ys) (resK xs ys) := by
  unfold impl_IsLeaking.f resK
  refine Ev.bind (implL_ev xs ys hx hy) ?_
  by_cases c : (resL xs ys).2.2 = 0
  · simp only [if_pos c]; exact Ev.now _
  · simp only [if_neg c]; exact Ev.now _
theorem spec_ev (xs ys : List ME) (hx : smallM xs) (hy : smallM ys) : Ev (fun k => spec_IsLeaking.f k xs ys) (resK xs ys) := by
  unfold spec_IsLeaking.f resK resL
  refine Ev.bind (specM_ev xs hx) ?_
  by_cases c : validM xs = true
  · simp only [if_pos c]
    refine Ev.bind (specM_ev ys hy) ?_
    by_cases c2 : validM ys = true
    · simp only [if_pos c2]
      refine Ev.bind (specB_ev xs ys c c2) ?_
      by_cases c3 : (bnd xs ys).2 < (bnd xs ys).1
      · simp only [if_pos c3, if_neg (show ¬ (6 : Int) = 0 by decide), decide_eq_false (show ¬ (bnd xs ys).2 ≥ (bnd xs ys).1 by omega)]
        split <;> exact Ev.now _
      · simp only [if_neg c3, decide_eq_true (show (bnd xs ys).2 ≥ (bnd xs ys).1 by omega), if_true]
        by_cases c4 : (bnd xs ys).1 > 0
        · simp only [if_pos c4, decide_eq_true c4]; exact Ev.now _
        · simp only [if_neg c4, decide_eq_false c4]; exact Ev.now _
    · simp only [if_neg c2, if_neg (show ¬ (1 : Int) = 0 by decide)]; exact Ev.now _
  · simp only [if_neg c, if_neg (show ¬ (1 : Int) = 0 by decide)]; exact Ev.now _
theorem FnExactIsLeaking : PFnExactIsLeaking.Pure := by
  intro xs ys hx hy
  obtain ⟨_, hxl, hxw⟩ := hx
  obtain ⟨_, hyl, hyw⟩ := hy
  have sx := tailM xs hxl (fun x hx => (hxw x hx).1)
  have sy := tailM ys hyl (fun x hx => (hyw x hx).1)
  obtain ⟨r, hz⟩ := szMeter_ev xs 1048576 (by omega)
  obtain ⟨r2, hz2⟩ := szMeter_ev ys r (by omega)
  have tx := toMeter_ev xs hxl
  have ty := toMeter_ev ys hyl
  refine Ev.get ?_
  unfold laws_FnExactIsLeaking.f
  refine Ev.bind hz ?_
  by_cases c : r < 0
  · simp only [if_pos c]; exact Ev.now _
  simp only [if_neg c]
  refine Ev.bind hz2 ?_
  by_cases c2 : r2 < 0
  · simp only [if_pos c2]; exact Ev.now _
  simp only [if_neg c2]
  refine Ev.bind tx (Ev.bind ty (Ev.bind (spec_ev _ _ sx sy) (Ev.bind tx (Ev.bind ty (Ev.bind (impl_ev _ _ sx sy) ?_)))))
  simp only [bne_self_eq_false, Bool.false_eq_true, if_false]
  refine Ev.bind tx (Ev.bind (eqMeter_ev _ sx.1) ?_)
  simp only [if_true]
  refine Ev.bind ty (Ev.bind (eqMeter_ev _ sy.1) ?_)
  simp only [if_true]; exact Ev.now _
end Go.Proofs.Ytopjjpphbccaiaa.Pure

