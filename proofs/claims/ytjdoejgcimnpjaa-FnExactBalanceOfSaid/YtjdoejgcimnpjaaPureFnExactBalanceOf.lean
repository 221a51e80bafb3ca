/- The law FnExactBalanceOf, in numbers and lists alone: the program's BalanceOf and the reference's give one answer, and the postings stay as they were. No condition. -/
import Derived.Test.YtjdoejgcimnpjaaQFnExactBalanceOf
import Derived.Test.YtjdoejgcimnpjaaPLib
set_option linter.unusedVariables false
set_option linter.unusedSimpArgs false
namespace Go.Proofs.Ytjdoejgcimnpjaa.PFnExactBalanceOf
open Go.RowKit Go.Proofs.YtjdoejgcimnpjaaW.PrintWords Go.Proofs.YtjdoejgcimnpjaaW.PLib

theorem l00In_eq (a b c : Int) : spec_l00In.f a b c = some (decide (b ≤ a) && decide (a ≤ c)) := by
  unfold spec_l00In.f; by_cases h : a ≥ b
  · rw [if_pos h]; simp [show b ≤ a from h]
  · rw [if_neg h]; simp [show ¬ b ≤ a from h]

theorem within_eq (a b c : Int) : impl_within.f a b c = some (decide (b ≤ a) && decide (a ≤ c)) := by
  unfold impl_within.f; by_cases h : a ≥ b
  · rw [if_pos h]; simp [show b ≤ a from h]
  · rw [if_neg h]; simp [show ¬ b ≤ a from h]

/-! names -/
def smallB (c : Int) : Bool := decide (97 ≤ c) && decide (c ≤ 122)
def digitB (c : Int) : Bool := decide (48 ≤ c) && decide (c ≤ 57)
def nameB (s : ByteArray) : Bool := (decide (1 ≤ s.size) && decide (s.size ≤ 10)) && (smallB (bt s 0) && allB (fun i => smallB (bt s i) || digitB (bt s i)) s.size)
theorem small_eq (c : Int) : spec_l01Small.f c = some (smallB c) := by
  unfold spec_l01Small.f smallB; by_cases h : c ≥ 97
  · rw [if_pos h]; simp [show 97 ≤ c from h]
  · rw [if_neg h]; simp [show ¬ 97 ≤ c from h]
theorem digit_eq (c : Int) : spec_l01Digit.f c = some (digitB c) := by
  unfold spec_l01Digit.f digitB; by_cases h : c ≥ 48
  · rw [if_pos h]; simp [show 48 ≤ c from h]
  · rw [if_neg h]; simp [show ¬ 48 ≤ c from h]
theorem specName_loop (s : ByteArray) (hs : s.size < 9223372036854775807) : Ev (fun k => spec_l01Name.l0 k s 0) (allB (fun i => smallB (bt s i) || digitB (bt s i)) s.size && true) := by
  refine all_ev (fun k i => spec_l01Name.l0 k s i) s.size true _ (fun i hi => ⟨0, fun k _ => ?_⟩) ⟨0, fun k _ => ?_⟩
  · simp only [spec_l01Name.l0]
    rw [if_pos (by omega), if_pos (by omega)]
    simp only [small_eq, digit_eq, Option.bind_some, w64s (show i < 9223372036854775807 by omega)]
    by_cases c1 : smallB (bt s i) = true
    · simp [c1]
    · simp only [Bool.not_eq_true] at c1
      by_cases c2 : digitB (bt s i) = true
      · simp [c1, c2]
      · simp only [Bool.not_eq_true] at c2; simp [c1, c2]
  · simp only [spec_l01Name.l0]
    rw [if_neg (by omega)]
theorem specName_ev (s : ByteArray) (hs : s.size < 9223372036854775807) : Ev (fun k => spec_l01Name.f k s) (nameB s) := by
  obtain ⟨K, hK⟩ := specName_loop s hs
  refine ⟨K + 1, fun k hk => ?_⟩
  obtain ⟨k, rfl⟩ : ∃ m, k = m + 1 := ⟨k - 1, by omega⟩
  unfold spec_l01Name.f nameB
  simp only [spec_l01Name.j0, hK k (by omega), small_eq, Option.bind_some]
  by_cases c1 : s.toList = ([] : List UInt8)
  · rw [if_pos c1]
    have : s.size = 0 := by
      have := congrArg List.length c1
      simpa [ByteArray.toList_eq] using this
    simp [this]
  · rw [if_neg c1]
    have h0 : 1 ≤ s.size := by
      rcases Nat.eq_zero_or_pos s.size with h | h
      · exact absurd (by
          have : s.data.toList = [] := List.eq_nil_of_length_eq_zero (by rw [Array.length_toList]; exact h)
          simpa [ByteArray.toList_eq] using this) c1
      · exact h
    by_cases c2 : (s.size : Int) > 10
    · rw [if_pos c2, decide_eq_false (show ¬ s.size ≤ 10 by omega)]; simp
    · rw [if_neg c2, if_pos (by omega), decide_eq_true (show s.size ≤ 10 by omega), decide_eq_true h0]
      by_cases c3 : smallB (bt s 0) = true
      · simp [c3]
      · simp only [Bool.not_eq_true] at c3; simp [c3]
theorem implName_loop (s : ByteArray) (hs : s.size < 9223372036854775807) : Ev (fun k => impl_onlyNameBytes.f k s) (allB (fun i => smallB (bt s i) || digitB (bt s i)) s.size && true) := by
  unfold impl_onlyNameBytes.f
  refine all_ev (fun k i => impl_onlyNameBytes.l0 k s (s.size : Int) i) s.size true _ (fun i hi => ⟨0, fun k _ => ?_⟩) ⟨0, fun k _ => ?_⟩
  · simp only [impl_onlyNameBytes.l0]
    rw [if_pos (by omega), if_pos (by omega), if_pos (by omega)]
    simp only [w64s (show i < 9223372036854775807 by omega), smallB, digitB]
    by_cases a : bt s i < 97 <;> by_cases b : bt s i < 48 <;> by_cases c : bt s i > 57 <;> by_cases d : bt s i > 122 <;> simp [a, b, c, d] <;> omega
  · simp only [impl_onlyNameBytes.l0]
    rw [if_neg (by omega)]
theorem implName_ev (s : ByteArray) (hs : s.size < 9223372036854775807) : Ev (fun k => impl_IsName.f k s) (nameB s) := by
  obtain ⟨K, hK⟩ := implName_loop s hs
  refine ⟨K, fun k hk => ?_⟩
  unfold impl_IsName.f nameB
  simp only [hK k hk, Option.bind_some]
  by_cases c1 : (s.size : Int) < 1
  · rw [if_pos c1, decide_eq_false (show ¬ 1 ≤ s.size by omega)]; simp
  · rw [if_neg c1, decide_eq_true (show 1 ≤ s.size by omega)]
    by_cases c2 : (s.size : Int) > 10
    · rw [if_pos c2, decide_eq_false (show ¬ s.size ≤ 10 by omega)]; simp
    · rw [if_neg c2, if_pos (by omega), decide_eq_true (show s.size ≤ 10 by omega)]
      unfold smallB
      by_cases a : bt s 0 < 97
      · rw [if_pos a, decide_eq_false (show ¬ 97 ≤ bt s 0 by omega)]; simp
      · rw [if_neg a, decide_eq_true (show 97 ≤ bt s 0 by omega)]
        by_cases b : bt s 0 > 122
        · rw [if_pos b, decide_eq_false (show ¬ bt s 0 ≤ 122 by omega)]; simp
        · rw [if_neg b, decide_eq_true (show bt s 0 ≤ 122 by omega)]; simp

/-! Posting -/
theorem rdl_Posting (xs : List S145) (i : Nat) (h : i < xs.length) : rd_T145 xs (i : Int) = xs[i] := by unfold rd_T145; exact getD_cast xs i h _
theorem rdi_Posting (xs : List S150) (i : Nat) (h : i < xs.length) : rd_T150 xs (i : Int) = xs[i] := by unfold rd_T150; exact getD_cast xs i h _
theorem rd1_Posting (x : S150) : rd_T150 [x] 0 = x := rfl
def cvPosting (x : S145) : S150 := ⟨x.f0, x.f1, x.f2⟩
theorem toPosting_ev (xs : List S145) (hl : xs.length * 32 ≤ 140737488351232) : Ev (fun k => laws_toPostingS.f k xs) (xs.map cvPosting) := by
  refine ⟨xs.length + 1, fun k hk => ?_⟩
  simp only [laws_toPostingS.f]
  rw [if_pos (by omega), if_pos (by omega)]
  refine to_loop (fun k ys i => laws_toPostingS.l0 k xs ys i) xs cvPosting (fun k ys i h hy => ?_) (fun k ys hy => ?_) _ (by simp) k (by omega)
  · simp only [laws_toPostingS.l0]
    rw [if_pos (by omega), if_pos (by omega)]
    simp only [laws_toPosting.f, Option.bind_some, rdl_Posting xs i h]
    rw [if_pos (by omega), w64s (by omega)]
    rfl
  · simp only [laws_toPostingS.l0]
    rw [if_neg (by omega)]
theorem eqPosting_ev (xs : List S150) (hl : xs.length < 9223372036854775807) : Ev (fun k => laws_eqPostingS.f k xs xs) true := by
  unfold laws_eqPostingS.f
  simp only [if_true]
  have := all_ev (fun k i => laws_eqPostingS.l0 k xs xs i) xs.length true (fun _ => true) (fun i hi => ⟨0, fun k _ => ?_⟩) ⟨0, fun k _ => ?_⟩
  · rw [allB_const] at this; exact this
  · simp only [laws_eqPostingS.l0]
    rw [if_pos (by omega), if_pos (by omega), if_pos (by omega)]
    simp only [laws_eqPosting.f, if_true, bne_self_eq_false, Bool.false_eq_true, if_false, Option.bind_some, w64s (show i < 9223372036854775807 by omega)]
  · simp only [laws_eqPostingS.l0]
    rw [if_neg (by omega)]
theorem szPosting_ev (xs : List S145) (a : Int) (hl : xs.length < 9223372036854775807) : ∃ r, Ev (fun k => laws_szPostingS.f k xs a) r := by
  unfold laws_szPostingS.f
  by_cases c : wrap64 (a - (xs.length : Int)) < 0
  · exact ⟨-1, by simp only [if_pos c]; exact Ev.now _⟩
  · simp only [if_neg c]
    refine tot_ev (fun k s i => laws_szPostingS.l0 k xs s i) xs.length (fun i s hi => ?_) (fun s => ⟨s, 0, fun k _ => ?_⟩) xs.length 0 _ (by omega)
    · obtain ⟨t, ht⟩ : ∃ t, laws_szPosting.f ((rd_T145 xs i).f0) ((rd_T145 xs i).f1) ((rd_T145 xs i).f2) s = some t := by
        unfold laws_szPosting.f
        repeat' split
        all_goals exact ⟨_, rfl⟩
      by_cases c2 : t < 0
      · refine .inl ⟨-1, 0, fun k _ => ?_⟩
        simp only [laws_szPostingS.l0]
        rw [if_pos (by omega), if_pos (by omega), ht]
        simp only [Option.bind_some]
        rw [if_pos c2]
      · refine .inr ⟨t, 0, fun k _ => ?_⟩
        simp only [laws_szPostingS.l0]
        rw [if_pos (by omega), if_pos (by omega), ht]
        simp only [Option.bind_some]
        rw [if_neg c2, w64s (by omega)]
    · simp only [laws_szPostingS.l0]
      rw [if_neg (by omega)]

/-! valid lists of Posting -/
def onePosting (x : S150) : Bool := nameB x.f0 && ((decide ((-1000000000) ≤ x.f1) && decide (x.f1 ≤ 1000000000)) && (!decide (x.f1 = 0) && (decide (0 ≤ x.f2) && decide (x.f2 ≤ 100000))))
def adjPosting (p x : S150) : Bool := decide (p.f2 ≤ x.f2)
def okPosting (xs : List S150) (i : Nat) : Bool := if h : i < xs.length then onePosting xs[i] && (decide (i = 0) || adjPosting xs[i - 1] xs[i]) else false
def validPosting (xs : List S150) : Bool := allB (okPosting xs) xs.length && decide ((xs.length : Int) ≤ 32)
def smPosting (x : S150) : Prop := x.f0.size < 9223372036854775807
def smallPosting (xs : List S150) : Prop := xs.length < 9223372036854775807 ∧ ∀ x ∈ xs, smPosting x
theorem specOnePosting_ev (x : S150) (h : smPosting x) : Ev (fun k => spec_l23One.f k [x]) (onePosting x) := by
  refine Ev.then_ (specName_ev x.f0 h) fun k e => ?_
  unfold spec_l23One.f onePosting
  rw [if_pos (by simp)]
  simp only [rd1_Posting, e, Option.bind_some, l00In_eq, spec_l23Day.f, impl_accountDay.f, ifs, ifn]
theorem implOnePosting_ev (x : S150) (h : smPosting x) : Ev (fun k => impl_Posting_valid.f k x.f0 x.f1 x.f2) (onePosting x) := by
  refine Ev.then_ (implName_ev x.f0 h) fun k e => ?_
  unfold impl_Posting_valid.f onePosting
  simp only [e, Option.bind_some, within_eq, spec_l23Day.f, impl_accountDay.f, ifs, ifn]
theorem specPostingS_ev (xs : List S150) (h : smallPosting xs) : Ev (fun k => spec_l23Ok.f k xs) (validPosting xs) := by
  obtain ⟨hl, hx⟩ := h
  unfold spec_l23Ok.f validPosting
  refine all_ev (fun k i => spec_l23Ok.l0 k xs i) xs.length _ (okPosting xs) (fun i hi => ?_) ⟨0, fun k _ => ?_⟩
  · refine Ev.with_ (specOnePosting_ev xs[i] (hx _ (List.getElem_mem hi))) fun k e => ?_
    simp only [spec_l23Ok.l0]
    rw [if_pos (by omega), if_pos (by omega), rdi_Posting xs i hi, e, Option.bind_some, w64s (by omega)]
    by_cases c1 : onePosting xs[i] = true
    · rw [if_pos c1]
      by_cases c2 : i = 0
      · rw [if_neg (by omega), if_pos (by unfold okPosting; rw [dif_pos hi, c1, decide_eq_true c2]; rfl)]
      · have e1 : wrap64 ((i : Int) - 1) = ((i - 1 : Nat) : Int) := by rw [w64] <;> omega
        rw [if_pos (by omega), e1, if_pos (by omega), if_pos (by omega), rdi_Posting xs (i - 1) (by omega)]
        rw [show okPosting xs i = adjPosting xs[i - 1] xs[i] from by unfold okPosting; rw [dif_pos hi, c1, decide_eq_false c2, Bool.true_and, Bool.false_or]]
        unfold adjPosting
        by_cases c3 : xs[i - 1].f2 ≤ xs[i].f2 <;> simp [c3] <;> omega
    · rw [if_neg c1, if_neg (by unfold okPosting; simp only [Bool.not_eq_true] at c1; rw [dif_pos hi, c1]; simp)]
  · simp only [spec_l23Ok.l0]
    rw [if_neg (by omega)]
theorem implPostingS_ev (xs : List S150) (h : smallPosting xs) : Ev (fun k => impl_ValidPostings.f k xs) (validPosting xs) := by
  obtain ⟨hl, hx⟩ := h
  unfold impl_ValidPostings.f validPosting
  by_cases c : (xs.length : Int) > 32
  · simp only [if_pos c]
    rw [decide_eq_false (show ¬ (xs.length : Int) ≤ 32 by omega), Bool.and_false]; exact Ev.now _
  simp only [if_neg c]
  rw [decide_eq_true (show (xs.length : Int) ≤ 32 by omega)]
  refine all_ev (fun k i => impl_ValidPostings.l0 k xs xs (xs.length : Int) i) xs.length true (okPosting xs) (fun i hi => ?_) ⟨0, fun k _ => ?_⟩
  · refine Ev.with_ (implOnePosting_ev xs[i] (hx _ (List.getElem_mem hi))) fun k e => ?_
    simp only [impl_ValidPostings.l0]
    rw [if_pos (by omega), if_pos (by omega), if_pos (by omega), rdi_Posting xs i hi, e, Option.bind_some, w64s (by omega)]
    by_cases c1 : onePosting xs[i] = true
    · rw [if_pos c1]
      by_cases c2 : i = 0
      · rw [if_neg (by omega), if_pos (by unfold okPosting; rw [dif_pos hi, c1, decide_eq_true c2]; rfl)]
      · have e1 : wrap64 ((i : Int) - 1) = ((i - 1 : Nat) : Int) := by rw [w64] <;> omega
        rw [if_pos (by omega), e1, if_pos (by omega), if_pos (by omega), rdi_Posting xs (i - 1) (by omega)]
        rw [show okPosting xs i = adjPosting xs[i - 1] xs[i] from by unfold okPosting; rw [dif_pos hi, c1, decide_eq_false c2, Bool.true_and, Bool.false_or]]
        unfold adjPosting
        by_cases c3 : xs[i - 1].f2 ≤ xs[i].f2 <;> simp [c3] <;> omega
    · rw [if_neg c1, if_neg (by unfold okPosting; simp only [Bool.not_eq_true] at c1; rw [dif_pos hi, c1]; simp)]
  · simp only [impl_ValidPostings.l0]
    rw [if_neg (by omega)]
theorem validPosting_len {xs : List S150} (h : validPosting xs = true) : (xs.length : Int) ≤ 32 := by
  unfold validPosting at h
  simp only [Bool.and_eq_true, decide_eq_true_eq] at h
  exact h.2
theorem validPosting_at {xs : List S150} (h : validPosting xs = true) (i : Nat) (hi : i < xs.length) : onePosting xs[i] = true ∧ (0 < i → adjPosting xs[i - 1] xs[i] = true) := by
  unfold validPosting at h
  simp only [Bool.and_eq_true] at h
  have := allB_true.1 h.1 i hi
  unfold okPosting at this
  rw [dif_pos hi] at this
  simp only [Bool.and_eq_true, Bool.or_eq_true, decide_eq_true_eq] at this
  exact ⟨this.1, fun h0 => by rcases this.2 with h1 | h1; omega; exact h1⟩


abbrev PO := S150
def isOf (xs : List PO) (a : ByteArray) (i : Nat) : Bool := decide ((rd_T150 xs (i : Int)).f0.toList = a.toList)
def has (xs : List PO) (a : ByteArray) : Bool := !(allB (fun i => !(isOf xs a i)) xs.length)
theorem specHas_ev (xs : List PO) (a : ByteArray) (hl : xs.length < 9223372036854775807) : Ev (fun k => spec_l23Has.f k xs a) (has xs a) := by
  unfold spec_l23Has.f has
  have h := scan_evE (fun k i => spec_l23Has.l0 k xs a i) xs.length false true (fun i => !(isOf xs a i)) (fun i hi r hr => Ev.succ ?_) (Ev.succ ?_)
  · cases c : allB (fun i => !(isOf xs a i)) xs.length
    · rw [c, if_neg (by simp)] at h; exact h
    · rw [c, if_pos rfl] at h; exact h
  · simp only [spec_l23Has.l0, if_pos (show (i : Int) < (xs.length : Int) by omega), if_pos (show 0 ≤ (i : Int) by omega), w64s (show i < 9223372036854775807 by omega)]
    by_cases c : (rd_T150 xs (i : Int)).f0.toList = a.toList
    · rw [if_neg (show ¬ (!(isOf xs a i)) = true by unfold isOf; rw [decide_eq_true c]; simp)]
      simp only [if_pos c]; exact Ev.now _
    · rw [if_pos (show (!(isOf xs a i)) = true by unfold isOf; rw [decide_eq_false c]; rfl)]
      simp only [if_neg c]; exact hr
  · simp only [spec_l23Has.l0, if_neg (show ¬ (xs.length : Int) < (xs.length : Int) by omega)]; exact Ev.now _
theorem implHas_eq (xs : List PO) (a : ByteArray) : impl_hasAccount.f xs a = some (has xs a) := by
  unfold impl_hasAccount.f has
  congr 1
  rw [Bool.eq_iff_iff]
  simp only [List.any_eq_true, Bool.not_eq_true', beq_iff_eq]
  constructor
  · rintro ⟨x, hx, he⟩
    obtain ⟨i, hi, rfl⟩ := List.getElem_of_mem hx
    cases c : allB (fun i => !(isOf xs a i)) xs.length
    · rfl
    · have := allB_true.1 c i hi
      unfold isOf at this
      rw [rdi_Posting xs i hi, decide_eq_true he] at this
      simp at this
  · intro h
    by_cases c : ∃ i, i < xs.length ∧ isOf xs a i = true
    · obtain ⟨i, hi, hc⟩ := c
      unfold isOf at hc
      rw [rdi_Posting xs i hi] at hc
      exact ⟨xs[i], List.getElem_mem hi, by simpa using hc⟩
    · have : allB (fun i => !(isOf xs a i)) xs.length = true := by
        rw [allB_true]
        intro i hi
        cases d : isOf xs a i
        · rfl
        · exact absurd ⟨i, hi, d⟩ c
      rw [this] at h
      cases h
def bal (xs : List PO) (a : ByteArray) (d : Int) : Nat → Int
  | 0 => 0
  | i + 1 => if (rd_T150 xs (i : Int)).f0.toList = a.toList then (if (rd_T150 xs (i : Int)).f2 ≤ d then wrap64 (bal xs a d i + (rd_T150 xs (i : Int)).f1) else bal xs a d i) else bal xs a d i
theorem specBal_ev (xs : List PO) (a : ByteArray) (d : Int) (hl : xs.length < 9223372036854775807) : Ev (fun k => spec_l23Balance.f k xs a d) (bal xs a d xs.length) := by
  unfold spec_l23Balance.f
  refine fold_from (fun k s i => spec_l23Balance.l0 k xs a d s i) 0 xs.length (bal xs a d) _ (Nat.zero_le _) (fun i _ hi r hr => Ev.succ ?_) (Ev.succ ?_)
  · simp only [spec_l23Balance.l0, if_pos (show (i : Int) < (xs.length : Int) by omega), if_pos (show 0 ≤ (i : Int) by omega), w64s (show i < 9223372036854775807 by omega)]
    simp only [bal] at hr
    by_cases c : (rd_T150 xs (i : Int)).f0.toList = a.toList
    · simp only [if_pos c] at hr ⊢
      by_cases c2 : (rd_T150 xs (i : Int)).f2 ≤ d
      · simp only [if_pos c2] at hr ⊢; exact hr
      · simp only [if_neg c2] at hr ⊢; exact hr
    · simp only [if_neg c] at hr ⊢; exact hr
  · simp only [spec_l23Balance.l0, if_neg (show ¬ (xs.length : Int) < (xs.length : Int) by omega)]; exact Ev.now _
theorem implBal_ev (xs : List PO) (a : ByteArray) (d : Int) (hl : xs.length < 9223372036854775807) : Ev (fun k => impl_balanceOf.f k xs a d) (bal xs a d xs.length) := by
  unfold impl_balanceOf.f
  refine fold_from (fun k s i => impl_balanceOf.l0 k a d s xs (xs.length : Int) i) 0 xs.length (bal xs a d) _ (Nat.zero_le _) (fun i _ hi r hr => Ev.succ ?_) (Ev.succ ?_)
  · simp only [impl_balanceOf.l0, if_pos (show (i : Int) < (xs.length : Int) by omega), if_pos (show 0 ≤ (i : Int) by omega), w64s (show i < 9223372036854775807 by omega)]
    simp only [bal] at hr
    by_cases c : (rd_T150 xs (i : Int)).f0.toList = a.toList
    · simp only [if_pos c] at hr ⊢
      by_cases c2 : (rd_T150 xs (i : Int)).f2 ≤ d
      · simp only [if_pos c2] at hr ⊢; exact hr
      · simp only [if_neg c2] at hr ⊢; exact hr
    · simp only [if_neg c] at hr ⊢; exact hr
  · simp only [impl_balanceOf.l0, if_neg (show ¬ (xs.length : Int) < (xs.length : Int) by omega)]; exact Ev.now _
def res (xs : List PO) (a : ByteArray) (d : Int) : Int × Int := if validPosting xs = true then (if (decide (0 ≤ d) && decide (d ≤ 100000)) = true then (if has xs a = true then (bal xs a d xs.length, 0) else (0, 3)) else (0, 2)) else (0, 1)
theorem spec_ev (xs : List PO) (a : ByteArray) (d : Int) (h : smallPosting xs) : Ev (fun k => spec_BalanceOf.f k xs a d) (res xs a d) := by
  unfold spec_BalanceOf.f res spec_l23Day.f
  refine Ev.bind (specPostingS_ev xs h) ?_
  by_cases c : validPosting xs = true
  · simp only [if_pos c, l00In_eq, Option.bind_some]
    by_cases c2 : (decide (0 ≤ d) && decide (d ≤ 100000)) = true
    · simp only [if_pos c2]
      refine Ev.bind (specHas_ev xs a h.1) ?_
      by_cases c3 : has xs a = true
      · simp only [if_pos c3]; exact Ev.bind (specBal_ev xs a d h.1) (Ev.now _)
      · simp only [if_neg c3]; exact Ev.now _
    · simp only [if_neg c2]; exact Ev.now _
  · simp only [if_neg c]; exact Ev.now _
theorem impl_ev (xs : List PO) (a : ByteArray) (d : Int) (h : smallPosting xs) : Ev (fun k => impl_BalanceOf.f k xs a d) (res xs a d) := by
  unfold impl_BalanceOf.f res impl_accountDay.f
  refine Ev.bind (implPostingS_ev xs h) ?_
  by_cases c : validPosting xs = true
  · simp only [if_pos c, within_eq, implHas_eq, Option.bind_some]
    by_cases c2 : (decide (0 ≤ d) && decide (d ≤ 100000)) = true
    · simp only [if_pos c2]
      by_cases c3 : has xs a = true
      · simp only [if_pos c3]; exact Ev.bind (implBal_ev xs a d h.1) (Ev.now _)
      · simp only [if_neg c3]; exact Ev.now _
    · simp only [if_neg c2]; exact Ev.now _
  · simp only [if_neg c]; exact Ev.now _
end Go.Proofs.Ytjdoejgcimnpjaa.PFnExactBalanceOf
namespace Go.Proofs.Ytjdoejgcimnpjaa.Pure
open Go.RowKit Go.Proofs.YtjdoejgcimnpjaaW.PrintWords Go.Proofs.YtjdoejgcimnpjaaW.PLib Go.Proofs.Ytjdoejgcimnpjaa.PFnExactBalanceOf

theorem FnExactBalanceOf : PFnExactBalanceOf.Pure := by
  intro xs a d hx _ _
  obtain ⟨_, hl, hw⟩ := hx
  have hs : smallPosting (xs.map cvPosting) := ⟨by simp; omega, fun x hx => by
    obtain ⟨y, hy, rfl⟩ := List.mem_map.1 hx
    have h1 : y.f0.size ≤ 140737488351232 := (hw y hy).1
    show y.f0.size < _
    omega⟩
  obtain ⟨r, hr⟩ := szPosting_ev xs 1048576 (by omega)
  refine Ev.get ?_
  unfold laws_FnExactBalanceOf.f
  by_cases cp : (a.size : Int) > 1048576
  · simp only [if_pos cp]; exact Ev.now _
  simp only [if_neg cp]
  refine Ev.bind hr ?_
  by_cases c : r < 0
  · simp only [if_pos c]; exact Ev.now _
  simp only [if_neg c]
  refine Ev.bind (toPosting_ev xs hl) (Ev.bind (spec_ev _ a d hs) (Ev.bind (toPosting_ev xs hl) (Ev.bind (impl_ev _ a d hs) ?_)))
  simp only [bne_self_eq_false, if_true]
  refine Ev.succ ?_
  simp only [laws_FnExactBalanceOf.j0, Bool.false_eq_true, if_false]
  refine Ev.bind (toPosting_ev xs hl) (Ev.bind (eqPosting_ev _ hs.1) ?_)
  simp only [if_true]; exact Ev.now _
end Go.Proofs.Ytjdoejgcimnpjaa.Pure

