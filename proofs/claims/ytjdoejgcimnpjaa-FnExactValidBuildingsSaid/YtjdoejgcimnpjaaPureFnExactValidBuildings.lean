/- The law FnExactValidBuildings, in numbers and lists alone: the program's ValidBuildings and the reference's give one answer, and the list stays as it was. No condition. -/
import Derived.Test.YtjdoejgcimnpjaaQFnExactValidBuildings
import Derived.Test.YtjdoejgcimnpjaaPLib
set_option linter.unusedVariables false
set_option linter.unusedSimpArgs false
namespace Go.Proofs.Ytjdoejgcimnpjaa.PFnExactValidBuildings
open Go.RowKit Go.Proofs.YtjdoejgcimnpjaaW.PrintWords Go.Proofs.YtjdoejgcimnpjaaW.PLib

theorem l00In_eq (a b c : Int) : spec_l00In.f a b c = some (decide (b ≤ a) && decide (a ≤ c)) := by
  unfold spec_l00In.f; by_cases h : a ≥ b
  · rw [if_pos h]; simp [show b ≤ a from h]
  · rw [if_neg h]; simp [show ¬ b ≤ a from h]

theorem within_eq (a b c : Int) : impl_within.f a b c = some (decide (b ≤ a) && decide (a ≤ c)) := by
  unfold impl_within.f; by_cases h : a ≥ b
  · rw [if_pos h]; simp [show b ≤ a from h]
  · rw [if_neg h]; simp [show ¬ b ≤ a from h]

/-! names -/
def smallB (c : Int) : Bool := decide (97 ≤ c) && decide (c ≤ 122)
def digitB (c : Int) : Bool := decide (48 ≤ c) && decide (c ≤ 57)
def nameB (s : ByteArray) : Bool := (decide (1 ≤ s.size) && decide (s.size ≤ 10)) && (smallB (bt s 0) && allB (fun i => smallB (bt s i) || digitB (bt s i)) s.size)
theorem small_eq (c : Int) : spec_l01Small.f c = some (smallB c) := by
  unfold spec_l01Small.f smallB; by_cases h : c ≥ 97
  · rw [if_pos h]; simp [show 97 ≤ c from h]
  · rw [if_neg h]; simp [show ¬ 97 ≤ c from h]
theorem digit_eq (c : Int) : spec_l01Digit.f c = some (digitB c) := by
  unfold spec_l01Digit.f digitB; by_cases h : c ≥ 48
  · rw [if_pos h]; simp [show 48 ≤ c from h]
  · rw [if_neg h]; simp [show ¬ 48 ≤ c from h]
theorem specName_loop (s : ByteArray) (hs : s.size < 9223372036854775807) : Ev (fun k => spec_l01Name.l0 k s 0) (allB (fun i => smallB (bt s i) || digitB (bt s i)) s.size && true) := by
  refine all_ev (fun k i => spec_l01Name.l0 k s i) s.size true _ (fun i hi => ⟨0, fun k _ => ?_⟩) ⟨0, fun k _ => ?_⟩
  · simp only [spec_l01Name.l0]
    rw [if_pos (by omega), if_pos (by omega)]
    simp only [small_eq, digit_eq, Option.bind_some, w64s (show i < 9223372036854775807 by omega)]
    by_cases c1 : smallB (bt s i) = true
    · simp [c1]
    · simp only [Bool.not_eq_true] at c1
      by_cases c2 : digitB (bt s i) = true
      · simp [c1, c2]
      · simp only [Bool.not_eq_true] at c2; simp [c1, c2]
  · simp only [spec_l01Name.l0]
    rw [if_neg (by omega)]
theorem specName_ev (s : ByteArray) (hs : s.size < 9223372036854775807) : Ev (fun k => spec_l01Name.f k s) (nameB s) := by
  obtain ⟨K, hK⟩ := specName_loop s hs
  refine ⟨K + 1, fun k hk => ?_⟩
  obtain ⟨k, rfl⟩ : ∃ m, k = m + 1 := ⟨k - 1, by omega⟩
  unfold spec_l01Name.f nameB
  simp only [spec_l01Name.j0, hK k (by omega), small_eq, Option.bind_some]
  by_cases c1 : s.toList = ([] : List UInt8)
  · rw [if_pos c1]
    have : s.size = 0 := by
      have := congrArg List.length c1
      simpa [ByteArray.toList_eq] using this
    simp [this]
  · rw [if_neg c1]
    have h0 : 1 ≤ s.size := by
      rcases Nat.eq_zero_or_pos s.size with h | h
      · exact absurd (by
          have : s.data.toList = [] := List.eq_nil_of_length_eq_zero (by rw [Array.length_toList]; exact h)
          simpa [ByteArray.toList_eq] using this) c1
      · exact h
    by_cases c2 : (s.size : Int) > 10
    · rw [if_pos c2, decide_eq_false (show ¬ s.size ≤ 10 by omega)]; simp
    · rw [if_neg c2, if_pos (by omega), decide_eq_true (show s.size ≤ 10 by omega), decide_eq_true h0]
      by_cases c3 : smallB (bt s 0) = true
      · simp [c3]
      · simp only [Bool.not_eq_true] at c3; simp [c3]
theorem implName_loop (s : ByteArray) (hs : s.size < 9223372036854775807) : Ev (fun k => impl_onlyNameBytes.f k s) (allB (fun i => smallB (bt s i) || digitB (bt s i)) s.size && true) := by
  unfold impl_onlyNameBytes.f
  refine all_ev (fun k i => impl_onlyNameBytes.l0 k s (s.size : Int) i) s.size true _ (fun i hi => ⟨0, fun k _ => ?_⟩) ⟨0, fun k _ => ?_⟩
  · simp only [impl_onlyNameBytes.l0]
    rw [if_pos (by omega), if_pos (by omega), if_pos (by omega)]
    simp only [w64s (show i < 9223372036854775807 by omega), smallB, digitB]
    by_cases a : bt s i < 97 <;> by_cases b : bt s i < 48 <;> by_cases c : bt s i > 57 <;> by_cases d : bt s i > 122 <;> simp [a, b, c, d] <;> omega
  · simp only [impl_onlyNameBytes.l0]
    rw [if_neg (by omega)]
theorem implName_ev (s : ByteArray) (hs : s.size < 9223372036854775807) : Ev (fun k => impl_IsName.f k s) (nameB s) := by
  obtain ⟨K, hK⟩ := implName_loop s hs
  refine ⟨K, fun k hk => ?_⟩
  unfold impl_IsName.f nameB
  simp only [hK k hk, Option.bind_some]
  by_cases c1 : (s.size : Int) < 1
  · rw [if_pos c1, decide_eq_false (show ¬ 1 ≤ s.size by omega)]; simp
  · rw [if_neg c1, decide_eq_true (show 1 ≤ s.size by omega)]
    by_cases c2 : (s.size : Int) > 10
    · rw [if_pos c2, decide_eq_false (show ¬ s.size ≤ 10 by omega)]; simp
    · rw [if_neg c2, if_pos (by omega), decide_eq_true (show s.size ≤ 10 by omega)]
      unfold smallB
      by_cases a : bt s 0 < 97
      · rw [if_pos a, decide_eq_false (show ¬ 97 ≤ bt s 0 by omega)]; simp
      · rw [if_neg a, decide_eq_true (show 97 ≤ bt s 0 by omega)]
        by_cases b : bt s 0 > 122
        · rw [if_pos b, decide_eq_false (show ¬ bt s 0 ≤ 122 by omega)]; simp
        · rw [if_neg b, decide_eq_true (show bt s 0 ≤ 122 by omega)]; simp

theorem rd_at (xs : List Int) (i : Nat) (h : i < xs.length) : rd xs (i : Int) = xs[i] := by unfold rd; exact getD_cast xs i h _
theorem eqInts_ev (xs : List Int) (hl : xs.length < 9223372036854775807) : Ev (fun k => laws_eqInt64S.f k xs xs) true := by
  unfold laws_eqInt64S.f
  simp only [if_true]
  have := all_ev (fun k i => laws_eqInt64S.l0 k xs xs i) xs.length true (fun _ => true) (fun i hi => ⟨0, fun k _ => ?_⟩) ⟨0, fun k _ => ?_⟩
  · rw [allB_const] at this; exact this
  · simp only [laws_eqInt64S.l0]
    rw [if_pos (by omega), if_pos (by omega), if_pos (by omega)]
    simp only [if_true, w64s (show i < 9223372036854775807 by omega)]
  · simp only [laws_eqInt64S.l0]
    rw [if_neg (by omega)]

theorem toInts_ev (xs : List Int) (hl : xs.length * 8 ≤ 140737488351232) : Ev (fun k => laws_toInt64S.f k xs) xs := by
  refine ⟨xs.length + 1, fun k hk => ?_⟩
  simp only [laws_toInt64S.f]
  rw [if_pos (by omega), if_pos (by omega)]
  have h := to_loop (fun k ys i => laws_toInt64S.l0 k xs ys i) xs id (fun k ys i h hy => ?_) (fun k ys hy => ?_) (List.replicate ((xs.length : Int) : Int).toNat 0) (by simp) k (by omega)
  · rw [List.map_id] at h; exact h
  · simp only [laws_toInt64S.l0]
    rw [if_pos (by omega), if_pos (by omega), if_pos (by omega), w64s (by omega), rd_at xs i h]
    rfl
  · simp only [laws_toInt64S.l0]
    rw [if_neg (by omega)]

/-! allWithin, as a test of each place -/
def inB (lo hi : Int) (xs : List Int) (i : Nat) : Bool := decide (lo ≤ rd xs (i : Int)) && decide (rd xs (i : Int) ≤ hi)
theorem all_rd (p : Int → Bool) (xs : List Int) : xs.all p = allB (fun i => p (rd xs (i : Int))) xs.length := by
  rw [Bool.eq_iff_iff, allB_true, List.all_eq_true]
  constructor
  · intro h i hi
    rw [rd_at xs i hi]
    exact h _ (List.getElem_mem hi)
  · intro h x hx
    obtain ⟨i, hi, rfl⟩ := List.getElem_of_mem hx
    have := h i hi
    rw [rd_at xs i hi] at this
    exact this
theorem allWithin_eq (xs : List Int) (lo hi : Int) : impl_allWithin.f xs lo hi = some (allB (inB lo hi xs) xs.length) := by
  unfold impl_allWithin.f
  rw [all_rd]
  rfl
theorem inB_at {lo hi : Int} {xs : List Int} (h : allB (inB lo hi xs) xs.length = true) (i : Nat) (hi' : i < xs.length) : lo ≤ rd xs (i : Int) ∧ rd xs (i : Int) ≤ hi := by
  have := allB_true.1 h i hi'
  unfold inB at this
  simpa using this

theorem to_evE {α β : Type} (L : Nat → List β → Int → Option (List β)) (xs : List α) (cv : α → β) (z : β)
    (hs : ∀ i (h : i < xs.length) ys, ys.length = xs.length → ∀ r, Ev (fun k => L k (ys.set i (cv xs[i])) ((i + 1 : Nat) : Int)) r → Ev (fun k => L k ys (i : Int)) r)
    (he : ∀ ys, ys.length = xs.length → Ev (fun k => L k ys (xs.length : Int)) ys) : Ev (fun k => L k (List.replicate xs.length z) 0) (xs.map cv) := by
  have key := inv_evE (fun k (s : List β) i => L k s i) xs.length (fun i s => s.length = xs.length ∧ ∀ j (h : j < i) (h' : j < xs.length) (h'' : j < s.length), s[j] = cv xs[j]) (fun r => r = xs.map cv) (fun i s hi h => .inr ?_) (fun s h => ?_) xs.length 0 (List.replicate xs.length z) (by omega) ⟨by simp, fun j h => absurd h (Nat.not_lt_zero _)⟩
  · obtain ⟨r, rfl, h⟩ := key
    exact h
  · refine ⟨s.set i (cv xs[i]), ⟨by simp [h.1], fun j h1 h2 h3 => ?_⟩, hs i hi s h.1⟩
    by_cases e : j = i
    · subst e; simp
    · rw [List.getElem_set_ne (by omega)]
      exact h.2 j (by omega) h2 (by simpa using h3)
  · refine ⟨s, ?_, he s h.1⟩
    apply List.ext_getElem
    · simp [h.1]
    · intro j h1 h2
      rw [h.2 j (by omega) (by omega) h1]
      simp

abbrev BU := S156
abbrev LB := S155
def cvB (x : LB) : BU := ⟨x.f0, x.f1, x.f2, x.f3, x.f4, x.f5⟩
theorem rdi_B (xs : List BU) (i : Nat) (h : i < xs.length) : rd_T156 xs (i : Int) = xs[i] := by unfold rd_T156; exact getD_cast xs i h _
theorem rdl_B (xs : List LB) (i : Nat) (h : i < xs.length) : rd_T155 xs (i : Int) = xs[i] := by unfold rd_T155; exact getD_cast xs i h _
theorem rd1_B (x : BU) : rd_T156 [x] 0 = x := rfl
theorem toB_ev (xs : List LB) (hl : xs.length * 72 ≤ 140737488351232) (hx : ∀ x ∈ xs, x.f5.length * 8 ≤ 140737488351232) : Ev (fun k => laws_toBuildingS.f k xs) (xs.map cvB) := by
  unfold laws_toBuildingS.f
  simp only [if_pos (show 0 ≤ (xs.length : Int) by omega), Int.toNat_natCast, if_pos (show xs.length ≤ 3909374676536 by omega)]
  refine to_evE (fun k ys i => laws_toBuildingS.l0 k xs ys i) xs cvB _ (fun i h ys hy r hr => Ev.succ ?_) (fun ys hy => Ev.succ ?_)
  · simp only [laws_toBuildingS.l0, if_pos (show (i : Int) < (xs.length : Int) by omega), if_pos (show 0 ≤ (i : Int) by omega), rdl_B xs i h, laws_toBuilding.f]
    refine Ev.bind (Ev.bind (toInts_ev xs[i].f5 (hx _ (List.getElem_mem h))) (Ev.now _)) ?_
    simp only [if_pos (show (i : Int) < (ys.length : Int) by omega), w64s (show i < 9223372036854775807 by omega), Int.toNat_natCast]
    exact hr
  · simp only [laws_toBuildingS.l0, if_neg (show ¬ (xs.length : Int) < (xs.length : Int) by omega)]; exact Ev.now _
theorem eqB_ev (xs : List BU) (hl : xs.length < 9223372036854775807) (hx : ∀ x ∈ xs, x.f5.length < 9223372036854775807) : Ev (fun k => laws_eqBuildingS.f k xs xs) true := by
  unfold laws_eqBuildingS.f
  simp only [if_true]
  have h := all_evE (fun k i => laws_eqBuildingS.l0 k xs xs i) xs.length true (fun _ => true) (fun i hi r hr => Ev.succ ?_) (Ev.succ ?_)
  · rw [allB_const] at h; exact h
  · simp only [laws_eqBuildingS.l0, if_pos (show (i : Int) < (xs.length : Int) by omega), if_pos (show 0 ≤ (i : Int) by omega), rdi_B xs i hi, laws_eqBuilding.f, if_true, w64s (show i < 9223372036854775807 by omega)]
    refine Ev.bind (Ev.bind (eqInts_ev xs[i].f5 (hx _ (List.getElem_mem hi))) (Ev.now _)) ?_
    simp only [if_true]
    exact hr
  · simp only [laws_eqBuildingS.l0, if_neg (show ¬ (xs.length : Int) < (xs.length : Int) by omega)]; exact Ev.now _
theorem sz1 (a : ByteArray) (b c d e : Int) (l : List Int) (s : Int) : ∃ t, laws_szBuilding.f a b c d e l s = some t := by
  unfold laws_szBuilding.f laws_szInt64S.f
  split
  · exact ⟨_, rfl⟩
  · split
    · exact ⟨_, rfl⟩
    · simp only [Option.bind_some]
      split <;> exact ⟨_, rfl⟩
theorem szB_ev (xs : List LB) (s : Int) (hl : xs.length < 9223372036854775807) : ∃ r, Ev (fun k => laws_szBuildingS.f k xs s) r := by
  unfold laws_szBuildingS.f
  by_cases c : wrap64 (s - (xs.length : Int)) < 0
  · simp only [if_pos c]; exact ⟨_, Ev.now _⟩
  simp only [if_neg c]
  refine tot_ev (fun k s i => laws_szBuildingS.l0 k xs s i) xs.length (fun i s hi => ?_) (fun s => ⟨s, 0, fun k _ => ?_⟩) xs.length 0 _ (by omega)
  · obtain ⟨t, ht⟩ := sz1 (rd_T155 xs (i : Int)).f0 (rd_T155 xs (i : Int)).f1 (rd_T155 xs (i : Int)).f2 (rd_T155 xs (i : Int)).f3 (rd_T155 xs (i : Int)).f4 (rd_T155 xs (i : Int)).f5 s
    by_cases c2 : t < 0
    · refine .inl ⟨-1, 0, fun k _ => ?_⟩
      simp only [laws_szBuildingS.l0, if_pos (show (i : Int) < (xs.length : Int) by omega), if_pos (show 0 ≤ (i : Int) by omega), ht, Option.bind_some, if_pos c2]
    · refine .inr ⟨t, 0, fun k _ => ?_⟩
      simp only [laws_szBuildingS.l0, if_pos (show (i : Int) < (xs.length : Int) by omega), if_pos (show 0 ≤ (i : Int) by omega), ht, Option.bind_some, if_neg c2, w64s (show i < 9223372036854775807 by omega)]
  · simp only [laws_szBuildingS.l0, if_neg (show ¬ (xs.length : Int) < (xs.length : Int) by omega)]
def inR (a lo hi : Int) : Bool := decide (lo ≤ a) && decide (a ≤ hi)
def oneB (x : BU) : Bool := nameB x.f0 && (inR x.f1 0 15 && (inR x.f2 0 1000000 && (inR x.f3 0 100000 && (inR x.f4 (-4000) 4500 && (decide (x.f5.length = 24) && allB (inB 0 3000 x.f5) x.f5.length)))))
theorem l00In_r (a b c : Int) : spec_l00In.f a b c = some (inR a b c) := l00In_eq a b c
theorem within_r (a b c : Int) : impl_within.f a b c = some (inR a b c) := within_eq a b c
theorem specOneB_ev (x : BU) (h : x.f0.size < 9223372036854775807) : Ev (fun k => spec_l05One.f k [x]) (oneB x) := by
  have jT : Ev (fun k => spec_l05One.j0 k [x] true) false := Ev.succ (by simp only [spec_l05One.j0, if_true]; exact Ev.now _)
  unfold spec_l05One.f oneB spec_l05Outdoor.f
  simp only [if_pos (show 0 < (([x] : List BU).length : Int) by simp), rd1_B]
  refine Ev.bind (specName_ev x.f0 h) ?_
  cases nameB x.f0
  · simp only [Bool.false_eq_true, if_false, Bool.false_and]; exact jT
  simp only [if_true, l00In_r, Option.bind_some, Bool.true_and]
  cases inR x.f1 0 15
  · simp only [Bool.false_eq_true, if_false, Bool.false_and]; exact jT
  simp only [if_true, Bool.true_and]
  cases inR x.f2 0 1000000
  · simp only [Bool.false_eq_true, if_false, Bool.false_and]; exact jT
  simp only [if_true, Bool.true_and]
  cases inR x.f3 0 100000
  · simp only [Bool.false_eq_true, if_false, Bool.false_and]; exact jT
  simp only [if_true, Bool.true_and]
  cases inR x.f4 (-4000) 4500
  · simp only [Bool.false_eq_true, if_false, Bool.false_and]; exact jT
  simp only [if_true, Bool.true_and]
  by_cases c : x.f5.length = 24
  · rw [decide_eq_true c, Bool.true_and]
    simp only [show ((x.f5.length : Int) != 24) = false from bne_eq_false_iff_eq.mpr (by omega)]
    refine Ev.succ ?_
    simp only [spec_l05One.j0, Bool.false_eq_true, if_false]
    have h := all_evE (fun k i => spec_l05One.l0 k [x] i) x.f5.length true (inB 0 3000 x.f5) (fun i hi r hr => Ev.succ ?_) (Ev.succ ?_)
    · rw [Bool.and_true] at h; exact h
    · simp only [spec_l05One.l0, if_pos (show 0 < (([x] : List BU).length : Int) by simp), rd1_B, if_pos (show (i : Int) < (x.f5.length : Int) by omega), if_pos (show 0 ≤ (i : Int) by omega), l00In_r, Option.bind_some, w64s (show i < 9223372036854775807 by omega)]
      by_cases c4 : inB 0 3000 x.f5 i = true
      · simp only [if_pos c4, if_pos (show inR (rd x.f5 (i : Int)) 0 3000 = true from c4)]; exact hr
      · simp only [if_neg c4, if_neg (show ¬ inR (rd x.f5 (i : Int)) 0 3000 = true from c4)]; exact Ev.now _
    · refine Ev.all fun k => ?_
      simp only [spec_l05One.l0]
      rw [if_pos (show 0 < (([x] : List BU).length : Int) by simp), if_neg (show ¬ (x.f5.length : Int) < ((rd_T156 [x] 0).f5.length : Int) by rw [rd1_B]; omega)]
  · rw [decide_eq_false c, Bool.false_and]
    simp only [show ((x.f5.length : Int) != 24) = true from bne_iff_ne.mpr (by omega)]
    exact jT
theorem implOneB_ev (x : BU) (h : x.f0.size < 9223372036854775807) : Ev (fun k => impl_Building_valid.f k x.f0 x.f1 x.f2 x.f3 x.f4 x.f5) (oneB x) := by
  unfold impl_Building_valid.f oneB impl_nodeOk.f impl_outdoorOk.f
  refine Ev.bind (implName_ev x.f0 h) ?_
  simp only [within_r, allWithin_eq, Option.bind_some]
  by_cases c : x.f5.length = 24
  · simp only [if_pos (show (x.f5.length : Int) = 24 by omega), decide_eq_true c, Bool.true_and]
    cases nameB x.f0 <;> cases inR x.f1 0 15 <;> cases inR x.f2 0 1000000 <;> cases inR x.f3 0 100000 <;> cases inR x.f4 (-4000) 4500 <;> exact Ev.now _
  · simp only [if_neg (show ¬ (x.f5.length : Int) = 24 by omega), decide_eq_false c, Bool.false_and]
    cases nameB x.f0 <;> cases inR x.f1 0 15 <;> cases inR x.f2 0 1000000 <;> cases inR x.f3 0 100000 <;> cases inR x.f4 (-4000) 4500 <;> exact Ev.now _
def adjB (xs : List BU) (i : Nat) : Bool := Op.bytesLess (rd_T156 xs ((i - 1 : Nat) : Int)).f0.toList (rd_T156 xs (i : Int)).f0.toList
def okB (xs : List BU) (i : Nat) : Bool := oneB (rd_T156 xs (i : Int)) && (decide (i = 0) || adjB xs i)
def validB (xs : List BU) : Bool := allB (okB xs) xs.length && decide ((xs.length : Int) ≤ 12)
theorem specB_ev (xs : List BU) (hl : xs.length < 9223372036854775807) (hx : ∀ x ∈ xs, x.f0.size < 9223372036854775807) : Ev (fun k => spec_l05Ok.f k xs) (validB xs) := by
  unfold spec_l05Ok.f validB
  refine all_evE (fun k i => spec_l05Ok.l0 k xs i) xs.length _ (okB xs) (fun i hi r hr => Ev.succ ?_) (Ev.succ ?_)
  · simp only [spec_l05Ok.l0, if_pos (show (i : Int) < (xs.length : Int) by omega), if_pos (show 0 ≤ (i : Int) by omega), w64s (show i < 9223372036854775807 by omega)]
    refine Ev.bind (specOneB_ev _ (by rw [rdi_B xs i hi]; exact hx _ (List.getElem_mem hi))) ?_
    by_cases c1 : oneB (rd_T156 xs (i : Int)) = true
    · simp only [if_pos c1]
      by_cases c2 : i = 0
      · rw [if_pos (show okB xs i = true by unfold okB; rw [c1, decide_eq_true c2]; rfl)]
        simp only [if_neg (show ¬ (i : Int) > 0 by omega)]; exact hr
      · have e1 : wrap64 ((i : Int) - 1) = ((i - 1 : Nat) : Int) := by rw [w64] <;> omega
        simp only [if_pos (show (i : Int) > 0 by omega), e1, if_pos (show 0 ≤ ((i - 1 : Nat) : Int) by omega), if_pos (show ((i - 1 : Nat) : Int) < (xs.length : Int) by omega)]
        by_cases c3 : adjB xs i = true
        · rw [if_pos (show okB xs i = true by unfold okB; rw [c1, c3, Bool.or_true]; rfl)]
          simp only [if_pos (show Op.bytesLess (rd_T156 xs ((i - 1 : Nat) : Int)).f0.toList (rd_T156 xs (i : Int)).f0.toList = true from c3)]; exact hr
        · rw [if_neg (show ¬ okB xs i = true by unfold okB; rw [decide_eq_false c2]; simp only [Bool.not_eq_true] at c3; rw [c3]; simp)]
          simp only [if_neg (show ¬ Op.bytesLess (rd_T156 xs ((i - 1 : Nat) : Int)).f0.toList (rd_T156 xs (i : Int)).f0.toList = true from c3)]; exact Ev.now _
    · rw [if_neg (show ¬ okB xs i = true by unfold okB; simp only [Bool.not_eq_true] at c1; rw [c1]; simp)]
      simp only [if_neg c1]; exact Ev.now _
  · simp only [spec_l05Ok.l0, if_neg (show ¬ (xs.length : Int) < (xs.length : Int) by omega)]; exact Ev.now _
theorem implB_ev (xs : List BU) (hl : xs.length < 9223372036854775807) (hx : ∀ x ∈ xs, x.f0.size < 9223372036854775807) : Ev (fun k => impl_ValidBuildings.f k xs) (validB xs) := by
  unfold impl_ValidBuildings.f validB
  by_cases c : (xs.length : Int) > 12
  · simp only [if_pos c]
    rw [decide_eq_false (show ¬ (xs.length : Int) ≤ 12 by omega), Bool.and_false]; exact Ev.now _
  simp only [if_neg c]
  rw [decide_eq_true (show (xs.length : Int) ≤ 12 by omega)]
  refine all_evE (fun k i => impl_ValidBuildings.l0 k xs xs (xs.length : Int) i) xs.length _ (okB xs) (fun i hi r hr => Ev.succ ?_) (Ev.succ ?_)
  · simp only [impl_ValidBuildings.l0, if_pos (show (i : Int) < (xs.length : Int) by omega), if_pos (show 0 ≤ (i : Int) by omega), w64s (show i < 9223372036854775807 by omega)]
    refine Ev.bind (implOneB_ev _ (by rw [rdi_B xs i hi]; exact hx _ (List.getElem_mem hi))) ?_
    by_cases c1 : oneB (rd_T156 xs (i : Int)) = true
    · simp only [if_pos c1]
      by_cases c2 : i = 0
      · rw [if_pos (show okB xs i = true by unfold okB; rw [c1, decide_eq_true c2]; rfl)]
        simp only [if_neg (show ¬ (i : Int) > 0 by omega)]; exact hr
      · have e1 : wrap64 ((i : Int) - 1) = ((i - 1 : Nat) : Int) := by rw [w64] <;> omega
        simp only [if_pos (show (i : Int) > 0 by omega), e1, if_pos (show 0 ≤ ((i - 1 : Nat) : Int) by omega), if_pos (show ((i - 1 : Nat) : Int) < (xs.length : Int) by omega)]
        by_cases c3 : adjB xs i = true
        · rw [if_pos (show okB xs i = true by unfold okB; rw [c1, c3, Bool.or_true]; rfl)]
          simp only [if_pos (show Op.bytesLess (rd_T156 xs ((i - 1 : Nat) : Int)).f0.toList (rd_T156 xs (i : Int)).f0.toList = true from c3)]; exact hr
        · rw [if_neg (show ¬ okB xs i = true by unfold okB; rw [decide_eq_false c2]; simp only [Bool.not_eq_true] at c3; rw [c3]; simp)]
          simp only [if_neg (show ¬ Op.bytesLess (rd_T156 xs ((i - 1 : Nat) : Int)).f0.toList (rd_T156 xs (i : Int)).f0.toList = true from c3)]; exact Ev.now _
    · rw [if_neg (show ¬ okB xs i = true by unfold okB; simp only [Bool.not_eq_true] at c1; rw [c1]; simp)]
      simp only [if_neg c1]; exact Ev.now _
  · simp only [impl_ValidBuildings.l0, if_neg (show ¬ (xs.length : Int) < (xs.length : Int) by omega)]; exact Ev.now _
end Go.Proofs.Ytjdoejgcimnpjaa.PFnExactValidBuildings
namespace Go.Proofs.Ytjdoejgcimnpjaa.Pure
open Go.RowKit Go.Proofs.YtjdoejgcimnpjaaW.PrintWords Go.Proofs.YtjdoejgcimnpjaaW.PLib Go.Proofs.Ytjdoejgcimnpjaa.PFnExactValidBuildings

theorem FnExactValidBuildings : PFnExactValidBuildings.Pure := by
  intro xs hx
  obtain ⟨_, hl, hw⟩ := hx
  have h0 : ∀ x ∈ xs.map cvB, x.f0.size < 9223372036854775807 := fun x hx => by
    obtain ⟨y, hy, rfl⟩ := List.mem_map.1 hx
    have h1 : y.f0.size ≤ 140737488351232 := (hw y hy).1
    show y.f0.size < _
    omega
  have h5 : ∀ x ∈ xs, x.f5.length * 8 ≤ 140737488351232 := fun y hy => (hw y hy).2.2.2.2.2.2.1
  have h6 : ∀ x ∈ xs.map cvB, x.f5.length < 9223372036854775807 := fun x hx => by
    obtain ⟨y, hy, rfl⟩ := List.mem_map.1 hx
    have := h5 y hy
    show y.f5.length < _
    omega
  have hs : (xs.map cvB).length < 9223372036854775807 := by simp; omega
  obtain ⟨r, hr⟩ := szB_ev xs 1048576 (by omega)
  refine Ev.get ?_
  unfold laws_FnExactValidBuildings.f
  refine Ev.bind hr ?_
  by_cases c : r < 0
  · simp only [if_pos c]; exact Ev.now _
  simp only [if_neg c]
  refine Ev.bind (toB_ev xs hl h5) (Ev.bind (Ev.bind (specB_ev _ hs h0) (Ev.now _)) (Ev.bind (toB_ev xs hl h5) (Ev.bind (implB_ev _ hs h0) ?_)))
  simp only [bne_self_eq_false, Bool.false_eq_true, if_false]
  refine Ev.bind (toB_ev xs hl h5) (Ev.bind (eqB_ev _ hs h6) ?_)
  simp only [if_true]; exact Ev.now _
end Go.Proofs.Ytjdoejgcimnpjaa.Pure

