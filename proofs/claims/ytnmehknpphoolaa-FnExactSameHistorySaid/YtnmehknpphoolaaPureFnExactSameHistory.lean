/- The law FnExactSameHistory, in numbers and lists alone: the program's SameHistory and the reference's give one answer, and the two histories stay as they were. No condition. -/
import Derived.Test.YtnmehknpphoolaaQFnExactSameHistory
import Derived.Test.YtnmehknpphoolaaPLib
set_option linter.unusedVariables false
set_option linter.unusedSimpArgs false
namespace Go.Proofs.Ytnmehknpphoolaa.PFnExactSameHistory
open Go.RowKit Go.Proofs.YtnmehknpphoolaaW.PrintWords Go.Proofs.YtnmehknpphoolaaW.PLib

/-! Setting -/
theorem rdl_Setting (xs : List S183) (i : Nat) (h : i < xs.length) : rd_T183 xs (i : Int) = xs[i] := by unfold rd_T183; exact getD_cast xs i h _
theorem rdi_Setting (xs : List S113) (i : Nat) (h : i < xs.length) : rd_T113 xs (i : Int) = xs[i] := by unfold rd_T113; exact getD_cast xs i h _
theorem rd1_Setting (x : S113) : rd_T113 [x] 0 = x := rfl
def cvSetting (x : S183) : S113 := ⟨x.f0, x.f1⟩
theorem toSetting_ev (xs : List S183) (hl : xs.length * 24 ≤ 140737488351232) : Ev (fun k => laws_toSettingS.f k xs) (xs.map cvSetting) := by
  refine ⟨xs.length + 1, fun k hk => ?_⟩
  simp only [laws_toSettingS.f]
  rw [if_pos (by omega), if_pos (by omega)]
  refine to_loop (fun k ys i => laws_toSettingS.l0 k xs ys i) xs cvSetting (fun k ys i h hy => ?_) (fun k ys hy => ?_) _ (by simp) k (by omega)
  · simp only [laws_toSettingS.l0]
    rw [if_pos (by omega), if_pos (by omega)]
    simp only [laws_toSetting.f, Option.bind_some, rdl_Setting xs i h]
    rw [if_pos (by omega), w64s (by omega)]
    rfl
  · simp only [laws_toSettingS.l0]
    rw [if_neg (by omega)]
theorem eqSetting_ev (xs : List S113) (hl : xs.length < 9223372036854775807) : Ev (fun k => laws_eqSettingS.f k xs xs) true := by
  unfold laws_eqSettingS.f
  simp only [if_true]
  have := all_ev (fun k i => laws_eqSettingS.l0 k xs xs i) xs.length true (fun _ => true) (fun i hi => ⟨0, fun k _ => ?_⟩) ⟨0, fun k _ => ?_⟩
  · rw [allB_const] at this; exact this
  · simp only [laws_eqSettingS.l0]
    rw [if_pos (by omega), if_pos (by omega), if_pos (by omega)]
    simp only [laws_eqSetting.f, if_true, bne_self_eq_false, Bool.false_eq_true, if_false, Option.bind_some, w64s (show i < 9223372036854775807 by omega)]
  · simp only [laws_eqSettingS.l0]
    rw [if_neg (by omega)]
theorem szSetting_ev (xs : List S183) (a : Int) (hl : xs.length < 9223372036854775807) : ∃ r, Ev (fun k => laws_szSettingS.f k xs a) r := by
  unfold laws_szSettingS.f
  by_cases c : wrap64 (a - (xs.length : Int)) < 0
  · exact ⟨-1, by simp only [if_pos c]; exact Ev.now _⟩
  · simp only [if_neg c]
    refine tot_ev (fun k s i => laws_szSettingS.l0 k xs s i) xs.length (fun i s hi => ?_) (fun s => ⟨s, 0, fun k _ => ?_⟩) xs.length 0 _ (by omega)
    · obtain ⟨t, ht⟩ : ∃ t, laws_szSetting.f ((rd_T183 xs i).f0) ((rd_T183 xs i).f1) s = some t := by
        unfold laws_szSetting.f
        repeat' split
        all_goals exact ⟨_, rfl⟩
      by_cases c2 : t < 0
      · refine .inl ⟨-1, 0, fun k _ => ?_⟩
        simp only [laws_szSettingS.l0]
        rw [if_pos (by omega), if_pos (by omega), ht]
        simp only [Option.bind_some]
        rw [if_pos c2]
      · refine .inr ⟨t, 0, fun k _ => ?_⟩
        simp only [laws_szSettingS.l0]
        rw [if_pos (by omega), if_pos (by omega), ht]
        simp only [Option.bind_some]
        rw [if_neg c2, w64s (by omega)]
    · simp only [laws_szSettingS.l0]
      rw [if_neg (by omega)]

theorem to_evE {α β : Type} (L : Nat → List β → Int → Option (List β)) (xs : List α) (cv : α → β) (z : β)
    (hs : ∀ i (h : i < xs.length) ys, ys.length = xs.length → ∀ r, Ev (fun k => L k (ys.set i (cv xs[i])) ((i + 1 : Nat) : Int)) r → Ev (fun k => L k ys (i : Int)) r)
    (he : ∀ ys, ys.length = xs.length → Ev (fun k => L k ys (xs.length : Int)) ys) : Ev (fun k => L k (List.replicate xs.length z) 0) (xs.map cv) := by
  have key := inv_evE (fun k (s : List β) i => L k s i) xs.length (fun i s => s.length = xs.length ∧ ∀ j (h : j < i) (h' : j < xs.length) (h'' : j < s.length), s[j] = cv xs[j]) (fun r => r = xs.map cv) (fun i s hi h => .inr ?_) (fun s h => ?_) xs.length 0 (List.replicate xs.length z) (by omega) ⟨by simp, fun j h => absurd h (Nat.not_lt_zero _)⟩
  · obtain ⟨r, rfl, h⟩ := key
    exact h
  · refine ⟨s.set i (cv xs[i]), ⟨by simp [h.1], fun j h1 h2 h3 => ?_⟩, hs i hi s h.1⟩
    by_cases e : j = i
    · subst e; simp
    · rw [List.getElem_set_ne (by omega)]
      exact h.2 j (by omega) h2 (by simpa using h3)
  · refine ⟨s, ?_, he s h.1⟩
    apply List.ext_getElem
    · simp [h.1]
    · intro j h1 h2
      rw [h.2 j (by omega) (by omega) h1]
      simp

/-! rows of versions, handed over and compared -/
theorem rdl_Version (xs : List S105) (i : Nat) (h : i < xs.length) : rd_T105 xs (i : Int) = xs[i] := by unfold rd_T105; exact getD_cast xs i h _
theorem rdi_Version (xs : List S108) (i : Nat) (h : i < xs.length) : rd_T108 xs (i : Int) = xs[i] := by unfold rd_T108; exact getD_cast xs i h _
def cvVersion (x : S105) : S108 := ⟨x.f0, x.f1, x.f2, x.f3.map cvSetting⟩
theorem szVersion_ev (xs : List S105) (a : Int) (hl : xs.length < 9223372036854775807) (hn : ∀ x ∈ xs, x.f3.length < 9223372036854775807) : ∃ r, Ev (fun k => laws_szVersionS.f k xs a) r := by
  unfold laws_szVersionS.f
  by_cases c : wrap64 (a - (xs.length : Int)) < 0
  · exact ⟨-1, by simp only [if_pos c]; exact Ev.now _⟩
  · simp only [if_neg c]
    have key := inv_evE (fun k (s : Int) i => laws_szVersionS.l0 k xs s i) xs.length (fun _ _ => True) (fun _ => True) (fun i s hi _ => ?_) (fun s _ => ⟨s, trivial, Ev.succ ?_⟩) xs.length 0 (wrap64 (a - (xs.length : Int))) (by omega) trivial
    · obtain ⟨r, _, h⟩ := key
      exact ⟨r, h⟩
    · obtain ⟨t, ht⟩ : ∃ t, Ev (fun k => laws_szVersion.f k ((rd_T105 xs (i : Int)).f0) ((rd_T105 xs (i : Int)).f1) ((rd_T105 xs (i : Int)).f2) ((rd_T105 xs (i : Int)).f3) s) t := by
        unfold laws_szVersion.f
        split
        · exact ⟨_, Ev.now _⟩
        · obtain ⟨q, hq⟩ := szSetting_ev (rd_T105 xs (i : Int)).f3 (wrap64 (s - ((rd_T105 xs (i : Int)).f2.size : Int))) (by rw [rdl_Version xs i hi]; exact hn _ (List.getElem_mem hi))
          by_cases c3 : q < 0
          · exact ⟨-1, Ev.bind hq (by simp only [if_pos c3]; exact Ev.now _)⟩
          · exact ⟨q, Ev.bind hq (by simp only [if_neg c3]; exact Ev.now _)⟩
      by_cases c2 : t < 0
      · refine .inl ⟨-1, trivial, Ev.succ ?_⟩
        simp only [laws_szVersionS.l0, if_pos (show (i : Int) < (xs.length : Int) by omega), if_pos (show 0 ≤ (i : Int) by omega)]
        exact Ev.bind ht (by simp only [if_pos c2]; exact Ev.now _)
      · refine .inr ⟨t, trivial, fun r hr => Ev.succ ?_⟩
        simp only [laws_szVersionS.l0, if_pos (show (i : Int) < (xs.length : Int) by omega), if_pos (show 0 ≤ (i : Int) by omega), w64s (show i < 9223372036854775807 by omega)]
        exact Ev.bind ht (by simp only [if_neg c2]; exact hr)
    · simp only [laws_szVersionS.l0, if_neg (show ¬ (xs.length : Int) < (xs.length : Int) by omega)]; exact Ev.now _
theorem toVersion_ev (xs : List S105) (hl : xs.length * 56 ≤ 140737488351232) (hn : ∀ x ∈ xs, x.f3.length * 24 ≤ 140737488351232) : Ev (fun k => laws_toVersionS.f k xs) (xs.map cvVersion) := by
  unfold laws_toVersionS.f
  simp only [if_pos (show 0 ≤ (xs.length : Int) by omega), Int.toNat_natCast, if_pos (show xs.length ≤ 5026338869833 by omega)]
  refine to_evE (fun k ys i => laws_toVersionS.l0 k xs ys i) xs cvVersion _ (fun i h ys hy r hr => Ev.succ ?_) (fun ys hy => Ev.succ ?_)
  · simp only [laws_toVersionS.l0, if_pos (show (i : Int) < (xs.length : Int) by omega), if_pos (show 0 ≤ (i : Int) by omega), hy, w64s (show i < 9223372036854775807 by omega), Int.toNat_natCast]
    unfold laws_toVersion.f
    have ht := toSetting_ev (rd_T105 xs (i : Int)).f3 (by rw [rdl_Version xs i h]; exact hn _ (List.getElem_mem h))
    refine Ev.bind (Ev.bind ht (Ev.now _)) ?_
    rw [rdl_Version xs i h]
    exact hr
  · simp only [laws_toVersionS.l0, if_neg (show ¬ (xs.length : Int) < (xs.length : Int) by omega)]; exact Ev.now _
theorem eqVersion_ev (xs : List S108) (hl : xs.length < 9223372036854775807) (hn : ∀ x ∈ xs, x.f3.length < 9223372036854775807) : Ev (fun k => laws_eqVersionS.f k xs xs) true := by
  unfold laws_eqVersionS.f
  simp only [if_true]
  have := all_evE (fun k i => laws_eqVersionS.l0 k xs xs i) xs.length true (fun _ => true) (fun i hi r hr => Ev.succ ?_) (Ev.succ ?_)
  · rw [allB_const] at this; exact this
  · simp only [laws_eqVersionS.l0, if_pos (show (i : Int) < (xs.length : Int) by omega), if_pos (show 0 ≤ (i : Int) by omega), w64s (show i < 9223372036854775807 by omega)]
    unfold laws_eqVersion.f
    simp only [if_true]
    refine Ev.bind (Ev.bind (eqSetting_ev _ (by rw [rdi_Version xs i hi]; exact hn _ (List.getElem_mem hi))) (Ev.now true)) ?_
    simp only [if_true]
    exact hr
  · simp only [laws_eqVersionS.l0, if_neg (show ¬ (xs.length : Int) < (xs.length : Int) by omega)]; exact Ev.now _

abbrev SE := S113
abbrev VE := S108
def okSe (a b : List SE) (i : Nat) : Bool := !(!((((rd_T113 a (i : Int)).f0).toList) == (((rd_T113 b (i : Int)).f0).toList)) || (!(((rd_T113 a (i : Int)).f1) == ((rd_T113 b (i : Int)).f1))))
def sameSe (a b : List SE) : Bool := decide (a.length = b.length) && allB (okSe a b) a.length
theorem specSe_ev (a b : List SE) (hl : a.length < 9223372036854775807) : Ev (fun k => spec_l27Same.f k a b) (sameSe a b) := by
  unfold spec_l27Same.f sameSe
  by_cases c : a.length = b.length
  · simp only [if_pos (show (a.length : Int) = (b.length : Int) by omega), decide_eq_true c, Bool.true_and]
    have h := all_evE (fun k i => spec_l27Same.l0 k a b i) a.length true (okSe a b) (fun i hi r hr => Ev.succ ?_) (Ev.succ ?_)
    · rw [Bool.and_true] at h; exact h
    · simp only [spec_l27Same.l0, if_pos (show (i : Int) < (a.length : Int) by omega), if_pos (show 0 ≤ (i : Int) by omega), if_pos (show (i : Int) < (b.length : Int) by omega), w64s (show i < 9223372036854775807 by omega)]
      unfold okSe
      generalize (!((((rd_T113 a (i : Int)).f0).toList) == (((rd_T113 b (i : Int)).f0).toList)) || (!(((rd_T113 a (i : Int)).f1) == ((rd_T113 b (i : Int)).f1)))) = q
      cases q
      · simp only [Bool.not_false, Bool.false_eq_true, if_false, if_true]; exact hr
      · simp only [Bool.not_true, Bool.false_eq_true, if_false, if_true]; exact Ev.now _
    · simp only [spec_l27Same.l0, if_neg (show ¬ (a.length : Int) < (a.length : Int) by omega)]; exact Ev.now _
  · simp only [if_neg (show ¬ (a.length : Int) = (b.length : Int) by omega), decide_eq_false c, Bool.false_and]; exact Ev.now _
theorem implSe_ev (a b : List SE) (hl : a.length < 9223372036854775807) : Ev (fun k => impl_Setting.f k a b) (sameSe a b) := by
  unfold impl_Setting.f sameSe
  by_cases c : a.length = b.length
  · simp only [if_pos (show (a.length : Int) = (b.length : Int) by omega), decide_eq_true c, Bool.true_and]
    have h := all_evE (fun k i => impl_Setting.l0 k a b (a.length : Int) i) a.length true (okSe a b) (fun i hi r hr => Ev.succ ?_) (Ev.succ ?_)
    · rw [Bool.and_true] at h; exact h
    · simp only [impl_Setting.l0, if_pos (show (i : Int) < (a.length : Int) by omega), if_pos (show 0 ≤ (i : Int) by omega), if_pos (show (i : Int) < (b.length : Int) by omega), w64s (show i < 9223372036854775807 by omega)]
      unfold okSe
      generalize (!((((rd_T113 a (i : Int)).f0).toList) == (((rd_T113 b (i : Int)).f0).toList)) || (!(((rd_T113 a (i : Int)).f1) == ((rd_T113 b (i : Int)).f1)))) = q
      cases q
      · simp only [Bool.not_false, Bool.false_eq_true, if_false, if_true]; exact hr
      · simp only [Bool.not_true, Bool.false_eq_true, if_false, if_true]; exact Ev.now _
    · simp only [impl_Setting.l0, if_neg (show ¬ (a.length : Int) < (a.length : Int) by omega)]; exact Ev.now _
  · simp only [if_neg (show ¬ (a.length : Int) = (b.length : Int) by omega), decide_eq_false c, Bool.false_and]; exact Ev.now _
def okV (a b : List VE) (i : Nat) : Bool := decide ((rd_T108 a (i : Int)).f0 = (rd_T108 b (i : Int)).f0) && (decide ((rd_T108 a (i : Int)).f1 = (rd_T108 b (i : Int)).f1) && (decide ((rd_T108 a (i : Int)).f2.toList = (rd_T108 b (i : Int)).f2.toList) && sameSe (rd_T108 a (i : Int)).f3 (rd_T108 b (i : Int)).f3))
def sameV (a b : List VE) : Bool := decide (a.length = b.length) && allB (okV a b) a.length
def smallV (a : List VE) : Prop := a.length < 9223372036854775807 ∧ ∀ x ∈ a, x.f3.length < 9223372036854775807
theorem specV_ev (a b : List VE) (h : smallV a) : Ev (fun k => spec_SameHistory.f k a b) (sameV a b) := by
  have hl := h.1
  unfold spec_SameHistory.f sameV
  by_cases c : a.length = b.length
  · simp only [if_pos (show (a.length : Int) = (b.length : Int) by omega), decide_eq_true c, Bool.true_and]
    have h := all_evE (fun k i => spec_SameHistory.l0 k a b i) a.length true (okV a b) (fun i hi r hr => Ev.succ ?_) (Ev.succ ?_)
    · rw [Bool.and_true] at h; exact h
    · have hn : (rd_T108 a (i : Int)).f3.length < 9223372036854775807 := by rw [rdi_Version a i hi]; exact h.2 _ (List.getElem_mem hi)
      simp only [spec_SameHistory.l0, if_pos (show (i : Int) < (a.length : Int) by omega), if_pos (show 0 ≤ (i : Int) by omega), if_pos (show (i : Int) < (b.length : Int) by omega), w64s (show i < 9223372036854775807 by omega)]
      unfold okV
      by_cases c0 : (rd_T108 a (i : Int)).f0 = (rd_T108 b (i : Int)).f0
      · simp only [if_pos c0, decide_eq_true c0, Bool.true_and]
        by_cases c1 : (rd_T108 a (i : Int)).f1 = (rd_T108 b (i : Int)).f1
        · simp only [if_pos c1, decide_eq_true c1, Bool.true_and]
          by_cases c2 : (rd_T108 a (i : Int)).f2.toList = (rd_T108 b (i : Int)).f2.toList
          · simp only [if_pos c2, decide_eq_true c2, Bool.true_and]
            refine Ev.bind (specSe_ev _ _ hn) ?_
            by_cases c3 : sameSe (rd_T108 a (i : Int)).f3 (rd_T108 b (i : Int)).f3 = true
            · simp only [if_pos c3]; exact hr
            · simp only [if_neg c3]; exact Ev.now _
          · simp only [if_neg c2, decide_eq_false c2, Bool.false_and, Bool.false_eq_true, if_false]; exact Ev.now _
        · simp only [if_neg c1, decide_eq_false c1, Bool.false_and, Bool.false_eq_true, if_false]; exact Ev.now _
      · simp only [if_neg c0, decide_eq_false c0, Bool.false_and, Bool.false_eq_true, if_false]; exact Ev.now _
    · simp only [spec_SameHistory.l0, if_neg (show ¬ (a.length : Int) < (a.length : Int) by omega)]; exact Ev.now _
  · simp only [if_neg (show ¬ (a.length : Int) = (b.length : Int) by omega), decide_eq_false c, Bool.false_and]; exact Ev.now _
theorem implOne_ev (a b : List VE) (h : smallV a) (i : Nat) (hi : i < a.length) : Ev (fun k => impl_SameHistory_1.f k (rd_T108 a (i : Int)).f0 (rd_T108 a (i : Int)).f1 (rd_T108 a (i : Int)).f2 (rd_T108 a (i : Int)).f3 (rd_T108 b (i : Int)).f0 (rd_T108 b (i : Int)).f1 (rd_T108 b (i : Int)).f2 (rd_T108 b (i : Int)).f3) (okV a b i) := by
  have hn : (rd_T108 a (i : Int)).f3.length < 9223372036854775807 := by rw [rdi_Version a i hi]; exact h.2 _ (List.getElem_mem hi)
  unfold impl_SameHistory_1.f okV
  by_cases c0 : (rd_T108 a (i : Int)).f0 = (rd_T108 b (i : Int)).f0
  · simp only [if_pos c0, decide_eq_true c0, Bool.true_and]
    by_cases c1 : (rd_T108 a (i : Int)).f1 = (rd_T108 b (i : Int)).f1
    · simp only [if_pos c1, decide_eq_true c1, Bool.true_and]
      by_cases c2 : (rd_T108 a (i : Int)).f2.toList = (rd_T108 b (i : Int)).f2.toList
      · simp only [if_pos c2, decide_eq_true c2, Bool.true_and]
        exact Ev.bind (implSe_ev _ _ hn) (Ev.now _)
      · simp only [if_neg c2, decide_eq_false c2, Bool.false_and]; exact Ev.now _
    · simp only [if_neg c1, decide_eq_false c1, Bool.false_and]; exact Ev.now _
  · simp only [if_neg c0, decide_eq_false c0, Bool.false_and]; exact Ev.now _
theorem eqVs_ev (a b : List VE) (h : smallV a) : ∀ d i, i + d = a.length → Ev (fun k => eqVs k a b i d) ((List.range' i d).all (okV a b))
  | 0, i, _ => by simp only [eqVs]; exact Ev.now _
  | d + 1, i, hi => by
    simp only [eqVs]
    refine Ev.bind (implOne_ev a b h i (by omega)) ?_
    rw [List.range'_succ, List.all_cons]
    cases okV a b i
    · simp only [Bool.false_eq_true, if_false, Bool.false_and]; exact Ev.now _
    · simp only [if_true, Bool.true_and]; exact eqVs_ev a b h d (i + 1) (by omega)
theorem implV_ev (a b : List VE) (h : smallV a) : Ev (fun k => impl_SameHistory.f k a b) (sameV a b) := by
  unfold impl_SameHistory.f impl_Version.f sameV
  by_cases c : a.length = b.length
  · simp only [if_pos c, decide_eq_true c, Bool.true_and]
    have h := eqVs_ev a b h a.length 0 (by omega)
    rw [← List.range_eq_range'] at h
    exact Ev.bind h (Ev.now _)
  · simp only [if_neg c, decide_eq_false c, Bool.false_and]
    exact Ev.bind (Ev.now _) (Ev.now _)
end Go.Proofs.Ytnmehknpphoolaa.PFnExactSameHistory
namespace Go.Proofs.Ytnmehknpphoolaa.Pure
open Go.RowKit Go.Proofs.YtnmehknpphoolaaW.PrintWords Go.Proofs.YtnmehknpphoolaaW.PLib Go.Proofs.Ytnmehknpphoolaa.PFnExactSameHistory

theorem FnExactSameHistory : PFnExactSameHistory.Pure := by
  intro xs ys hx hy
  obtain ⟨_, hxl, hxw⟩ := hx
  obtain ⟨_, hyl, hyw⟩ := hy
  have hx2 : ∀ x ∈ xs, x.f3.length * 24 ≤ 140737488351232 := fun x hx => by obtain ⟨_, _, _, h3⟩ := hxw x hx; exact h3.2.1
  have hy2 : ∀ x ∈ ys, x.f3.length * 24 ≤ 140737488351232 := fun x hx => by obtain ⟨_, _, _, h3⟩ := hyw x hx; exact h3.2.1
  have sm : ∀ zs : List S105, zs.length * 56 ≤ 140737488351232 → (∀ x ∈ zs, x.f3.length * 24 ≤ 140737488351232) → smallV (zs.map cvVersion) := fun zs h1 h2 => ⟨by simp; omega, fun y hy => by
    obtain ⟨x, h, rfl⟩ := List.mem_map.1 hy
    have := h2 x h
    simp only [cvVersion, List.length_map]
    omega⟩
  have sx := sm xs hxl hx2
  have sy := sm ys hyl hy2
  obtain ⟨r, hz⟩ := szVersion_ev xs 1048576 (by omega) (fun x hx => by have := hx2 x hx; omega)
  obtain ⟨r2, hz2⟩ := szVersion_ev ys r (by omega) (fun x hx => by have := hy2 x hx; omega)
  have tx := toVersion_ev xs hxl hx2
  have ty := toVersion_ev ys hyl hy2
  refine Ev.get ?_
  unfold laws_FnExactSameHistory.f
  refine Ev.bind hz ?_
  by_cases c : r < 0
  · simp only [if_pos c]; exact Ev.now _
  simp only [if_neg c]
  refine Ev.bind hz2 ?_
  by_cases c2 : r2 < 0
  · simp only [if_pos c2]; exact Ev.now _
  simp only [if_neg c2]
  refine Ev.bind tx (Ev.bind ty (Ev.bind (specV_ev _ _ sx) (Ev.bind tx (Ev.bind ty (Ev.bind (implV_ev _ _ sx) ?_)))))
  simp only [bne_self_eq_false, Bool.false_eq_true, if_false]
  refine Ev.bind tx (Ev.bind (eqVersion_ev _ sx.1 sx.2) ?_)
  simp only [if_true]
  refine Ev.bind ty (Ev.bind (eqVersion_ev _ sy.1 sy.2) ?_)
  simp only [if_true]; exact Ev.now _
end Go.Proofs.Ytnmehknpphoolaa.Pure

