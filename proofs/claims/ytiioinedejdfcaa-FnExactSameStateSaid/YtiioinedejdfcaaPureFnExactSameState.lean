/- The law FnExactSameState, in numbers and lists alone: the program's SameState and the reference's give one answer, and the states stay as they were. No condition. -/
import Derived.Test.YtiioinedejdfcaaQFnExactSameState
import Derived.Test.YtiioinedejdfcaaPLib
set_option linter.unusedVariables false
set_option linter.unusedSimpArgs false
namespace Go.Proofs.Ytiioinedejdfcaa.PFnExactSameState
open Go.RowKit Go.Proofs.YtiioinedejdfcaaW.PrintWords Go.Proofs.YtiioinedejdfcaaW.PLib

/-! Setting -/
theorem rdl_Setting (xs : List S116) (i : Nat) (h : i < xs.length) : rd_T116 xs (i : Int) = xs[i] := by unfold rd_T116; exact getD_cast xs i h _
theorem rdi_Setting (xs : List S117) (i : Nat) (h : i < xs.length) : rd_T117 xs (i : Int) = xs[i] := by unfold rd_T117; exact getD_cast xs i h _
theorem rd1_Setting (x : S117) : rd_T117 [x] 0 = x := rfl
def cvSetting (x : S116) : S117 := ⟨x.f0, x.f1⟩
theorem toSetting_ev (xs : List S116) (hl : xs.length * 24 ≤ 140737488351232) : Ev (fun k => laws_toSettingS.f k xs) (xs.map cvSetting) := by
  refine ⟨xs.length + 1, fun k hk => ?_⟩
  simp only [laws_toSettingS.f]
  rw [if_pos (by omega), if_pos (by omega)]
  refine to_loop (fun k ys i => laws_toSettingS.l0 k xs ys i) xs cvSetting (fun k ys i h hy => ?_) (fun k ys hy => ?_) _ (by simp) k (by omega)
  · simp only [laws_toSettingS.l0]
    rw [if_pos (by omega), if_pos (by omega)]
    simp only [laws_toSetting.f, Option.bind_some, rdl_Setting xs i h]
    rw [if_pos (by omega), w64s (by omega)]
    rfl
  · simp only [laws_toSettingS.l0]
    rw [if_neg (by omega)]
theorem eqSetting_ev (xs : List S117) (hl : xs.length < 9223372036854775807) : Ev (fun k => laws_eqSettingS.f k xs xs) true := by
  unfold laws_eqSettingS.f
  simp only [if_true]
  have := all_ev (fun k i => laws_eqSettingS.l0 k xs xs i) xs.length true (fun _ => true) (fun i hi => ⟨0, fun k _ => ?_⟩) ⟨0, fun k _ => ?_⟩
  · rw [allB_const] at this; exact this
  · simp only [laws_eqSettingS.l0]
    rw [if_pos (by omega), if_pos (by omega), if_pos (by omega)]
    simp only [laws_eqSetting.f, if_true, Option.bind_some, w64s (show i < 9223372036854775807 by omega)]
  · simp only [laws_eqSettingS.l0]
    rw [if_neg (by omega)]
theorem szSetting_ev (xs : List S116) (a : Int) (hl : xs.length < 9223372036854775807) : ∃ r, Ev (fun k => laws_szSettingS.f k xs a) r := by
  unfold laws_szSettingS.f
  by_cases c : wrap64 (a - (xs.length : Int)) < 0
  · exact ⟨-1, by simp only [if_pos c]; exact Ev.now _⟩
  · simp only [if_neg c]
    refine tot_ev (fun k s i => laws_szSettingS.l0 k xs s i) xs.length (fun i s hi => ?_) (fun s => ⟨s, 0, fun k _ => ?_⟩) xs.length 0 _ (by omega)
    · obtain ⟨t, ht⟩ : ∃ t, laws_szSetting.f ((rd_T116 xs i).f0) ((rd_T116 xs i).f1) s = some t := by
        unfold laws_szSetting.f
        repeat' split
        all_goals exact ⟨_, rfl⟩
      by_cases c2 : t < 0
      · refine .inl ⟨-1, 0, fun k _ => ?_⟩
        simp only [laws_szSettingS.l0]
        rw [if_pos (by omega), if_pos (by omega), ht]
        simp only [Option.bind_some]
        rw [if_pos c2]
      · refine .inr ⟨t, 0, fun k _ => ?_⟩
        simp only [laws_szSettingS.l0]
        rw [if_pos (by omega), if_pos (by omega), ht]
        simp only [Option.bind_some]
        rw [if_neg c2, w64s (by omega)]
    · simp only [laws_szSettingS.l0]
      rw [if_neg (by omega)]

abbrev E := S117
def sameB (a b : List E) (i : Nat) : Bool := !(!((rd_T117 a i).f0.toList == (rd_T117 b i).f0.toList) || (!((rd_T117 a i).f1 == (rd_T117 b i).f1)))
def same (a b : List E) : Bool := decide (a.length = b.length) && (allB (sameB a b) a.length && true)
theorem spec_ev (a b : List E) (hl : a.length < 9223372036854775807) : Ev (fun k => spec_SameState.f k a b) (same a b) := by
  unfold spec_SameState.f spec_l27Same.f same
  refine Ev.bind ?_ (Ev.now _)
  by_cases c : (a.length : Int) = b.length
  · simp only [if_pos c]
    rw [decide_eq_true (show a.length = b.length by omega), Bool.true_and]
    refine all_ev (fun k i => spec_l27Same.l0 k a b i) a.length true (sameB a b) (fun i hi => ⟨0, fun k _ => ?_⟩) ⟨0, fun k _ => ?_⟩
    · simp only [spec_l27Same.l0]
      rw [if_pos (by omega), if_pos (by omega), if_pos (by omega), w64s (by omega)]
      unfold sameB
      cases (!((rd_T117 a i).f0.toList == (rd_T117 b i).f0.toList) || (!((rd_T117 a i).f1 == (rd_T117 b i).f1))) <;> simp
    · simp only [spec_l27Same.l0]
      rw [if_neg (by omega)]
  · simp only [if_neg c]
    rw [decide_eq_false (show ¬ a.length = b.length by omega), Bool.false_and]; exact Ev.now _
theorem impl_ev (a b : List E) (hl : a.length < 9223372036854775807) : Ev (fun k => impl_SameState.f k a b) (same a b) := by
  unfold impl_SameState.f impl_Setting.f same
  refine Ev.bind ?_ (Ev.now _)
  by_cases c : (a.length : Int) = b.length
  · simp only [if_pos c]
    rw [decide_eq_true (show a.length = b.length by omega), Bool.true_and]
    refine all_ev (fun k i => impl_Setting.l0 k a b (a.length : Int) i) a.length true (sameB a b) (fun i hi => ⟨0, fun k _ => ?_⟩) ⟨0, fun k _ => ?_⟩
    · simp only [impl_Setting.l0]
      rw [if_pos (by omega), if_pos (by omega), if_pos (by omega), if_pos (by omega), w64s (by omega)]
      unfold sameB
      cases (!((rd_T117 a i).f0.toList == (rd_T117 b i).f0.toList) || (!((rd_T117 a i).f1 == (rd_T117 b i).f1))) <;> simp
    · simp only [impl_Setting.l0]
      rw [if_neg (by omega)]
  · simp only [if_neg c]
    rw [decide_eq_false (show ¬ a.length = b.length by omega), Bool.false_and]; exact Ev.now _
end Go.Proofs.Ytiioinedejdfcaa.PFnExactSameState
namespace Go.Proofs.Ytiioinedejdfcaa.Pure
open Go.RowKit Go.Proofs.YtiioinedejdfcaaW.PrintWords Go.Proofs.YtiioinedejdfcaaW.PLib Go.Proofs.Ytiioinedejdfcaa.PFnExactSameState

theorem FnExactSameState : PFnExactSameState.Pure := by
  intro xs ys hx hy
  obtain ⟨_, hl, hw⟩ := hx
  obtain ⟨_, hm, hv⟩ := hy
  obtain ⟨r, hr⟩ := szSetting_ev xs 1048576 (by omega)
  obtain ⟨q, hq⟩ := szSetting_ev ys r (by omega)
  have h1 : (xs.map cvSetting).length < 9223372036854775807 := by simp; omega
  have h2 : (ys.map cvSetting).length < 9223372036854775807 := by simp; omega
  refine Ev.get ?_
  unfold laws_FnExactSameState.f
  refine Ev.bind hr ?_
  by_cases c : r < 0
  · simp only [if_pos c]; exact Ev.now _
  simp only [if_neg c]
  refine Ev.bind hq ?_
  by_cases c : q < 0
  · simp only [if_pos c]; exact Ev.now _
  simp only [if_neg c]
  refine Ev.bind (toSetting_ev xs hl) (Ev.bind (toSetting_ev ys hm) (Ev.bind (spec_ev _ _ h1) (Ev.bind (toSetting_ev xs hl) (Ev.bind (toSetting_ev ys hm) (Ev.bind (impl_ev _ _ h1) ?_)))))
  simp only [bne_self_eq_false, Bool.false_eq_true, if_false]
  refine Ev.bind (toSetting_ev xs hl) (Ev.bind (eqSetting_ev _ h1) ?_)
  simp only [if_true]
  refine Ev.bind (toSetting_ev ys hm) (Ev.bind (eqSetting_ev _ h2) ?_)
  simp only [if_true]; exact Ev.now _
end Go.Proofs.Ytiioinedejdfcaa.Pure

