/- The law FnExactUndoOrders, in numbers and lists alone: the program's UndoOrders and the reference's give one answer, the orders stay as they were, and what is handed back is new. No condition. -/
import Derived.Test.YtiioinedejdfcaaQFnExactUndoOrders
import Derived.Test.YtiioinedejdfcaaPLib
set_option linter.unusedVariables false
set_option linter.unusedSimpArgs false
namespace Go.Proofs.Ytiioinedejdfcaa.PFnExactUndoOrders
open Go.RowKit Go.Proofs.YtiioinedejdfcaaW.PrintWords Go.Proofs.YtiioinedejdfcaaW.PLib

theorem l00In_eq (a b c : Int) : spec_l00In.f a b c = some (decide (b ≤ a) && decide (a ≤ c)) := by
  unfold spec_l00In.f; by_cases h : a ≥ b
  · rw [if_pos h]; simp [show b ≤ a from h]
  · rw [if_neg h]; simp [show ¬ b ≤ a from h]

theorem rd_at (xs : List Int) (i : Nat) (h : i < xs.length) : rd xs (i : Int) = xs[i] := by unfold rd; exact getD_cast xs i h _
theorem eqInts_ev (xs : List Int) (hl : xs.length < 9223372036854775807) : Ev (fun k => laws_eqInt64S.f k xs xs) true := by
  unfold laws_eqInt64S.f
  simp only [if_true]
  have := all_ev (fun k i => laws_eqInt64S.l0 k xs xs i) xs.length true (fun _ => true) (fun i hi => ⟨0, fun k _ => ?_⟩) ⟨0, fun k _ => ?_⟩
  · rw [allB_const] at this; exact this
  · simp only [laws_eqInt64S.l0]
    rw [if_pos (by omega), if_pos (by omega), if_pos (by omega)]
    simp only [if_true, w64s (show i < 9223372036854775807 by omega)]
  · simp only [laws_eqInt64S.l0]
    rw [if_neg (by omega)]

theorem toInts_ev (xs : List Int) (hl : xs.length * 8 ≤ 140737488351232) : Ev (fun k => laws_toInt64S.f k xs) xs := by
  refine ⟨xs.length + 1, fun k hk => ?_⟩
  simp only [laws_toInt64S.f]
  rw [if_pos (by omega), if_pos (by omega)]
  have h := to_loop (fun k ys i => laws_toInt64S.l0 k xs ys i) xs id (fun k ys i h hy => ?_) (fun k ys hy => ?_) (List.replicate ((xs.length : Int) : Int).toNat 0) (by simp) k (by omega)
  · rw [List.map_id] at h; exact h
  · simp only [laws_toInt64S.l0]
    rw [if_pos (by omega), if_pos (by omega), if_pos (by omega), w64s (by omega), rd_at xs i h]
    rfl
  · simp only [laws_toInt64S.l0]
    rw [if_neg (by omega)]

/-- What a list reads behind its marking, i of its numbers being marked. -/
def mk1 (xs : List Int) (i : Nat) : List Int := (List.range i).map (fun j : Nat => (j : Int) + 1) ++ xs.drop i
theorem mk1_len (xs : List Int) (i : Nat) (h : i ≤ xs.length) : (mk1 xs i).length = xs.length := by simp [mk1]; omega
theorem mk1_set (xs : List Int) (i : Nat) (h : i < xs.length) : (mk1 xs i).set i ((i : Int) + 1) = mk1 xs (i + 1) := by
  unfold mk1
  rw [List.set_append_right _ _ (by simp)]
  simp only [List.length_map, List.length_range, Nat.sub_self]
  rw [List.range_succ, List.map_append, List.append_assoc]
  congr 1
  rw [List.drop_eq_getElem_cons h]
  rfl
theorem markInts_ev (xs : List Int) (hl : xs.length < 4611686018427387904) : Ev (fun k => laws_markInt64S.f k xs 1) ((xs.length : Int) + 1, mk1 xs xs.length) := by
  unfold laws_markInt64S.f
  have h := fold_ev (fun k (s : List Int × Int) i => laws_markInt64S.l0 k s.1 s.2 i) xs.length (fun i => (mk1 xs i, (i : Int) + 1)) ((xs.length : Int) + 1, mk1 xs xs.length) (fun i hi => ⟨0, fun k _ => ?_⟩) ⟨0, fun k _ => ?_⟩ 0 (by omega)
  · simpa [mk1] using h
  · simp only [laws_markInt64S.l0, mk1_len xs i (by omega)]
    rw [if_pos (by omega), if_pos (by omega), w64s (by omega)]
    rw [show ((i : Int)).toNat = i from by omega, mk1_set xs i hi, show wrap64 ((i : Int) + 1 + 1) = ((i + 1 : Nat) : Int) + 1 from by rw [w64] <;> omega]
  · simp only [laws_markInt64S.l0, mk1_len xs xs.length (Nat.le_refl _)]
    rw [if_neg (by omega)]
theorem heldInts_ev (xs : List Int) (hl : xs.length < 4611686018427387904) : Ev (fun k => laws_heldInt64S.f k (mk1 xs xs.length) 1) ((xs.length : Int) + 1) := by
  unfold laws_heldInt64S.f
  have e := mk1_len xs xs.length (Nat.le_refl _)
  have h := fold_ev (fun k (s : Int) i => laws_heldInt64S.l0 k (mk1 xs xs.length) s i) xs.length (fun i => (i : Int) + 1) ((xs.length : Int) + 1) (fun i hi => ⟨0, fun k _ => ?_⟩) ⟨0, fun k _ => ?_⟩ 0 (by omega)
  · simpa using h
  · simp only [laws_heldInt64S.l0, e]
    have hr : rd (mk1 xs xs.length) (i : Int) = (i : Int) + 1 := by
      rw [rd_at _ i (by rw [e]; exact hi)]
      simp [mk1, List.getElem_append, hi]
    rw [if_pos (by omega), if_pos (by omega), hr, if_pos rfl, w64s (by omega), show wrap64 ((i : Int) + 1 + 1) = ((i + 1 : Nat) : Int) + 1 from by rw [w64] <;> omega]
  · simp only [laws_heldInt64S.l0, e]
    rw [if_neg (by omega)]

/-! allWithin, as a test of each place -/
def inB (lo hi : Int) (xs : List Int) (i : Nat) : Bool := decide (lo ≤ rd xs (i : Int)) && decide (rd xs (i : Int) ≤ hi)
theorem all_rd (p : Int → Bool) (xs : List Int) : xs.all p = allB (fun i => p (rd xs (i : Int))) xs.length := by
  rw [Bool.eq_iff_iff, allB_true, List.all_eq_true]
  constructor
  · intro h i hi
    rw [rd_at xs i hi]
    exact h _ (List.getElem_mem hi)
  · intro h x hx
    obtain ⟨i, hi, rfl⟩ := List.getElem_of_mem hx
    have := h i hi
    rw [rd_at xs i hi] at this
    exact this
theorem allWithin_eq (xs : List Int) (lo hi : Int) : impl_allWithin.f xs lo hi = some (allB (inB lo hi xs) xs.length) := by
  unfold impl_allWithin.f
  rw [all_rd]
  rfl
theorem inB_at {lo hi : Int} {xs : List Int} (h : allB (inB lo hi xs) xs.length = true) (i : Nat) (hi' : i < xs.length) : lo ≤ rd xs (i : Int) ∧ rd xs (i : Int) ≤ hi := by
  have := allB_true.1 h i hi'
  unfold inB at this
  simpa using this

/-! orders -/
def okO (xs : List Int) (i : Nat) : Bool := !decide (rd xs (i : Int) = 0) && (decide (-8 ≤ rd xs (i : Int)) && decide (rd xs (i : Int) ≤ 8))
def validOrders (xs : List Int) : Bool := allB (okO xs) xs.length && decide ((xs.length : Int) ≤ 24)
theorem specOrders_ev (xs : List Int) (hl : xs.length < 9223372036854775807) : Ev (fun k => spec_l25Orders.f k xs) (validOrders xs) := by
  unfold spec_l25Orders.f validOrders
  refine all_ev (fun k i => spec_l25Orders.l0 k xs i) xs.length _ (okO xs) (fun i hi => ⟨0, fun k _ => ?_⟩) ⟨0, fun k _ => ?_⟩
  · simp only [spec_l25Orders.l0, if_pos (show (i : Int) < (xs.length : Int) by omega), if_pos (show 0 ≤ (i : Int) by omega), l00In_eq, Option.bind_some, w64s (show i < 9223372036854775807 by omega)]
    by_cases c1 : rd xs (i : Int) = 0
    · rw [if_pos c1, if_neg (by unfold okO; rw [decide_eq_true c1]; simp)]
    · rw [if_neg c1]
      by_cases c2 : (decide (-8 ≤ rd xs (i : Int)) && decide (rd xs (i : Int) ≤ 8)) = true
      · rw [if_pos c2, if_pos (by unfold okO; rw [decide_eq_false c1, c2]; rfl)]
      · rw [if_neg c2, if_neg (by unfold okO; rw [decide_eq_false c1]; simp only [Bool.not_eq_true] at c2; rw [c2]; simp)]
  · simp only [spec_l25Orders.l0, if_neg (show ¬ (xs.length : Int) < (xs.length : Int) by omega)]
/-- The first place, from 0 on, where a stands. -/
def noneOf (xs : List Int) (a : Int) : Bool := allB (fun i => !decide (a = rd xs (i : Int))) xs.length
theorem contains_ev (xs : List Int) (a : Int) (hl : xs.length < 9223372036854775807) : Ev (fun k => slices_Contains_int64_int64.f k xs a) (!(noneOf xs a)) := by
  unfold slices_Contains_int64_int64.f slices_Index_int64_int64.f
  have key := inv_evE (fun k (s : Unit) i => slices_Index_int64_int64.l0 k xs a (xs.length : Int) i) xs.length (fun i _ => ∀ j, j < i → ¬ a = rd xs (j : Int)) (fun r => decide (r ≥ 0) = !(noneOf xs a)) (fun i s hi h => ?_) (fun s h => ?_) xs.length 0 () (by omega) (fun j hj => absurd hj (Nat.not_lt_zero _))
  · obtain ⟨r, hp, h⟩ := key
    refine Ev.bind h ?_
    rw [← hp]
    exact Ev.now _
  · by_cases c : a = rd xs (i : Int)
    · refine .inl ⟨(i : Int), ?_, Ev.succ ?_⟩
      · rw [decide_eq_true (show (i : Int) ≥ 0 by omega)]
        have : ¬ noneOf xs a = true := fun h2 => by
          have := allB_true.1 h2 i hi
          simp [← c] at this
        simp only [Bool.not_eq_true] at this
        rw [this]; rfl
      · simp only [slices_Index_int64_int64.l0, if_pos (show (i : Int) < (xs.length : Int) by omega), if_pos (show 0 ≤ (i : Int) by omega), if_pos c]; exact Ev.now _
    · refine .inr ⟨(), fun j hj => ?_, fun r hr => Ev.succ ?_⟩
      · by_cases e : j = i
        · subst e; exact c
        · exact h j (by omega)
      · simp only [slices_Index_int64_int64.l0, if_pos (show (i : Int) < (xs.length : Int) by omega), if_pos (show 0 ≤ (i : Int) by omega), if_neg c, w64s (show i < 9223372036854775807 by omega)]; exact hr
  · refine ⟨-1, ?_, Ev.succ ?_⟩
    · have : noneOf xs a = true := by
        unfold noneOf
        rw [allB_true]
        intro i hi
        rw [decide_eq_false (h i hi)]; rfl
      rw [this]; rfl
    · simp only [slices_Index_int64_int64.l0, if_neg (show ¬ (xs.length : Int) < (xs.length : Int) by omega)]; exact Ev.now _
theorem validOrders_eq (xs : List Int) : validOrders xs = (decide ((xs.length : Int) ≤ 24) && (allB (inB (-8) 8 xs) xs.length && noneOf xs 0)) := by
  unfold validOrders noneOf
  rw [Bool.eq_iff_iff]
  simp only [Bool.and_eq_true, allB_true, okO, inB]
  constructor
  · rintro ⟨h1, h2⟩
    refine ⟨h2, fun i hi => (h1 i hi).2, fun i hi => ?_⟩
    have := (h1 i hi).1
    simp only [Bool.not_eq_true', decide_eq_false_iff_not] at this ⊢
    exact fun e => this e.symm
  · rintro ⟨h1, h2, h3⟩
    refine ⟨fun i hi => ⟨?_, h2 i hi⟩, h1⟩
    have := h3 i hi
    simp only [Bool.not_eq_true', decide_eq_false_iff_not] at this ⊢
    exact fun e => this e.symm
theorem implOrders_ev (xs : List Int) (hl : xs.length < 9223372036854775807) : Ev (fun k => impl_ordersOk.f k xs) (validOrders xs) := by
  unfold impl_ordersOk.f
  rw [validOrders_eq]
  by_cases c : (xs.length : Int) ≤ 24
  · simp only [if_pos c, allWithin_eq, Option.bind_some, decide_eq_true c, Bool.true_and]
    by_cases c2 : allB (inB (-8) 8 xs) xs.length = true
    · simp only [if_pos c2]
      refine Ev.bind (contains_ev xs 0 hl) ?_
      rw [c2, Bool.true_and, Bool.not_not]
      exact Ev.now _
    · simp only [if_neg c2]
      simp only [Bool.not_eq_true] at c2
      rw [c2]
      exact Ev.now _
  · simp only [if_neg c]
    rw [decide_eq_false c]
    exact Ev.now _
theorem validOrders_len {xs : List Int} (h : validOrders xs = true) : xs.length ≤ 24 := by
  unfold validOrders at h
  simp only [Bool.and_eq_true, decide_eq_true_eq] at h
  omega

def neg (x : Int) : Int := wrap64 (-x)
def und (xs : List Int) (i : Nat) : List Int := (List.range i).map fun j => neg (rd xs ((xs.length - 1 - j : Nat) : Int))
theorem und_len (xs : List Int) (i : Nat) : (und xs i).length = i := by simp [und]
def res (xs : List Int) : List Int × Int := if validOrders xs = true then (und xs xs.length, 0) else ([], 7)
theorem res_len (xs : List Int) : (res xs).1.length < 4611686018427387904 := by
  unfold res; split
  · rename_i h; have := validOrders_len h; simp only [und_len]; omega
  · simp
theorem spec_ev (xs : List Int) (hl : xs.length < 9223372036854775807) : Ev (fun k => spec_UndoOrders.f k xs) (res xs) := by
  unfold spec_UndoOrders.f res
  refine Ev.bind (specOrders_ev xs hl) ?_
  by_cases c : validOrders xs = true
  · simp only [if_pos c]
    have hn := validOrders_len c
    rw [w64 (x := (xs.length : Int) - 1) (by omega) (by omega)]
    have h := fold_from (fun k s (i : Int) => spec_UndoOrders.l0 k xs s ((xs.length : Int) - 1 - i)) 0 xs.length (und xs) (und xs xs.length, 0) (Nat.zero_le _) (fun i _ hi r hr => Ev.succ ?_) (Ev.succ ?_)
    · simpa [und] using h
    · have e : (xs.length : Int) - 1 - (i : Int) = ((xs.length - 1 - i : Nat) : Int) := by omega
      have e2 : ((xs.length - 1 - i : Nat) : Int) - 1 = (xs.length : Int) - 1 - ((i + 1 : Nat) : Int) := by omega
      simp only [spec_UndoOrders.l0, e, if_pos (show ((xs.length - 1 - i : Nat) : Int) ≥ 0 by omega), if_pos (show 0 ≤ ((xs.length - 1 - i : Nat) : Int) by omega), if_pos (show ((xs.length - 1 - i : Nat) : Int) < (xs.length : Int) by omega), und_len, if_pos (show i < 17592186044416 by omega), e2, w64 (x := (xs.length : Int) - 1 - ((i + 1 : Nat) : Int)) (by omega) (by omega)]
      have e3 : und xs (i + 1) = und xs i ++ [wrap64 (-(rd xs ((xs.length - 1 - i : Nat) : Int)))] := by
        unfold und
        rw [List.range_succ, List.map_append]
        rfl
      rw [e3] at hr
      exact hr
    · simp only [spec_UndoOrders.l0, if_neg (show ¬ (xs.length : Int) - 1 - (xs.length : Int) ≥ 0 by omega)]; exact Ev.now _
  · simp only [if_neg c]; exact Ev.now _
/-- i places at either end exchanged. -/
def swp (xs : List Int) (i : Nat) : List Int := (List.range xs.length).map fun j => if j < i ∨ xs.length - i ≤ j then rd xs ((xs.length - 1 - j : Nat) : Int) else rd xs (j : Int)
theorem swp_len (xs : List Int) (i : Nat) : (swp xs i).length = xs.length := by simp [swp]
theorem swp_at (xs : List Int) (i j : Nat) (h : j < xs.length) : rd (swp xs i) (j : Int) = if j < i ∨ xs.length - i ≤ j then rd xs ((xs.length - 1 - j : Nat) : Int) else rd xs (j : Int) := by
  rw [rd_at _ j (by rw [swp_len]; exact h)]
  simp [swp]
theorem swp_0 (xs : List Int) : swp xs 0 = xs := by
  apply List.ext_getElem
  · exact swp_len xs 0
  · intro j h1 h2
    have := swp_at xs 0 j h2
    rw [rd_at _ j h1, rd_at _ j h2, if_neg (by omega)] at this
    exact this
theorem swp_set (xs : List Int) (i : Nat) (h : i < xs.length / 2) : ((swp xs i).set i (rd (swp xs i) ((xs.length - 1 - i : Nat) : Int))).set (xs.length - 1 - i) (rd (swp xs i) (i : Int)) = swp xs (i + 1) := by
  rw [swp_at xs i i (by omega), swp_at xs i (xs.length - 1 - i) (by omega), if_neg (by omega), if_neg (by omega)]
  apply List.ext_getElem
  · simp [swp_len]
  · intro j h1 h2
    have hj : j < xs.length := by rw [swp_len] at h2; exact h2
    have e2 := swp_at xs (i + 1) j hj
    rw [rd_at _ j h2] at e2
    rw [e2]
    by_cases a : j = xs.length - 1 - i
    · subst a
      rw [List.getElem_set_self, if_pos (by omega)]
      congr 2
      omega
    · rw [List.getElem_set_ne (by omega)]
      by_cases b : j = i
      · subst b
        rw [List.getElem_set_self, if_pos (by omega)]
      · rw [List.getElem_set_ne (by omega)]
        have e1 := swp_at xs i j hj
        rw [rd_at _ j (by rw [swp_len]; exact hj)] at e1
        rw [e1]
        by_cases d : j < i ∨ xs.length - i ≤ j
        · rw [if_pos d, if_pos (by omega)]
        · rw [if_neg d, if_neg (by omega)]
theorem reverse_ev (xs : List Int) (hl : xs.length ≤ 1000) : Ev (fun k => slices_Reverse_int64_int64.f k xs) (swp xs (xs.length / 2)) := by
  unfold slices_Reverse_int64_int64.f
  rw [w64 (x := (xs.length : Int) - 1) (by omega) (by omega)]
  have h := fold_from (fun k s (i : Int) => slices_Reverse_int64_int64.l0 k s i ((xs.length : Int) - 1 - i)) 0 (xs.length / 2) (swp xs) (swp xs (xs.length / 2)) (Nat.zero_le _) (fun i _ hi r hr => Ev.succ ?_) (Ev.succ ?_)
  · simpa [swp_0] using h
  · have e : (xs.length : Int) - 1 - (i : Int) = ((xs.length - 1 - i : Nat) : Int) := by omega
    have e2 : ((xs.length - 1 - i : Nat) : Int) - 1 = (xs.length : Int) - 1 - ((i + 1 : Nat) : Int) := by omega
    have hs := swp_set xs i hi
    simp only [slices_Reverse_int64_int64.l0, e, swp_len, if_pos (show (i : Int) < ((xs.length - 1 - i : Nat) : Int) by omega), if_pos (show 0 ≤ ((xs.length - 1 - i : Nat) : Int) by omega), if_pos (show ((xs.length - 1 - i : Nat) : Int) < (xs.length : Int) by omega), if_pos (show 0 ≤ (i : Int) by omega), if_pos (show (i : Int) < (xs.length : Int) by omega),
      Int.toNat_natCast, hs, e2, w64 (x := (xs.length : Int) - 1 - ((i + 1 : Nat) : Int)) (by omega) (by omega), w64s (show i < 9223372036854775807 by omega)]
    exact hr
  · simp only [slices_Reverse_int64_int64.l0, if_neg (show ¬ ((xs.length / 2 : Nat) : Int) < (xs.length : Int) - 1 - ((xs.length / 2 : Nat) : Int) by omega)]; exact Ev.now _
def ngd (ys : List Int) (i : Nat) : List Int := (List.range ys.length).map fun j => if j < i then neg (rd ys (j : Int)) else rd ys (j : Int)
theorem ngd_len (ys : List Int) (i : Nat) : (ngd ys i).length = ys.length := by simp [ngd]
theorem ngd_at (ys : List Int) (i j : Nat) (h : j < ys.length) : rd (ngd ys i) (j : Int) = if j < i then neg (rd ys (j : Int)) else rd ys (j : Int) := by
  rw [rd_at _ j (by rw [ngd_len]; exact h)]
  simp [ngd]
theorem ngd_0 (ys : List Int) : ngd ys 0 = ys := by
  apply List.ext_getElem
  · exact ngd_len ys 0
  · intro j h1 h2
    have := ngd_at ys 0 j h2
    rw [rd_at _ j h1, rd_at _ j h2, if_neg (by omega)] at this
    exact this
theorem ngd_set (ys : List Int) (i : Nat) (h : i < ys.length) : (ngd ys i).set i (wrap64 (-(rd (ngd ys i) (i : Int)))) = ngd ys (i + 1) := by
  rw [ngd_at ys i i h, if_neg (by omega)]
  apply List.ext_getElem
  · simp [ngd_len]
  · intro j h1 h2
    have hj : j < ys.length := by rw [ngd_len] at h2; exact h2
    have e2 := ngd_at ys (i + 1) j hj
    rw [rd_at _ j h2] at e2
    rw [e2]
    by_cases b : j = i
    · subst b
      rw [List.getElem_set_self, if_pos (by omega)]; rfl
    · rw [List.getElem_set_ne (by omega)]
      have e1 := ngd_at ys i j hj
      rw [rd_at _ j (by rw [ngd_len]; exact hj)] at e1
      rw [e1]
      by_cases d : j < i
      · rw [if_pos d, if_pos (by omega)]
      · rw [if_neg d, if_neg (by omega)]
theorem neg_ev (ys : List Int) (hl : ys.length < 9223372036854775807) : Ev (fun k => impl_UndoOrders.l0 k ys (ys.length : Int) 0) (ngd ys ys.length, 0) := by
  have h := fold_from (fun k s (i : Int) => impl_UndoOrders.l0 k s (ys.length : Int) i) 0 ys.length (ngd ys) (ngd ys ys.length, 0) (Nat.zero_le _) (fun i _ hi r hr => Ev.succ ?_) (Ev.succ ?_)
  · simpa [ngd_0] using h
  · have hs := ngd_set ys i hi
    simp only [impl_UndoOrders.l0, ngd_len, if_pos (show (i : Int) < (ys.length : Int) by omega), if_pos (show 0 ≤ (i : Int) by omega), Int.toNat_natCast, hs, w64s (show i < 9223372036854775807 by omega)]
    exact hr
  · simp only [impl_UndoOrders.l0, if_neg (show ¬ (ys.length : Int) < (ys.length : Int) by omega)]; exact Ev.now _
theorem same (xs : List Int) : ngd (swp xs (xs.length / 2)) xs.length = und xs xs.length := by
  apply List.ext_getElem
  · rw [ngd_len, swp_len, und_len]
  · intro j h1 h2
    have hj : j < xs.length := by rw [und_len] at h2; exact h2
    have e := ngd_at (swp xs (xs.length / 2)) xs.length j (by rw [swp_len]; exact hj)
    rw [rd_at _ j h1, if_pos hj, swp_at xs _ j hj] at e
    rw [e]
    have e2 : (und xs xs.length)[j] = neg (rd xs ((xs.length - 1 - j : Nat) : Int)) := by simp [und]
    rw [e2]
    by_cases d : j < xs.length / 2 ∨ xs.length - xs.length / 2 ≤ j
    · rw [if_pos d]
    · rw [if_neg d, show xs.length - 1 - j = j by omega]
theorem impl_ev (xs : List Int) (hl : xs.length < 9223372036854775807) : Ev (fun k => impl_UndoOrders.f k xs) (res xs) := by
  unfold impl_UndoOrders.f res slices_Clone_int64_int64.f
  refine Ev.bind (implOrders_ev xs hl) ?_
  by_cases c : validOrders xs = true
  · have hn := validOrders_len c
    simp only [if_pos c, if_pos (show xs.length ≤ 17592186044416 by omega), Option.bind_some]
    refine Ev.bind (reverse_ev xs (by omega)) ?_
    have h := neg_ev (swp xs (xs.length / 2)) (by rw [swp_len]; omega)
    rw [swp_len] at h
    rw [← same xs]
    exact h
  · simp only [if_neg c]; exact Ev.now _
end Go.Proofs.Ytiioinedejdfcaa.PFnExactUndoOrders
namespace Go.Proofs.Ytiioinedejdfcaa.Pure
open Go.RowKit Go.Proofs.YtiioinedejdfcaaW.PrintWords Go.Proofs.YtiioinedejdfcaaW.PLib Go.Proofs.Ytiioinedejdfcaa.PFnExactUndoOrders

theorem FnExactUndoOrders : PFnExactUndoOrders.Pure := by
  intro xs hx
  obtain ⟨_, hl, _⟩ := hx
  have hs : xs.length < 9223372036854775807 := by omega
  have hr := res_len xs
  refine Ev.get ?_
  unfold laws_FnExactUndoOrders.f
  by_cases cp : (xs.length : Int) > 1048576
  · simp only [if_pos cp]; exact Ev.now _
  simp only [if_neg cp]
  refine Ev.bind (toInts_ev xs hl) (Ev.bind (spec_ev _ hs) (Ev.bind (toInts_ev xs hl) (Ev.bind (impl_ev _ hs) (Ev.bind (eqInts_ev _ (by omega)) ?_))))
  simp only [if_true, bne_self_eq_false]
  refine Ev.succ ?_
  simp only [laws_FnExactUndoOrders.j0, Bool.false_eq_true, if_false]
  refine Ev.bind (toInts_ev xs hl) (Ev.bind (eqInts_ev _ hs) ?_)
  simp only [if_true]
  refine Ev.bind (markInts_ev xs (by omega)) ?_
  simp only [if_neg (show ¬ (xs.length : Int) + 1 < 0 by omega)]
  refine Ev.bind (eqInts_ev _ (by omega)) ?_
  simp only [if_true, bne_self_eq_false]
  refine Ev.succ ?_
  simp only [laws_FnExactUndoOrders.j1, Bool.false_eq_true, if_false]
  refine Ev.bind (markInts_ev _ hr) (Ev.bind (heldInts_ev _ hr) ?_)
  simp only [if_neg (show ¬ ((res xs).1.length : Int) + 1 < 0 by omega), if_true]
  refine Ev.bind (toInts_ev xs hl) (Ev.bind (impl_ev _ hs) (Ev.bind (eqInts_ev _ (by omega)) ?_))
  simp only [if_true, bne_self_eq_false]
  refine Ev.succ ?_
  simp only [laws_FnExactUndoOrders.j2, Bool.false_eq_true, if_false]
  refine Ev.bind (heldInts_ev _ hr) ?_
  simp only [if_neg (show ¬ ((res xs).1.length : Int) + 1 < 0 by omega), if_true]
  exact Ev.now _
end Go.Proofs.Ytiioinedejdfcaa.Pure

