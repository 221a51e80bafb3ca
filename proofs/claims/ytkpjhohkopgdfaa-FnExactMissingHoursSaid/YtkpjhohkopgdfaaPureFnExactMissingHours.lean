/- The law FnExactMissingHours, in numbers and lists alone: the program's MissingHours and the reference's give one answer, the readings stay as they were, and what is handed back is new. No condition. -/
import Derived.Test.YtkpjhohkopgdfaaQFnExactMissingHours
import Derived.Test.YtkpjhohkopgdfaaPLib
set_option linter.unusedVariables false
set_option linter.unusedSimpArgs false
namespace Go.Proofs.Ytkpjhohkopgdfaa.PFnExactMissingHours
open Go.RowKit Go.Proofs.YtkpjhohkopgdfaaW.PrintWords Go.Proofs.YtkpjhohkopgdfaaW.PLib

theorem l00In_eq (a b c : Int) : spec_l00In.f a b c = some (decide (b ≤ a) && decide (a ≤ c)) := by
  unfold spec_l00In.f; by_cases h : a ≥ b
  · rw [if_pos h]; simp [show b ≤ a from h]
  · rw [if_neg h]; simp [show ¬ b ≤ a from h]

theorem within_eq (a b c : Int) : impl_within.f a b c = some (decide (b ≤ a) && decide (a ≤ c)) := by
  unfold impl_within.f; by_cases h : a ≥ b
  · rw [if_pos h]; simp [show b ≤ a from h]
  · rw [if_neg h]; simp [show ¬ b ≤ a from h]

/-! Reading -/
theorem rdl_Reading (xs : List S115) (i : Nat) (h : i < xs.length) : rd_T115 xs (i : Int) = xs[i] := by unfold rd_T115; exact getD_cast xs i h _
theorem rdi_Reading (xs : List S113) (i : Nat) (h : i < xs.length) : rd_T113 xs (i : Int) = xs[i] := by unfold rd_T113; exact getD_cast xs i h _
theorem rd1_Reading (x : S113) : rd_T113 [x] 0 = x := rfl
def cvReading (x : S115) : S113 := ⟨x.f0, x.f1⟩
theorem toReading_ev (xs : List S115) (hl : xs.length * 16 ≤ 140737488351232) : Ev (fun k => laws_toReadingS.f k xs) (xs.map cvReading) := by
  refine ⟨xs.length + 1, fun k hk => ?_⟩
  simp only [laws_toReadingS.f]
  rw [if_pos (by omega), if_pos (by omega)]
  refine to_loop (fun k ys i => laws_toReadingS.l0 k xs ys i) xs cvReading (fun k ys i h hy => ?_) (fun k ys hy => ?_) _ (by simp) k (by omega)
  · simp only [laws_toReadingS.l0]
    rw [if_pos (by omega), if_pos (by omega)]
    simp only [laws_toReading.f, Option.bind_some, rdl_Reading xs i h]
    rw [if_pos (by omega), w64s (by omega)]
    rfl
  · simp only [laws_toReadingS.l0]
    rw [if_neg (by omega)]
theorem eqReading_ev (xs : List S113) (hl : xs.length < 9223372036854775807) : Ev (fun k => laws_eqReadingS.f k xs xs) true := by
  unfold laws_eqReadingS.f
  simp only [if_true]
  have := all_ev (fun k i => laws_eqReadingS.l0 k xs xs i) xs.length true (fun _ => true) (fun i hi => ⟨0, fun k _ => ?_⟩) ⟨0, fun k _ => ?_⟩
  · rw [allB_const] at this; exact this
  · simp only [laws_eqReadingS.l0]
    rw [if_pos (by omega), if_pos (by omega), if_pos (by omega)]
    simp only [laws_eqReading.f, if_true, bne_self_eq_false, Bool.false_eq_true, if_false, Option.bind_some, w64s (show i < 9223372036854775807 by omega)]
  · simp only [laws_eqReadingS.l0]
    rw [if_neg (by omega)]
theorem szReading_ev (xs : List S115) (a : Int) (hl : xs.length < 9223372036854775807) : ∃ r, laws_szReadingS.f xs a = some r := by
  unfold laws_szReadingS.f
  split
  all_goals exact ⟨_, rfl⟩

/-! valid lists of Reading -/
def oneReading (x : S113) : Bool := (decide (0 ≤ x.f0) && decide (x.f0 ≤ 100000)) && (decide (0 ≤ x.f1) && decide (x.f1 ≤ 1000000000))
def adjReading (p x : S113) : Bool := decide (p.f0 < x.f0) && decide (p.f1 ≤ x.f1)
def okReading (xs : List S113) (i : Nat) : Bool := if h : i < xs.length then oneReading xs[i] && (decide (i = 0) || adjReading xs[i - 1] xs[i]) else false
def validReading (xs : List S113) : Bool := allB (okReading xs) xs.length && decide ((xs.length : Int) ≤ 48)
def smReading (x : S113) : Prop := True
def smallReading (xs : List S113) : Prop := xs.length < 9223372036854775807 ∧ ∀ x ∈ xs, smReading x
theorem specOneReading_ev (x : S113) (h : smReading x) : Ev (fun k => spec_l06One.f [x]) (oneReading x) := by
  refine Ev.all fun k => ?_
  unfold spec_l06One.f oneReading
  rw [if_pos (by simp)]
  simp only [rd1_Reading, Option.bind_some, l00In_eq, spec_l06Counter.f, ifs, ifn]
theorem implOneReading_ev (x : S113) (h : smReading x) : Ev (fun k => impl_Reading_valid.f x.f0 x.f1) (oneReading x) := by
  refine Ev.all fun k => ?_
  unfold impl_Reading_valid.f oneReading
  simp only [Option.bind_some, within_eq, spec_l06Counter.f, ifs, ifn]
theorem specReadingS_ev (xs : List S113) (h : smallReading xs) : Ev (fun k => spec_l06Ok.f k xs) (validReading xs) := by
  obtain ⟨hl, hx⟩ := h
  unfold spec_l06Ok.f validReading
  refine all_ev (fun k i => spec_l06Ok.l0 k xs i) xs.length _ (okReading xs) (fun i hi => ?_) ⟨0, fun k _ => ?_⟩
  · refine Ev.with_ (specOneReading_ev xs[i] (hx _ (List.getElem_mem hi))) fun k e => ?_
    simp only [spec_l06Ok.l0]
    rw [if_pos (by omega), if_pos (by omega), rdi_Reading xs i hi, e, Option.bind_some, w64s (by omega)]
    by_cases c1 : oneReading xs[i] = true
    · rw [if_pos c1]
      by_cases c2 : i = 0
      · rw [if_neg (by omega), if_pos (by unfold okReading; rw [dif_pos hi, c1, decide_eq_true c2]; rfl)]
      · have e1 : wrap64 ((i : Int) - 1) = ((i - 1 : Nat) : Int) := by rw [w64] <;> omega
        rw [if_pos (by omega), e1, if_pos (by omega), if_pos (by omega), rdi_Reading xs (i - 1) (by omega)]
        rw [show okReading xs i = adjReading xs[i - 1] xs[i] from by unfold okReading; rw [dif_pos hi, c1, decide_eq_false c2, Bool.true_and, Bool.false_or]]
        unfold adjReading
        (by_cases c3 : xs[i - 1].f0 < xs[i].f0; (rw [if_neg (by omega)]; by_cases c4 : xs[i - 1].f1 ≤ xs[i].f1; (rw [if_neg (by omega)]; simp [c3, c4]); (rw [if_pos (by omega)]; simp [c4])); (rw [if_pos (by omega)]; simp [c3]))
    · rw [if_neg c1, if_neg (by unfold okReading; simp only [Bool.not_eq_true] at c1; rw [dif_pos hi, c1]; simp)]
  · simp only [spec_l06Ok.l0]
    rw [if_neg (by omega)]
theorem implReadingS_ev (xs : List S113) (h : smallReading xs) : Ev (fun k => impl_ValidReadings.f k xs) (validReading xs) := by
  obtain ⟨hl, hx⟩ := h
  unfold impl_ValidReadings.f validReading
  by_cases c : (xs.length : Int) > 48
  · simp only [if_pos c]
    rw [decide_eq_false (show ¬ (xs.length : Int) ≤ 48 by omega), Bool.and_false]; exact Ev.now _
  simp only [if_neg c]
  rw [decide_eq_true (show (xs.length : Int) ≤ 48 by omega)]
  refine all_ev (fun k i => impl_ValidReadings.l0 k xs xs (xs.length : Int) i) xs.length true (okReading xs) (fun i hi => ?_) ⟨0, fun k _ => ?_⟩
  · refine Ev.with_ (implOneReading_ev xs[i] (hx _ (List.getElem_mem hi))) fun k e => ?_
    simp only [impl_ValidReadings.l0]
    rw [if_pos (by omega), if_pos (by omega), if_pos (by omega), rdi_Reading xs i hi, e, Option.bind_some, w64s (by omega)]
    by_cases c1 : oneReading xs[i] = true
    · rw [if_pos c1]
      by_cases c2 : i = 0
      · rw [if_neg (by omega), if_pos (by unfold okReading; rw [dif_pos hi, c1, decide_eq_true c2]; rfl)]
      · have e1 : wrap64 ((i : Int) - 1) = ((i - 1 : Nat) : Int) := by rw [w64] <;> omega
        rw [if_pos (by omega), e1, if_pos (by omega), if_pos (by omega), rdi_Reading xs (i - 1) (by omega)]
        rw [show okReading xs i = adjReading xs[i - 1] xs[i] from by unfold okReading; rw [dif_pos hi, c1, decide_eq_false c2, Bool.true_and, Bool.false_or]]
        unfold adjReading
        (by_cases c3 : xs[i - 1].f0 < xs[i].f0; (rw [if_neg (by omega)]; by_cases c4 : xs[i - 1].f1 ≤ xs[i].f1; (rw [if_neg (by omega)]; simp [c3, c4]); (rw [if_pos (by omega)]; simp [c4])); (rw [if_pos (by omega)]; simp [c3]))
    · rw [if_neg c1, if_neg (by unfold okReading; simp only [Bool.not_eq_true] at c1; rw [dif_pos hi, c1]; simp)]
  · simp only [impl_ValidReadings.l0]
    rw [if_neg (by omega)]
theorem validReading_len {xs : List S113} (h : validReading xs = true) : (xs.length : Int) ≤ 48 := by
  unfold validReading at h
  simp only [Bool.and_eq_true, decide_eq_true_eq] at h
  exact h.2
theorem validReading_at {xs : List S113} (h : validReading xs = true) (i : Nat) (hi : i < xs.length) : oneReading xs[i] = true ∧ (0 < i → adjReading xs[i - 1] xs[i] = true) := by
  unfold validReading at h
  simp only [Bool.and_eq_true] at h
  have := allB_true.1 h.1 i hi
  unfold okReading at this
  rw [dif_pos hi] at this
  simp only [Bool.and_eq_true, Bool.or_eq_true, decide_eq_true_eq] at this
  exact ⟨this.1, fun h0 => by rcases this.2 with h1 | h1; omega; exact h1⟩


abbrev RE := S113
theorem reading_diffs (xs : List RE) (h : validReading xs = true) (i : Nat) (h1 : 1 ≤ i) (hi : i < xs.length) :
    1 ≤ xs[i].f0 - xs[i - 1].f0 ∧ xs[i].f0 - xs[i - 1].f0 ≤ 100000 ∧ 0 ≤ xs[i].f1 - xs[i - 1].f1 ∧ xs[i].f1 - xs[i - 1].f1 ≤ 1000000000 := by
  obtain ⟨a, b⟩ := validReading_at h i hi
  obtain ⟨c, _⟩ := validReading_at h (i - 1) (by omega)
  have b := b (by omega)
  unfold oneReading at a c
  unfold adjReading at b
  simp only [Bool.and_eq_true, decide_eq_true_eq] at a b c
  omega

theorem rd_at (xs : List Int) (i : Nat) (h : i < xs.length) : rd xs (i : Int) = xs[i] := by unfold rd; exact getD_cast xs i h _
theorem eqInts_ev (xs : List Int) (hl : xs.length < 9223372036854775807) : Ev (fun k => laws_eqInt64S.f k xs xs) true := by
  unfold laws_eqInt64S.f
  simp only [if_true]
  have := all_ev (fun k i => laws_eqInt64S.l0 k xs xs i) xs.length true (fun _ => true) (fun i hi => ⟨0, fun k _ => ?_⟩) ⟨0, fun k _ => ?_⟩
  · rw [allB_const] at this; exact this
  · simp only [laws_eqInt64S.l0]
    rw [if_pos (by omega), if_pos (by omega), if_pos (by omega)]
    simp only [if_true, w64s (show i < 9223372036854775807 by omega)]
  · simp only [laws_eqInt64S.l0]
    rw [if_neg (by omega)]

/-- What a list reads behind its marking, i of its numbers being marked. -/
def mk1 (xs : List Int) (i : Nat) : List Int := (List.range i).map (fun j : Nat => (j : Int) + 1) ++ xs.drop i
theorem mk1_len (xs : List Int) (i : Nat) (h : i ≤ xs.length) : (mk1 xs i).length = xs.length := by simp [mk1]; omega
theorem mk1_set (xs : List Int) (i : Nat) (h : i < xs.length) : (mk1 xs i).set i ((i : Int) + 1) = mk1 xs (i + 1) := by
  unfold mk1
  rw [List.set_append_right _ _ (by simp)]
  simp only [List.length_map, List.length_range, Nat.sub_self]
  rw [List.range_succ, List.map_append, List.append_assoc]
  congr 1
  rw [List.drop_eq_getElem_cons h]
  rfl
theorem markInts_ev (xs : List Int) (hl : xs.length < 4611686018427387904) : Ev (fun k => laws_markInt64S.f k xs 1) ((xs.length : Int) + 1, mk1 xs xs.length) := by
  unfold laws_markInt64S.f
  have h := fold_ev (fun k (s : List Int × Int) i => laws_markInt64S.l0 k s.1 s.2 i) xs.length (fun i => (mk1 xs i, (i : Int) + 1)) ((xs.length : Int) + 1, mk1 xs xs.length) (fun i hi => ⟨0, fun k _ => ?_⟩) ⟨0, fun k _ => ?_⟩ 0 (by omega)
  · simpa [mk1] using h
  · simp only [laws_markInt64S.l0, mk1_len xs i (by omega)]
    rw [if_pos (by omega), if_pos (by omega), w64s (by omega)]
    rw [show ((i : Int)).toNat = i from by omega, mk1_set xs i hi, show wrap64 ((i : Int) + 1 + 1) = ((i + 1 : Nat) : Int) + 1 from by rw [w64] <;> omega]
  · simp only [laws_markInt64S.l0, mk1_len xs xs.length (Nat.le_refl _)]
    rw [if_neg (by omega)]
theorem heldInts_ev (xs : List Int) (hl : xs.length < 4611686018427387904) : Ev (fun k => laws_heldInt64S.f k (mk1 xs xs.length) 1) ((xs.length : Int) + 1) := by
  unfold laws_heldInt64S.f
  have e := mk1_len xs xs.length (Nat.le_refl _)
  have h := fold_ev (fun k (s : Int) i => laws_heldInt64S.l0 k (mk1 xs xs.length) s i) xs.length (fun i => (i : Int) + 1) ((xs.length : Int) + 1) (fun i hi => ⟨0, fun k _ => ?_⟩) ⟨0, fun k _ => ?_⟩ 0 (by omega)
  · simpa using h
  · simp only [laws_heldInt64S.l0, e]
    have hr : rd (mk1 xs xs.length) (i : Int) = (i : Int) + 1 := by
      rw [rd_at _ i (by rw [e]; exact hi)]
      simp [mk1, List.getElem_append, hi]
    rw [if_pos (by omega), if_pos (by omega), hr, if_pos rfl, w64s (by omega), show wrap64 ((i : Int) + 1 + 1) = ((i + 1 : Nat) : Int) + 1 from by rw [w64] <;> omega]
  · simp only [laws_heldInt64S.l0, e]
    rw [if_neg (by omega)]

/-! the search for an hour -/
abbrev RR := rd_T113
theorem hours_lt (xs : List RE) (h : validReading xs = true) (j : Nat) (hj : j < xs.length) : ∀ i, i < j → (RR xs (i : Int)).f0 < (RR xs (j : Int)).f0 := by
  induction j with
  | zero => intro i hi; exact absurd hi (Nat.not_lt_zero _)
  | succ j ih =>
    have d := reading_diffs xs h (j + 1) (by omega) hj
    have e1 : RR xs ((j + 1 : Nat) : Int) = xs[j + 1] := rdi_Reading xs (j + 1) hj
    have e2 : RR xs (j : Int) = xs[j] := rdi_Reading xs j (by omega)
    have hd : (RR xs (j : Int)).f0 < (RR xs ((j + 1 : Nat) : Int)).f0 := by
      rw [e1, e2]
      simp only [show j + 1 - 1 = j by omega] at d
      omega
    intro i hi
    by_cases e : i = j
    · subst e; exact hd
    · exact Int.lt_trans (ih (by omega) i (by omega)) hd
theorem bs_in (xs : List RE) (a : Int) (h : validReading xs = true) : ∀ d lo hi, hi - lo = d → lo ≤ hi → hi ≤ xs.length → (∀ t, t < lo → (RR xs (t : Int)).f0 < a) → (∀ t, hi ≤ t → t < xs.length → a ≤ (RR xs (t : Int)).f0) →
    bsF xs a lo hi ≤ xs.length ∧ (∀ t, t < bsF xs a lo hi → (RR xs (t : Int)).f0 < a) ∧ (∀ t, bsF xs a lo hi ≤ t → t < xs.length → a ≤ (RR xs (t : Int)).f0) := by
  intro d
  induction d using Nat.strongRecOn with
  | ind d ih =>
    intro lo hi hd hle hn h1 h2
    by_cases c : lo < hi
    · by_cases c2 : (RR xs (((lo + hi) / 2 : Nat) : Int)).f0 < a
      · rw [bsF_lt xs a lo hi c c2]
        refine ih (hi - ((lo + hi) / 2 + 1)) (by omega) _ _ rfl (by omega) hn (fun t ht => ?_) h2
        by_cases e : t = (lo + hi) / 2
        · subst e; exact c2
        · exact Int.lt_trans (hours_lt xs h ((lo + hi) / 2) (by omega) t (by omega)) c2
      · rw [bsF_ge xs a lo hi c c2]
        refine ih ((lo + hi) / 2 - lo) (by omega) _ _ rfl (by omega) (by omega) h1 (fun t ht htn => ?_)
        by_cases e : t = (lo + hi) / 2
        · subst e; exact Int.not_lt.1 c2
        · have := hours_lt xs h t htn ((lo + hi) / 2) (by omega)
          omega
    · have : lo = hi := by omega
      subst this
      rw [bsF_end]
      exact ⟨hn, h1, h2⟩
def pos (xs : List RE) (a : Int) : Nat := bsF xs a 0 xs.length
theorem pos_in (xs : List RE) (a : Int) (h : validReading xs = true) : pos xs a ≤ xs.length ∧ (∀ t, t < pos xs a → (RR xs (t : Int)).f0 < a) ∧ (∀ t, pos xs a ≤ t → t < xs.length → a ≤ (RR xs (t : Int)).f0) :=
  bs_in xs a h _ 0 xs.length rfl (Nat.zero_le _) (Nat.le_refl _) (fun t ht => absurd ht (Nat.not_lt_zero _)) (fun t h1 h2 => by omega)
def found (xs : List RE) (a : Int) : Bool := decide (pos xs a < xs.length) && decide ((RR xs ((pos xs a : Nat) : Int)).f0 = a)
theorem search_eq (xs : List RE) (a : Int) (h : xs.length < 4611686018427387904) : impl_Reading_int64.f xs a = some (((pos xs a : Nat) : Int), found xs a) := by
  unfold impl_Reading_int64.f
  rw [if_pos h]
  rfl

theorem markReadingFrom_ev (xs : List S113) (a : Int) (h0 : 0 ≤ a) (h9 : a ≤ 1152921504606846976) (hl : xs.length < 1152921504606846976 / 2) : ∃ xm, Ev (fun k => laws_markReadingS.f k xs a) (a + 2 * (xs.length : Int), xm) := by
  unfold laws_markReadingS.f
  have key := inv_evE (fun k (s : List S113 × Int) i => laws_markReadingS.l0 k s.1 s.2 i) xs.length (fun i s => s.1.length = xs.length ∧ s.2 = a + 2 * (i : Int)) (fun r => r.1 = a + 2 * (xs.length : Int)) (fun i s hi h => .inr ?_) (fun s h => ?_) xs.length 0 (xs, a) (by omega) ⟨rfl, by simp⟩
  · obtain ⟨⟨r, xm⟩, hp, h⟩ := key
    simp only at hp
    subst hp
    exact ⟨xm, h⟩
  · obtain ⟨ys, n⟩ := s
    obtain ⟨h1, h2⟩ := h
    simp only at h1 h2
    subst h2
    refine ⟨(?ys, a + 2 * ((i + 1 : Nat) : Int)), ⟨?len, rfl⟩, fun r hr => Ev.succ ?step⟩
    case step =>
      simp only [laws_markReadingS.l0, h1, if_pos (show (i : Int) < (xs.length : Int) by omega), if_pos (show 0 ≤ (i : Int) by omega), Option.bind_some, w64s (show i < 9223372036854775807 by omega), show wrap64 (a + 2 * (i : Int) + 1) = a + 2 * (i : Int) + 1 from by rw [w64] <;> omega, show wrap64 (a + 2 * (i : Int) + 1 + 1) = a + 2 * ((i + 1 : Nat) : Int) from by rw [w64] <;> omega]
      exact hr
    case len => simp [h1]
  · obtain ⟨ys, n⟩ := s
    obtain ⟨h1, h2⟩ := h
    simp only at h1 h2
    subst h2
    exact ⟨(_, ys), rfl, Ev.succ (by simp only [laws_markReadingS.l0, h1, if_neg (show ¬ (xs.length : Int) < (xs.length : Int) by omega)]; exact Ev.now _)⟩
theorem markReading_ev (xs : List S113) (hl : xs.length < 1152921504606846976 / 2) : ∃ m xm, 0 ≤ m ∧ Ev (fun k => laws_markReadingS.f k xs 1) (m, xm) := by
  obtain ⟨xm, h⟩ := markReadingFrom_ev xs 1 (by omega) (by omega) hl
  exact ⟨_, xm, by omega, h⟩

def lastH (xs : List RE) : Int := (RR xs ((xs.length - 1 : Nat) : Int)).f0
def mis (xs : List RE) (e : Int) (l : List Int) (h : Int) : List Int × Int :=
  if hh : h ≤ lastH xs ∧ 1 ≤ e then (if found xs h = true then mis xs e l (h + e) else if l.length = 64 then ([], 5) else mis xs e (l ++ [h]) (h + e)) else (l, 0)
termination_by (lastH xs + 1 - h).toNat
decreasing_by all_goals omega
theorem mis_end (xs : List RE) (e : Int) (l : List Int) (h : Int) (c : ¬ h ≤ lastH xs) : mis xs e l h = (l, 0) := by rw [mis, dif_neg (fun x => c x.1)]
theorem mis_found (xs : List RE) (e : Int) (l : List Int) (h : Int) (c : h ≤ lastH xs) (he : 1 ≤ e) (f : found xs h = true) : mis xs e l h = mis xs e l (h + e) := by rw [mis, dif_pos ⟨c, he⟩, if_pos f]
theorem mis_full (xs : List RE) (e : Int) (l : List Int) (h : Int) (c : h ≤ lastH xs) (he : 1 ≤ e) (f : ¬ found xs h = true) (hl : l.length = 64) : mis xs e l h = ([], 5) := by rw [mis, dif_pos ⟨c, he⟩, if_neg f, if_pos hl]
theorem mis_more (xs : List RE) (e : Int) (l : List Int) (h : Int) (c : h ≤ lastH xs) (he : 1 ≤ e) (f : ¬ found xs h = true) (hl : ¬ l.length = 64) : mis xs e l h = mis xs e (l ++ [h]) (h + e) := by rw [mis, dif_pos ⟨c, he⟩, if_neg f, if_neg hl]
theorem last_le (xs : List RE) (hv : validReading xs = true) (h0 : 0 < xs.length) : lastH xs ≤ 100000 := by
  have v := (validReading_at hv (xs.length - 1) (by omega)).1
  have e : RR xs ((xs.length - 1 : Nat) : Int) = xs[xs.length - 1] := rdi_Reading xs (xs.length - 1) (by omega)
  unfold oneReading at v
  simp only [Bool.and_eq_true, decide_eq_true_eq] at v
  unfold lastH
  rw [e]
  omega
theorem last_pos (xs : List RE) (hv : validReading xs = true) (h0 : 0 < xs.length) (h : Int) (c : h ≤ lastH xs) : pos xs h < xs.length := by
  obtain ⟨p1, p2, p3⟩ := pos_in xs h hv
  rcases Nat.lt_or_ge (pos xs h) xs.length with q | q
  · exact q
  · have := p2 (xs.length - 1) (by omega)
    unfold lastH at c
    omega
theorem pos_mono (xs : List RE) (hv : validReading xs = true) (h h' : Int) (c : h ≤ h') : pos xs h ≤ pos xs h' := by
  obtain ⟨p1, p2, p3⟩ := pos_in xs h hv
  obtain ⟨q1, q2, q3⟩ := pos_in xs h' hv
  rcases Nat.lt_or_ge (pos xs h') (pos xs h) with q | q
  · have a := p2 (pos xs h') q
    have b := q3 (pos xs h') (Nat.le_refl _) (by omega)
    omega
  · exact q
theorem found_iff (xs : List RE) (h : Int) (c : pos xs h < xs.length) : found xs h = true ↔ (RR xs ((pos xs h : Nat) : Int)).f0 = h := by
  unfold found
  rw [decide_eq_true c, Bool.true_and, decide_eq_true_eq]
theorem mis_len (xs : List RE) (e : Int) : ∀ d h l, (lastH xs + 1 - h).toNat = d → l.length ≤ 64 → (mis xs e l h).1.length ≤ 64 := by
  intro d
  induction d using Nat.strongRecOn with
  | ind d ih =>
    intro h l hd hl
    by_cases c : h ≤ lastH xs ∧ 1 ≤ e
    · by_cases f : found xs h = true
      · rw [mis_found xs e l h c.1 c.2 f]
        exact ih _ (by omega) _ _ rfl hl
      · by_cases g : l.length = 64
        · rw [mis_full xs e l h c.1 c.2 f g]; simp
        · rw [mis_more xs e l h c.1 c.2 f g]
          exact ih _ (by omega) _ _ rfl (by simp; omega)
    · rw [mis, dif_neg c]
      exact hl
theorem implMis (xs : List RE) (e : Int) (hv : validReading xs = true) (h0 : 0 < xs.length) (he : 1 ≤ e) (he2 : e ≤ 1000) : ∀ d h l, (lastH xs + 1 - h).toNat = d → 0 ≤ h → h ≤ 200000 → l.length ≤ 64 →
    Ev (fun k => impl_MissingHours.l0 k xs e l h) (mis xs e l h) := by
  have hn := validReading_len hv
  have e1 : wrap64 ((xs.length : Int) - 1) = ((xs.length - 1 : Nat) : Int) := by rw [w64] <;> omega
  have hl9 := last_le xs hv h0
  intro d
  induction d using Nat.strongRecOn with
  | ind d ih =>
    intro h l hd h1 h2 hl
    refine Ev.succ ?_
    simp only [impl_MissingHours.l0, e1, if_pos (show 0 ≤ ((xs.length - 1 : Nat) : Int) by omega), if_pos (show ((xs.length - 1 : Nat) : Int) < (xs.length : Int) by omega)]
    by_cases c : h ≤ lastH xs
    · have c' : h ≤ (RR xs ((xs.length - 1 : Nat) : Int)).f0 := c
      simp only [if_pos c', search_eq xs h (by omega), Option.bind_some, w64 (x := h + e) (by omega) (by omega)]
      by_cases f : found xs h = true
      · simp only [if_pos f]
        rw [mis_found xs e l h c he f]
        exact ih _ (by omega) _ _ rfl (by omega) (by omega) hl
      · simp only [if_neg f]
        by_cases g : l.length = 64
        · simp only [if_pos (show (l.length : Int) = 64 by omega)]
          rw [mis_full xs e l h c he f g]
          exact Ev.now _
        · simp only [if_neg (show ¬ (l.length : Int) = 64 by omega), if_pos (show l.length < 17592186044416 by omega)]
          rw [mis_more xs e l h c he f g]
          exact ih _ (by omega) _ _ rfl (by omega) (by omega) (by simp; omega)
    · have c' : ¬ h ≤ (RR xs ((xs.length - 1 : Nat) : Int)).f0 := c
      simp only [if_neg c']
      rw [mis_end xs e l h c]
      exact Ev.now _
theorem specMis (xs : List RE) (e : Int) (hv : validReading xs = true) (h0 : 0 < xs.length) (he : 1 ≤ e) (he2 : e ≤ 1000) : ∀ d h l j, (lastH xs + 1 - h).toNat = d → 0 ≤ h → h ≤ 200000 → l.length ≤ 64 → j ≤ pos xs h →
    Ev (fun k => spec_MissingHours.l0 k xs e l (j : Int) h) (mis xs e l h) := by
  have hn := validReading_len hv
  have e1 : wrap64 ((xs.length : Int) - 1) = ((xs.length - 1 : Nat) : Int) := by rw [w64] <;> omega
  have hl9 := last_le xs hv h0
  intro d
  induction d using Nat.strongRecOn with
  | ind d ih =>
    intro h l j hd h1 h2 hl hj
    refine Ev.succ ?_
    simp only [spec_MissingHours.l0, e1, if_pos (show 0 ≤ ((xs.length - 1 : Nat) : Int) by omega), if_pos (show ((xs.length - 1 : Nat) : Int) < (xs.length : Int) by omega)]
    by_cases c : h ≤ lastH xs
    · have c' : h ≤ (RR xs ((xs.length - 1 : Nat) : Int)).f0 := c
      simp only [if_pos c']
      have hp := last_pos xs hv h0 h c
      obtain ⟨p1, p2, p3⟩ := pos_in xs h hv
      have pm := pos_mono xs hv h (h + e) (by omega)
      refine fold_from (fun k (_ : Unit) i => spec_MissingHours.l1 k xs e l i h) j (pos xs h) (fun _ => ()) _ hj (fun i _ hi r hr => Ev.succ ?_) (Ev.succ ?_)
      · have q := p2 i hi
        simp only [spec_MissingHours.l1, if_pos (show 0 ≤ (i : Int) by omega), if_pos (show (i : Int) < (xs.length : Int) by omega), if_pos (show (RR xs (i : Int)).f0 < h from q), w64s (show i < 9223372036854775807 by omega)]
        exact hr
      · have q := p3 (pos xs h) (Nat.le_refl _) hp
        simp only [spec_MissingHours.l1, if_pos (show 0 ≤ ((pos xs h : Nat) : Int) by omega), if_pos (show ((pos xs h : Nat) : Int) < (xs.length : Int) by omega), if_neg (show ¬ (RR xs ((pos xs h : Nat) : Int)).f0 < h by omega), w64 (x := h + e) (by omega) (by omega)]
        by_cases f : found xs h = true
        · simp only [if_pos ((found_iff xs h hp).1 f)]
          rw [mis_found xs e l h c he f]
          exact ih _ (by omega) _ _ _ rfl (by omega) (by omega) hl pm
        · simp only [if_neg (fun x => f ((found_iff xs h hp).2 x))]
          by_cases g : l.length = 64
          · simp only [if_pos (show (l.length : Int) = 64 by omega)]
            rw [mis_full xs e l h c he f g]
            exact Ev.now _
          · simp only [if_neg (show ¬ (l.length : Int) = 64 by omega), if_pos (show l.length < 17592186044416 by omega)]
            rw [mis_more xs e l h c he f g]
            exact ih _ (by omega) _ _ _ rfl (by omega) (by omega) (by simp; omega) pm
    · have c' : ¬ h ≤ (RR xs ((xs.length - 1 : Nat) : Int)).f0 := c
      simp only [if_neg c']
      rw [mis_end xs e l h c]
      exact Ev.now _
def res (xs : List RE) (e : Int) : List Int × Int := if validReading xs = true then (if (decide (1 ≤ e) && decide (e ≤ 1000)) = true then (if xs.length = 0 then ([], 0) else mis xs e [] ((RR xs (0 : Int)).f0 + e)) else ([], 2)) else ([], 1)
theorem res_len (xs : List RE) (e : Int) : (res xs e).1.length < 4611686018427387904 := by
  have h := mis_len xs e _ ((RR xs (0 : Int)).f0 + e) [] rfl (by simp)
  unfold res
  split
  · split
    · split
      · simp
      · omega
    · simp
  · simp
theorem first (xs : List RE) (hv : validReading xs = true) (h0 : 0 < xs.length) : 0 ≤ (RR xs (0 : Int)).f0 ∧ (RR xs (0 : Int)).f0 ≤ lastH xs ∧ pos xs (RR xs (0 : Int)).f0 = 0 ∧ found xs (RR xs (0 : Int)).f0 = true := by
  have v := (validReading_at hv 0 h0).1
  have e : RR xs (0 : Int) = xs[0] := rdi_Reading xs 0 h0
  unfold oneReading at v
  simp only [Bool.and_eq_true, decide_eq_true_eq] at v
  obtain ⟨p1, p2, p3⟩ := pos_in xs (RR xs (0 : Int)).f0 hv
  have hp : pos xs (RR xs (0 : Int)).f0 = 0 := by
    rcases Nat.eq_zero_or_pos (pos xs (RR xs (0 : Int)).f0) with q | q
    · exact q
    · exact absurd (p2 0 q) (Int.lt_irrefl _)
  refine ⟨by rw [e]; omega, ?_, hp, ?_⟩
  · unfold lastH
    rcases Nat.eq_zero_or_pos (xs.length - 1) with q | q
    · rw [q]; exact Int.le_refl _
    · exact Int.le_of_lt (hours_lt xs hv (xs.length - 1) (by omega) 0 q)
  · rw [found_iff xs _ (by omega), hp]
    rfl
theorem spec_ev (xs : List RE) (e : Int) (hs : smallReading xs) : Ev (fun k => spec_MissingHours.f k xs e) (res xs e) := by
  unfold spec_MissingHours.f res
  refine Ev.bind (specReadingS_ev xs hs) ?_
  by_cases c : validReading xs = true
  · simp only [if_pos c, l00In_eq, Option.bind_some]
    by_cases c2 : (decide (1 ≤ e) && decide (e ≤ 1000)) = true
    · simp only [if_pos c2]
      simp only [Bool.and_eq_true, decide_eq_true_eq] at c2
      by_cases c3 : xs.length = 0
      · simp only [if_pos (show (xs.length : Int) = 0 by omega), if_pos c3]; exact Ev.now _
      · simp only [if_neg (show ¬ (xs.length : Int) = 0 by omega), if_neg c3, if_pos (show 0 < (xs.length : Int) by omega)]
        have h0 : 0 < xs.length := by omega
        obtain ⟨f1, f2, f3, f4⟩ := first xs c h0
        have hl9 := last_le xs c h0
        have h := specMis xs e c h0 c2.1 c2.2 _ (RR xs (0 : Int)).f0 [] 0 rfl f1 (by omega) (by simp) (Nat.zero_le _)
        rw [mis_found xs e [] _ f2 c2.1 f4] at h
        exact h
    · simp only [if_neg c2]; exact Ev.now _
  · simp only [if_neg c]; exact Ev.now _
theorem impl_ev (xs : List RE) (e : Int) (hs : smallReading xs) : Ev (fun k => impl_MissingHours.f k xs e) (res xs e) := by
  unfold impl_MissingHours.f res
  refine Ev.bind (implReadingS_ev xs hs) ?_
  by_cases c : validReading xs = true
  · simp only [if_pos c, within_eq, Option.bind_some]
    by_cases c2 : (decide (1 ≤ e) && decide (e ≤ 1000)) = true
    · simp only [if_pos c2]
      simp only [Bool.and_eq_true, decide_eq_true_eq] at c2
      by_cases c3 : xs.length = 0
      · simp only [if_pos (show (xs.length : Int) = 0 by omega), if_pos c3]; exact Ev.now _
      · simp only [if_neg (show ¬ (xs.length : Int) = 0 by omega), if_neg c3, if_pos (show 0 < (xs.length : Int) by omega)]
        have h0 : 0 < xs.length := by omega
        obtain ⟨f1, f2, f3, f4⟩ := first xs c h0
        have hl9 := last_le xs c h0
        rw [w64 (x := (RR xs (0 : Int)).f0 + e) (by omega) (by omega)]
        exact implMis xs e c h0 c2.1 c2.2 _ _ [] rfl (by omega) (by omega) (by simp)
    · simp only [if_neg c2]; exact Ev.now _
  · simp only [if_neg c]; exact Ev.now _
end Go.Proofs.Ytkpjhohkopgdfaa.PFnExactMissingHours
namespace Go.Proofs.Ytkpjhohkopgdfaa.Pure
open Go.RowKit Go.Proofs.YtkpjhohkopgdfaaW.PrintWords Go.Proofs.YtkpjhohkopgdfaaW.PLib Go.Proofs.Ytkpjhohkopgdfaa.PFnExactMissingHours

theorem FnExactMissingHours : PFnExactMissingHours.Pure := by
  intro xs e hx _
  obtain ⟨_, hl, hw⟩ := hx
  have hs : smallReading (xs.map cvReading) := ⟨by simp; omega, fun x _ => trivial⟩
  have hr := res_len (xs.map cvReading) e
  obtain ⟨r, hz⟩ := szReading_ev xs 1048576 (by omega)
  obtain ⟨m, xm, hm, hmark⟩ := markReading_ev (xs.map cvReading) (by simp; omega)
  refine Ev.get ?_
  unfold laws_FnExactMissingHours.f
  simp only [hz, Option.bind_some]
  by_cases c : r < 0
  · simp only [if_pos c]; exact Ev.now _
  simp only [if_neg c]
  refine Ev.bind (toReading_ev xs hl) (Ev.bind (spec_ev _ _ hs) (Ev.bind (toReading_ev xs hl) (Ev.bind (impl_ev _ _ hs) (Ev.bind (eqInts_ev _ (by omega)) ?_))))
  simp only [if_true, bne_self_eq_false]
  refine Ev.succ ?_
  simp only [laws_FnExactMissingHours.j0, Bool.false_eq_true, if_false]
  refine Ev.bind (toReading_ev xs hl) (Ev.bind (eqReading_ev _ hs.1) ?_)
  simp only [if_true]
  refine Ev.bind hmark ?_
  simp only [if_neg (show ¬ m < 0 by omega)]
  refine Ev.bind (eqInts_ev _ (by omega)) ?_
  simp only [if_true, bne_self_eq_false]
  refine Ev.succ ?_
  simp only [laws_FnExactMissingHours.j1, Bool.false_eq_true, if_false]
  refine Ev.bind (markInts_ev _ hr) (Ev.bind (heldInts_ev _ hr) ?_)
  simp only [if_neg (show ¬ ((res (xs.map cvReading) e).1.length : Int) + 1 < 0 by omega), if_true]
  refine Ev.bind (toReading_ev xs hl) (Ev.bind (impl_ev _ _ hs) (Ev.bind (eqInts_ev _ (by omega)) ?_))
  simp only [if_true, bne_self_eq_false]
  refine Ev.succ ?_
  simp only [laws_FnExactMissingHours.j2, Bool.false_eq_true, if_false]
  refine Ev.bind (heldInts_ev _ hr) ?_
  simp only [if_neg (show ¬ ((res (xs.map cvReading) e).1.length : Int) + 1 < 0 by omega), if_true]
  exact Ev.now _
end Go.Proofs.Ytkpjhohkopgdfaa.Pure

