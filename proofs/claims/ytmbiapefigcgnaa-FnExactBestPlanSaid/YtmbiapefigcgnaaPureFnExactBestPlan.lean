/- The law FnExactBestPlan, in numbers and lists alone: the program's BestPlan and the reference's give one answer, and what they are handed stays as it was. No condition. -/
import Derived.Test.YtmbiapefigcgnaaQFnExactBestPlan
import Derived.Test.YtmbiapefigcgnaaPLib
set_option linter.unusedVariables false
set_option linter.unusedSimpArgs false
namespace Go.Proofs.Ytmbiapefigcgnaa.PFnExactBestPlan
open Go.RowKit Go.Proofs.YtmbiapefigcgnaaW.PrintWords Go.Proofs.YtmbiapefigcgnaaW.PLib

theorem l00In_eq (a b c : Int) : spec_l00In.f a b c = some (decide (b ≤ a) && decide (a ≤ c)) := by
  unfold spec_l00In.f; by_cases h : a ≥ b
  · rw [if_pos h]; simp [show b ≤ a from h]
  · rw [if_neg h]; simp [show ¬ b ≤ a from h]

theorem within_eq (a b c : Int) : impl_within.f a b c = some (decide (b ≤ a) && decide (a ≤ c)) := by
  unfold impl_within.f; by_cases h : a ≥ b
  · rw [if_pos h]; simp [show b ≤ a from h]
  · rw [if_neg h]; simp [show ¬ b ≤ a from h]

/-! names -/
def smallB (c : Int) : Bool := decide (97 ≤ c) && decide (c ≤ 122)
def digitB (c : Int) : Bool := decide (48 ≤ c) && decide (c ≤ 57)
def nameB (s : ByteArray) : Bool := (decide (1 ≤ s.size) && decide (s.size ≤ 10)) && (smallB (bt s 0) && allB (fun i => smallB (bt s i) || digitB (bt s i)) s.size)
theorem small_eq (c : Int) : spec_l01Small.f c = some (smallB c) := by
  unfold spec_l01Small.f smallB; by_cases h : c ≥ 97
  · rw [if_pos h]; simp [show 97 ≤ c from h]
  · rw [if_neg h]; simp [show ¬ 97 ≤ c from h]
theorem digit_eq (c : Int) : spec_l01Digit.f c = some (digitB c) := by
  unfold spec_l01Digit.f digitB; by_cases h : c ≥ 48
  · rw [if_pos h]; simp [show 48 ≤ c from h]
  · rw [if_neg h]; simp [show ¬ 48 ≤ c from h]
theorem specName_loop (s : ByteArray) (hs : s.size < 9223372036854775807) : Ev (fun k => spec_l01Name.l0 k s 0) (allB (fun i => smallB (bt s i) || digitB (bt s i)) s.size && true) := by
  refine all_ev (fun k i => spec_l01Name.l0 k s i) s.size true _ (fun i hi => ⟨0, fun k _ => ?_⟩) ⟨0, fun k _ => ?_⟩
  · simp only [spec_l01Name.l0]
    rw [if_pos (by omega), if_pos (by omega)]
    simp only [small_eq, digit_eq, Option.bind_some, w64s (show i < 9223372036854775807 by omega)]
    by_cases c1 : smallB (bt s i) = true
    · simp [c1]
    · simp only [Bool.not_eq_true] at c1
      by_cases c2 : digitB (bt s i) = true
      · simp [c1, c2]
      · simp only [Bool.not_eq_true] at c2; simp [c1, c2]
  · simp only [spec_l01Name.l0]
    rw [if_neg (by omega)]
theorem specName_ev (s : ByteArray) (hs : s.size < 9223372036854775807) : Ev (fun k => spec_l01Name.f k s) (nameB s) := by
  obtain ⟨K, hK⟩ := specName_loop s hs
  refine ⟨K + 1, fun k hk => ?_⟩
  obtain ⟨k, rfl⟩ : ∃ m, k = m + 1 := ⟨k - 1, by omega⟩
  unfold spec_l01Name.f nameB
  simp only [spec_l01Name.j0, hK k (by omega), small_eq, Option.bind_some]
  by_cases c1 : s.toList = ([] : List UInt8)
  · rw [if_pos c1]
    have : s.size = 0 := by
      have := congrArg List.length c1
      simpa [ByteArray.toList_eq] using this
    simp [this]
  · rw [if_neg c1]
    have h0 : 1 ≤ s.size := by
      rcases Nat.eq_zero_or_pos s.size with h | h
      · exact absurd (by
          have : s.data.toList = [] := List.eq_nil_of_length_eq_zero (by rw [Array.length_toList]; exact h)
          simpa [ByteArray.toList_eq] using this) c1
      · exact h
    by_cases c2 : (s.size : Int) > 10
    · rw [if_pos c2, decide_eq_false (show ¬ s.size ≤ 10 by omega)]; simp
    · rw [if_neg c2, if_pos (by omega), decide_eq_true (show s.size ≤ 10 by omega), decide_eq_true h0]
      by_cases c3 : smallB (bt s 0) = true
      · simp [c3]
      · simp only [Bool.not_eq_true] at c3; simp [c3]
theorem implName_loop (s : ByteArray) (hs : s.size < 9223372036854775807) : Ev (fun k => impl_onlyNameBytes.f k s) (allB (fun i => smallB (bt s i) || digitB (bt s i)) s.size && true) := by
  unfold impl_onlyNameBytes.f
  refine all_ev (fun k i => impl_onlyNameBytes.l0 k s (s.size : Int) i) s.size true _ (fun i hi => ⟨0, fun k _ => ?_⟩) ⟨0, fun k _ => ?_⟩
  · simp only [impl_onlyNameBytes.l0]
    rw [if_pos (by omega), if_pos (by omega), if_pos (by omega)]
    simp only [w64s (show i < 9223372036854775807 by omega), smallB, digitB]
    by_cases a : bt s i < 97 <;> by_cases b : bt s i < 48 <;> by_cases c : bt s i > 57 <;> by_cases d : bt s i > 122 <;> simp [a, b, c, d] <;> omega
  · simp only [impl_onlyNameBytes.l0]
    rw [if_neg (by omega)]
theorem implName_ev (s : ByteArray) (hs : s.size < 9223372036854775807) : Ev (fun k => impl_IsName.f k s) (nameB s) := by
  obtain ⟨K, hK⟩ := implName_loop s hs
  refine ⟨K, fun k hk => ?_⟩
  unfold impl_IsName.f nameB
  simp only [hK k hk, Option.bind_some]
  by_cases c1 : (s.size : Int) < 1
  · rw [if_pos c1, decide_eq_false (show ¬ 1 ≤ s.size by omega)]; simp
  · rw [if_neg c1, decide_eq_true (show 1 ≤ s.size by omega)]
    by_cases c2 : (s.size : Int) > 10
    · rw [if_pos c2, decide_eq_false (show ¬ s.size ≤ 10 by omega)]; simp
    · rw [if_neg c2, if_pos (by omega), decide_eq_true (show s.size ≤ 10 by omega)]
      unfold smallB
      by_cases a : bt s 0 < 97
      · rw [if_pos a, decide_eq_false (show ¬ 97 ≤ bt s 0 by omega)]; simp
      · rw [if_neg a, decide_eq_true (show 97 ≤ bt s 0 by omega)]
        by_cases b : bt s 0 > 122
        · rw [if_pos b, decide_eq_false (show ¬ bt s 0 ≤ 122 by omega)]; simp
        · rw [if_neg b, decide_eq_true (show bt s 0 ≤ 122 by omega)]; simp

theorem rd_at (xs : List Int) (i : Nat) (h : i < xs.length) : rd xs (i : Int) = xs[i] := by unfold rd; exact getD_cast xs i h _
theorem to_evE {α β : Type} (L : Nat → List β → Int → Option (List β)) (xs : List α) (cv : α → β) (z : β)
    (hs : ∀ i (h : i < xs.length) ys, ys.length = xs.length → ∀ r, Ev (fun k => L k (ys.set i (cv xs[i])) ((i + 1 : Nat) : Int)) r → Ev (fun k => L k ys (i : Int)) r)
    (he : ∀ ys, ys.length = xs.length → Ev (fun k => L k ys (xs.length : Int)) ys) : Ev (fun k => L k (List.replicate xs.length z) 0) (xs.map cv) := by
  have key := inv_evE (fun k (s : List β) i => L k s i) xs.length (fun i s => s.length = xs.length ∧ ∀ j (h : j < i) (h' : j < xs.length) (h'' : j < s.length), s[j] = cv xs[j]) (fun r => r = xs.map cv) (fun i s hi h => .inr ?_) (fun s h => ?_) xs.length 0 (List.replicate xs.length z) (by omega) ⟨by simp, fun j h => absurd h (Nat.not_lt_zero _)⟩
  · obtain ⟨r, rfl, h⟩ := key
    exact h
  · refine ⟨s.set i (cv xs[i]), ⟨by simp [h.1], fun j h1 h2 h3 => ?_⟩, hs i hi s h.1⟩
    by_cases e : j = i
    · subst e; simp
    · rw [List.getElem_set_ne (by omega)]
      exact h.2 j (by omega) h2 (by simpa using h3)
  · refine ⟨s, ?_, he s h.1⟩
    apply List.ext_getElem
    · simp [h.1]
    · intro j h1 h2
      rw [h.2 j (by omega) (by omega) h1]
      simp

/-! rows of stages, handed over and compared -/
theorem rdl_Stage (xs : List S80) (i : Nat) (h : i < xs.length) : rd_T80 xs (i : Int) = xs[i] := by unfold rd_T80; exact getD_cast xs i h _
theorem rdi_Stage (xs : List S34) (i : Nat) (h : i < xs.length) : rd_T34 xs (i : Int) = xs[i] := by unfold rd_T34; exact getD_cast xs i h _
def cvStage (x : S80) : S34 := ⟨x.f0, x.f1, x.f2, x.f3⟩
theorem toStrs_ev (xs : List ByteArray) (hl : xs.length * 16 ≤ 140737488351232) : Ev (fun k => laws_toStringS.f k xs) xs := by
  refine ⟨xs.length + 1, fun k hk => ?_⟩
  simp only [laws_toStringS.f]
  rw [if_pos (by omega), if_pos (by omega)]
  have h := to_loop (fun k ys i => laws_toStringS.l0 k xs ys i) xs (fun x => x) (fun k ys i h hy => ?_) (fun k ys hy => ?_) (List.replicate ((xs.length : Int)).toNat (⟨#[]⟩ : ByteArray)) (by simp) k (by omega)
  · rw [List.map_id'] at h; exact h
  · simp only [laws_toStringS.l0]
    rw [if_pos (by omega), if_pos (by omega), if_pos (by omega), w64s (by omega), rdOf_cast xs i h]
    rfl
  · simp only [laws_toStringS.l0]
    rw [if_neg (by omega)]
theorem eqStrs_ev (xs : List ByteArray) (hl : xs.length < 9223372036854775807) : Ev (fun k => laws_eqStringS.f k xs xs) true := by
  unfold laws_eqStringS.f
  simp only [if_true]
  have := all_ev (fun k i => laws_eqStringS.l0 k xs xs i) xs.length true (fun _ => true) (fun i hi => ⟨0, fun k _ => ?_⟩) ⟨0, fun k _ => ?_⟩
  · rw [allB_const] at this; exact this
  · simp only [laws_eqStringS.l0]
    rw [if_pos (by omega), if_pos (by omega), if_pos (by omega), w64s (by omega), if_pos trivial]
  · simp only [laws_eqStringS.l0]
    rw [if_neg (by omega)]
theorem szStrs_ev (xs : List ByteArray) (a : Int) (hl : xs.length < 9223372036854775807) : ∃ r, Ev (fun k => laws_szStringS.f k xs a) r := by
  unfold laws_szStringS.f
  by_cases c : wrap64 (a - (xs.length : Int)) < 0
  · exact ⟨-1, by simp only [if_pos c]; exact Ev.now _⟩
  · simp only [if_neg c]
    refine tot_ev (fun k s i => laws_szStringS.l0 k xs s i) xs.length (fun i s hi => ?_) (fun s => ⟨s, 0, fun k _ => ?_⟩) xs.length 0 _ (by omega)
    · by_cases c2 : wrap64 (s - ((rdOf ByteArray.empty xs (i : Int)).size : Int)) < 0
      · refine .inl ⟨-1, 0, fun k _ => ?_⟩
        simp only [laws_szStringS.l0]
        rw [if_pos (by omega), if_pos (by omega), if_pos c2]
      · refine .inr ⟨wrap64 (s - ((rdOf ByteArray.empty xs (i : Int)).size : Int)), 0, fun k _ => ?_⟩
        simp only [laws_szStringS.l0]
        rw [if_pos (by omega), if_pos (by omega), if_neg c2, w64s (by omega)]
    · simp only [laws_szStringS.l0]
      rw [if_neg (by omega)]
theorem szStage_ev (xs : List S80) (a : Int) (hl : xs.length < 9223372036854775807) (hn : ∀ x ∈ xs, x.f3.length < 9223372036854775807) : ∃ r, Ev (fun k => laws_szStageS.f k xs a) r := by
  unfold laws_szStageS.f
  by_cases c : wrap64 (a - (xs.length : Int)) < 0
  · exact ⟨-1, by simp only [if_pos c]; exact Ev.now _⟩
  · simp only [if_neg c]
    have key := inv_evE (fun k (s : Int) i => laws_szStageS.l0 k xs s i) xs.length (fun _ _ => True) (fun _ => True) (fun i s hi _ => ?_) (fun s _ => ⟨s, trivial, Ev.succ ?_⟩) xs.length 0 (wrap64 (a - (xs.length : Int))) (by omega) trivial
    · obtain ⟨r, _, h⟩ := key
      exact ⟨r, h⟩
    · obtain ⟨t, ht⟩ : ∃ t, Ev (fun k => laws_szStage.f k ((rd_T80 xs (i : Int)).f0) ((rd_T80 xs (i : Int)).f1) ((rd_T80 xs (i : Int)).f2) ((rd_T80 xs (i : Int)).f3) s) t := by
        unfold laws_szStage.f
        split
        · exact ⟨_, Ev.now _⟩
        · obtain ⟨q, hq⟩ := szStrs_ev (rd_T80 xs (i : Int)).f3 (wrap64 (s - ((rd_T80 xs (i : Int)).f0.size : Int))) (by rw [rdl_Stage xs i hi]; exact hn _ (List.getElem_mem hi))
          by_cases c3 : q < 0
          · exact ⟨-1, Ev.bind hq (by simp only [if_pos c3]; exact Ev.now _)⟩
          · exact ⟨q, Ev.bind hq (by simp only [if_neg c3]; exact Ev.now _)⟩
      by_cases c2 : t < 0
      · refine .inl ⟨-1, trivial, Ev.succ ?_⟩
        simp only [laws_szStageS.l0, if_pos (show (i : Int) < (xs.length : Int) by omega), if_pos (show 0 ≤ (i : Int) by omega)]
        exact Ev.bind ht (by simp only [if_pos c2]; exact Ev.now _)
      · refine .inr ⟨t, trivial, fun r hr => Ev.succ ?_⟩
        simp only [laws_szStageS.l0, if_pos (show (i : Int) < (xs.length : Int) by omega), if_pos (show 0 ≤ (i : Int) by omega), w64s (show i < 9223372036854775807 by omega)]
        exact Ev.bind ht (by simp only [if_neg c2]; exact hr)
    · simp only [laws_szStageS.l0, if_neg (show ¬ (xs.length : Int) < (xs.length : Int) by omega)]; exact Ev.now _
theorem toStage_ev (xs : List S80) (hl : xs.length * 56 ≤ 140737488351232) (hn : ∀ x ∈ xs, x.f3.length * 16 ≤ 140737488351232) : Ev (fun k => laws_toStageS.f k xs) (xs.map cvStage) := by
  unfold laws_toStageS.f
  simp only [if_pos (show 0 ≤ (xs.length : Int) by omega), Int.toNat_natCast, if_pos (show xs.length ≤ 5026338869833 by omega)]
  refine to_evE (fun k ys i => laws_toStageS.l0 k xs ys i) xs cvStage _ (fun i h ys hy r hr => Ev.succ ?_) (fun ys hy => Ev.succ ?_)
  · simp only [laws_toStageS.l0, if_pos (show (i : Int) < (xs.length : Int) by omega), if_pos (show 0 ≤ (i : Int) by omega), hy, w64s (show i < 9223372036854775807 by omega), Int.toNat_natCast]
    unfold laws_toStage.f
    have ht := toStrs_ev (rd_T80 xs (i : Int)).f3 (by rw [rdl_Stage xs i h]; exact hn _ (List.getElem_mem h))
    refine Ev.bind (Ev.bind ht (Ev.now _)) ?_
    rw [rdl_Stage xs i h]
    exact hr
  · simp only [laws_toStageS.l0, if_neg (show ¬ (xs.length : Int) < (xs.length : Int) by omega)]; exact Ev.now _
theorem eqStage_ev (xs : List S34) (hl : xs.length < 9223372036854775807) (hn : ∀ x ∈ xs, x.f3.length < 9223372036854775807) : Ev (fun k => laws_eqStageS.f k xs xs) true := by
  unfold laws_eqStageS.f
  simp only [if_true]
  have := all_evE (fun k i => laws_eqStageS.l0 k xs xs i) xs.length true (fun _ => true) (fun i hi r hr => Ev.succ ?_) (Ev.succ ?_)
  · rw [allB_const] at this; exact this
  · simp only [laws_eqStageS.l0, if_pos (show (i : Int) < (xs.length : Int) by omega), if_pos (show 0 ≤ (i : Int) by omega), w64s (show i < 9223372036854775807 by omega)]
    unfold laws_eqStage.f
    simp only [if_true]
    refine Ev.bind (Ev.bind (eqStrs_ev _ (by rw [rdi_Stage xs i hi]; exact hn _ (List.getElem_mem hi))) (Ev.now true)) ?_
    simp only [if_true]
    exact hr
  · simp only [laws_eqStageS.l0, if_neg (show ¬ (xs.length : Int) < (xs.length : Int) by omega)]; exact Ev.now _

/-! orders of stages -/
abbrev SG := S34
theorem hasI_iff (l : List Int) (a : Int) : hasI l a = true ↔ a ∈ l := by
  unfold hasI
  simp only [List.any_eq_true, decide_eq_true_eq]
  exact ⟨fun ⟨x, h1, h2⟩ => h2 ▸ h1, fun h => ⟨a, h, rfl⟩⟩
theorem needsB_iff (xs : List SG) (l : List Int) (a : Int) : needsB xs l a = true ↔ ∀ x ∈ (rd_T34 xs a).f3, stageIx xs x ∈ l := by
  unfold needsB
  simp only [List.all_eq_true, hasI_iff]
theorem needsB_mono {xs : List SG} {l m : List Int} {a : Int} (h : needsB xs l a = true) (hs : ∀ x ∈ l, x ∈ m) : needsB xs m a = true := by
  rw [needsB_iff] at h ⊢
  exact fun x hx => hs _ (h x hx)
theorem nodup_len : ∀ {l m : List Int}, l.Nodup → (∀ x ∈ l, x ∈ m) → l.length ≤ m.length
  | [], m, _, _ => Nat.zero_le _
  | a :: l, m, h, hs => by
    have h1 := (List.nodup_cons.1 h)
    have ha := hs a List.mem_cons_self
    have := nodup_len (m := m.erase a) h1.2 (fun x hx => by
      have hne : x ≠ a := fun e => h1.1 (e ▸ hx)
      exact (List.mem_erase_of_ne hne).2 (hs x (List.mem_cons_of_mem _ hx)))
    rw [List.length_erase_of_mem ha] at this
    have hp : 0 < m.length := List.length_pos_of_mem ha
    simp only [List.length_cons]
    omega
/-- 0, 1, .. -/
def iota (n : Nat) : List Int := (List.range n).map fun i : Nat => (i : Int)
theorem iota_len (n : Nat) : (iota n).length = n := by simp [iota]
theorem iota_mem (n : Nat) (x : Int) : x ∈ iota n ↔ 0 ≤ x ∧ x < (n : Int) := by
  unfold iota
  simp only [List.mem_map, List.mem_range]
  constructor
  · rintro ⟨i, h, rfl⟩; omega
  · rintro ⟨h0, h1⟩; exact ⟨x.toNat, by omega, by omega⟩
theorem iota_nodup (n : Nat) : (iota n).Nodup := by
  unfold iota
  rw [List.nodup_iff_pairwise_ne, List.pairwise_map]
  exact List.Pairwise.imp (fun h => by omega) (List.nodup_iff_pairwise_ne.1 List.nodup_range)
theorem full_len {l : List Int} {n : Nat} (hd : l.Nodup) (hin : ∀ x ∈ l, 0 ≤ x ∧ x < (n : Int)) : l.length = n ↔ ∀ x, 0 ≤ x → x < (n : Int) → x ∈ l := by
  have hle : l.length ≤ n := by
    have := nodup_len (m := iota n) hd (fun x hx => (iota_mem n x).2 (hin x hx))
    rwa [iota_len] at this
  constructor
  · intro h x h0 h1
    refine Classical.byContradiction fun hx => ?_
    have := nodup_len (l := x :: l) (m := iota n) (List.nodup_cons.2 ⟨hx, hd⟩) (fun y hy => by
      rcases List.mem_cons.1 hy with e | hy
      · subst e; exact (iota_mem n y).2 ⟨h0, h1⟩
      · exact (iota_mem n y).2 (hin y hy))
    rw [iota_len] at this
    simp only [List.length_cons] at this
    omega
  · intro h
    have := nodup_len (l := iota n) (m := l) (iota_nodup n) (fun x hx => by
      have := (iota_mem n x).1 hx
      exact h x this.1 this.2)
    rw [iota_len] at this
    omega
/-- Each has all that it needs ahead of it. -/
def OrdOk (xs : List SG) (r : List Int) : Prop := ∀ k (h : k < r.length), needsB xs (r.take k) r[k] = true
theorem ordOk_nil (xs : List SG) : OrdOk xs [] := fun k h => absurd h (Nat.not_lt_zero _)
theorem ordOk_snoc {xs : List SG} {o : List Int} {x : Int} (h : OrdOk xs o) (hx : needsB xs o x = true) : OrdOk xs (o ++ [x]) := by
  intro k hk
  simp only [List.length_append, List.length_cons, List.length_nil] at hk
  by_cases e : k < o.length
  · rw [List.getElem_append_left e, List.take_append_of_le_length (by omega)]
    exact h k e
  · have : k = o.length := by omega
    subst this
    rw [List.getElem_append_right (by omega), List.take_append_of_le_length (Nat.le_refl _), List.take_length]
    simpa using hx
/-- What an order has lies in each set that is closed. -/
theorem ord_in {xs : List SG} {r : List Int} (h : OrdOk xs r) (C : List Int) (hC : ∀ x ∈ r, needsB xs C x = true → x ∈ C) : ∀ x ∈ r, x ∈ C := by
  have key : ∀ n k (hk : k < r.length), k < n → r[k] ∈ C := by
    intro n
    induction n with
    | zero => intro k _ h; exact absurd h (Nat.not_lt_zero _)
    | succ n ih =>
      intro k hk hkn
      refine hC _ (List.getElem_mem hk) (needsB_mono (h k hk) fun y hy => ?_)
      obtain ⟨j, hj, rfl⟩ := List.getElem_of_mem hy
      rw [List.getElem_take]
      simp only [List.length_take] at hj
      exact ih j (by omega) (by omega)
  intro x hx
  obtain ⟨k, hk, rfl⟩ := List.getElem_of_mem hx
  exact key (k + 1) k hk (Nat.lt_succ_self _)
theorem idx_none (p : Int → Bool) (l : List Int) (h : idxFrom p l 0 < 0) : ∀ x ∈ l, p x = false := by
  have h1 := idxFrom_any p l 0
  rw [decide_eq_false (by omega), List.drop_zero] at h1
  intro x hx
  exact Bool.eq_false_iff.2 fun c => by
    have : l.any p = true := List.any_eq_true.2 ⟨x, hx, c⟩
    rw [← h1] at this; cases this
theorem idx_at (p : Int → Bool) (l : List Int) (i : Nat) : 0 ≤ idxFrom p l i → p (rd l (idxFrom p l i)) = true := by
  intro h
  rw [idxFrom] at h ⊢
  by_cases c : i < l.length
  · rw [dif_pos c] at h ⊢
    by_cases c2 : p l[i] = true
    · rw [if_pos c2, rd_at l i c]; exact c2
    · rw [if_neg c2] at h ⊢
      exact idx_at p l (i + 1) h
  · rw [dif_neg c] at h
    omega
termination_by l.length - i
theorem idx_step (p : Int → Bool) (l : List Int) (h : ¬ idxFrom p l 0 < 0) : rd l (idxFrom p l 0) ∈ l ∧ p (rd l (idxFrom p l 0)) = true := by
  rcases idxFrom_in p l 0 with h1 | ⟨h1, h2⟩
  · rw [h1] at h; exact absurd (by decide) h
  · refine ⟨?_, idx_at p l 0 (by omega)⟩
    obtain ⟨n, hn⟩ := Int.eq_ofNat_of_zero_le (show 0 ≤ idxFrom p l 0 by omega)
    rw [hn, rd_at l n (by omega)]
    exact List.getElem_mem _
/-- What the first order of stages is like. -/
structure FoOk (xs : List SG) (l r : List Int) : Prop where
  nodup : r.Nodup
  sub : ∀ x ∈ r, x ∈ l
  ord : OrdOk xs r
  closed : ∀ x ∈ l, needsB xs r x = true → x ∈ r
theorem fo_ev (xs : List SG) (l : List Int) (hl : l.length < 17592186044416) : ∀ d o, o.Nodup → (∀ x ∈ o, x ∈ l) → OrdOk xs o → l.length < o.length + d → ∃ r, FoOk xs l r ∧ Ev (fun k => fo xs l k o) r := by
  intro d
  induction d with
  | zero =>
    intro o h1 h2 _ h4
    have := nodup_len h1 h2
    omega
  | succ d ih =>
    intro o h1 h2 h3 h4
    have hlen := nodup_len h1 h2
    by_cases c : idxFrom (foP xs o) l 0 < 0
    · refine ⟨o, ⟨h1, h2, h3, fun x hx hn => ?_⟩, Ev.succ ?_⟩
      · have := idx_none _ l c x hx
        unfold foP at this
        rw [hn, Bool.and_true] at this
        exact (hasI_iff o x).1 (by simpa using this)
      · simp only [fo, if_pos c]; exact Ev.now _
    · obtain ⟨m1, m2⟩ := idx_step _ l c
      unfold foP at m2
      simp only [Bool.and_eq_true, Bool.not_eq_true'] at m2
      have hni : rd l (idxFrom (foP xs o) l 0) ∉ o := fun hm => by
        have := (hasI_iff o _).2 hm
        unfold foP at hm this
        rw [m2.1] at this; cases this
      obtain ⟨r, hr, he⟩ := ih (o ++ [rd l (idxFrom (foP xs o) l 0)]) (by
          rw [List.nodup_append]
          exact ⟨h1, List.nodup_cons.2 ⟨by simp, List.nodup_nil⟩, fun a ha b hb => by
            rw [List.mem_singleton] at hb; subst hb
            exact fun e => hni (e ▸ ha)⟩) (fun x hx => by
          rcases List.mem_append.1 hx with hx | hx
          · exact h2 x hx
          · rw [List.mem_singleton] at hx; subst hx; exact m1) (ordOk_snoc h3 m2.2) (by simp; omega)
      refine ⟨r, hr, Ev.succ ?_⟩
      simp only [fo, if_neg c, if_pos (show o.length < 17592186044416 by omega)]
      exact he

/-! the reference's way to build all stages -/
def stepP (xs : List SG) (b : List Int) (i : Nat) : List Int := if hasI b (i : Int) = true then b else if needsB xs b (i : Int) = true then b ++ [(i : Int)] else b
def passI (xs : List SG) (b : List Int) : Nat → List Int
  | 0 => b
  | i + 1 => stepP xs (passI xs b i) i
def turnP (xs : List SG) (n : Nat) : Nat → List Int
  | 0 => []
  | t + 1 => passI xs (turnP xs n t) n
structure GoodP (xs : List SG) (n : Nat) (b : List Int) : Prop where
  nodup : b.Nodup
  inr : ∀ x ∈ b, 0 ≤ x ∧ x < (n : Int)
  ord : OrdOk xs b
theorem stepP_good {xs : List SG} {n : Nat} {b : List Int} (h : GoodP xs n b) (i : Nat) (hi : i < n) : GoodP xs n (stepP xs b i) := by
  unfold stepP
  by_cases c1 : hasI b (i : Int) = true
  · rw [if_pos c1]; exact h
  · rw [if_neg c1]
    by_cases c2 : needsB xs b (i : Int) = true
    · rw [if_pos c2]
      refine ⟨?_, fun x hx => ?_, ordOk_snoc h.ord c2⟩
      · rw [List.nodup_append]
        exact ⟨h.nodup, List.nodup_cons.2 ⟨by simp, List.nodup_nil⟩, fun a ha b hb => by
          rw [List.mem_singleton] at hb; subst hb
          exact fun e => c1 ((hasI_iff _ _).2 (e ▸ ha))⟩
      · rcases List.mem_append.1 hx with hx | hx
        · exact h.inr x hx
        · rw [List.mem_singleton] at hx; subst hx; omega
    · rw [if_neg c2]; exact h
theorem passI_good {xs : List SG} {n : Nat} {b : List Int} (h : GoodP xs n b) : ∀ i, i ≤ n → GoodP xs n (passI xs b i)
  | 0, _ => h
  | i + 1, hi => stepP_good (passI_good h i (by omega)) i (by omega)
theorem turnP_good (xs : List SG) (n : Nat) : ∀ t, GoodP xs n (turnP xs n t)
  | 0 => ⟨List.nodup_nil, (fun x hx => absurd hx List.not_mem_nil), ordOk_nil xs⟩
  | t + 1 => passI_good (turnP_good xs n t) n (Nat.le_refl _)
theorem good_len {xs : List SG} {n : Nat} {b : List Int} (h : GoodP xs n b) : b.length ≤ n := by
  have := nodup_len (m := iota n) h.nodup (fun x hx => (iota_mem n x).2 (h.inr x hx))
  rwa [iota_len] at this
theorem stepP_len (xs : List SG) (b : List Int) (i : Nat) : stepP xs b i = b ∨ (stepP xs b i).length = b.length + 1 := by
  unfold stepP
  by_cases c1 : hasI b (i : Int) = true
  · rw [if_pos c1]; exact .inl rfl
  · rw [if_neg c1]
    by_cases c2 : needsB xs b (i : Int) = true
    · rw [if_pos c2]; exact .inr (by simp)
    · rw [if_neg c2]; exact .inl rfl
theorem passI_len (xs : List SG) (b : List Int) : ∀ i, b.length ≤ (passI xs b i).length
  | 0 => Nat.le_refl _
  | i + 1 => by
    have h := passI_len xs b i
    have h2 := stepP_len xs (passI xs b i) i
    show b.length ≤ (stepP xs (passI xs b i) i).length
    rcases h2 with h2 | h2
    · rw [h2]; exact h
    · omega
theorem passI_same (xs : List SG) (b : List Int) : ∀ i, (passI xs b i).length = b.length → passI xs b i = b ∧ ∀ j, j < i → stepP xs b j = b
  | 0, _ => ⟨rfl, fun j hj => absurd hj (Nat.not_lt_zero _)⟩
  | i + 1, h => by
    have h0 := passI_len xs b i
    have h2 := stepP_len xs (passI xs b i) i
    have h3 : (stepP xs (passI xs b i) i).length = b.length := h
    rcases h2 with h2 | h2
    · rw [h2] at h3
      obtain ⟨e, hj⟩ := passI_same xs b i h3
      rw [e] at h2
      refine ⟨?_, fun j hj' => ?_⟩
      · show stepP xs (passI xs b i) i = b
        rw [e]; exact h2
      · by_cases e2 : j = i
        · subst e2; exact h2
        · exact hj j (by omega)
    · omega
/-- Nothing more can be built. -/
def ClosedP (xs : List SG) (n : Nat) (b : List Int) : Prop := ∀ x, 0 ≤ x → x < (n : Int) → needsB xs b x = true → x ∈ b
theorem closed_of_same {xs : List SG} {n : Nat} {b : List Int} (h : ∀ j, j < n → stepP xs b j = b) : ClosedP xs n b := by
  intro x h0 h1 hx
  obtain ⟨j, rfl⟩ := Int.eq_ofNat_of_zero_le h0
  have h2 := h j (by omega)
  unfold stepP at h2
  by_cases c : hasI b (j : Int) = true
  · exact (hasI_iff _ _).1 c
  · rw [if_neg c, if_pos hx] at h2
    have := congrArg List.length h2
    simp at this
theorem same_of_closed {xs : List SG} {n : Nat} {b : List Int} (h : ClosedP xs n b) : ∀ i, i ≤ n → passI xs b i = b
  | 0, _ => rfl
  | i + 1, hi => by
    show stepP xs (passI xs b i) i = b
    rw [same_of_closed h i (by omega)]
    unfold stepP
    by_cases c : hasI b (i : Int) = true
    · rw [if_pos c]
    · rw [if_neg c]
      by_cases c2 : needsB xs b (i : Int) = true
      · exact absurd ((hasI_iff _ _).2 (h i (by omega) (by omega) c2)) c
      · rw [if_neg c2]
theorem turnP_or (xs : List SG) (n : Nat) : ∀ t, t ≤ (turnP xs n t).length ∨ ClosedP xs n (turnP xs n t)
  | 0 => .inl (Nat.zero_le _)
  | t + 1 => by
    rcases turnP_or xs n t with h | h
    · have h2 := passI_len xs (turnP xs n t) n
      by_cases c : (passI xs (turnP xs n t) n).length = (turnP xs n t).length
      · obtain ⟨e, hj⟩ := passI_same xs _ n c
        refine .inr ?_
        show ClosedP xs n (passI xs (turnP xs n t) n)
        rw [e]; exact closed_of_same hj
      · refine .inl ?_
        show t + 1 ≤ (passI xs (turnP xs n t) n).length
        omega
    · refine .inr ?_
      show ClosedP xs n (passI xs (turnP xs n t) n)
      rw [same_of_closed h n (Nat.le_refl _)]; exact h
theorem full_iff {xs : List SG} {n : Nat} {r : List Int} (h : FoOk xs (iota n) r) : (turnP xs n n).length = n ↔ r.length = n := by
  have g := turnP_good xs n n
  have hr : ∀ x ∈ r, 0 ≤ x ∧ x < (n : Int) := fun x hx => (iota_mem n x).1 (h.sub x hx)
  rw [full_len g.nodup g.inr, full_len h.nodup hr]
  constructor
  · intro ha x h0 h1
    exact ord_in g.ord r (fun y hy hn => h.closed y ((iota_mem n y).2 (g.inr y hy)) hn) x (ha x h0 h1)
  · intro ha x h0 h1
    rcases turnP_or xs n n with hl | hc
    · exact (full_len g.nodup g.inr).1 (by have := good_len g; omega) x h0 h1
    · exact ord_in h.ord _ (fun y hy hn => hc y (hr y hy).1 (hr y hy).2 hn) x (ha x h0 h1)
/-- Can all stages be built, one after the other? -/
def fullS (xs : List SG) : Bool := decide ((turnP xs xs.length xs.length).length = xs.length)

/-! valid stages -/
theorem find_ev (xs : List SG) (a : ByteArray) (hl : xs.length < 9223372036854775807) : Ev (fun k => spec_l24Find.f k xs a) (stageIx xs a) := by
  unfold spec_l24Find.f stageIx
  have key : ∀ d i, i + d = xs.length → Ev (fun k => spec_l24Find.l0 k xs a (i : Int)) (idxFrom_34 (fun x => x.f0.toList == a.toList) xs i) := by
    intro d
    induction d with
    | zero =>
      intro i hi
      refine Ev.succ ?_
      rw [idxFrom_34, dif_neg (by omega)]
      simp only [spec_l24Find.l0, if_neg (show ¬ (i : Int) < (xs.length : Int) by omega)]; exact Ev.now _
    | succ d ih =>
      intro i hi
      have hlt : i < xs.length := by omega
      refine Ev.succ ?_
      rw [idxFrom_34, dif_pos hlt]
      have e : rd_T34 xs (i : Int) = xs[i] := rdi_Stage xs i hlt
      simp only [spec_l24Find.l0, if_pos (show (i : Int) < (xs.length : Int) by omega), if_pos (show 0 ≤ (i : Int) by omega), e, w64s (show i < 9223372036854775807 by omega)]
      by_cases c : xs[i].f0.toList = a.toList
      · simp only [if_pos c, if_pos (show (xs[i].f0.toList == a.toList) = true from beq_iff_eq.2 c)]; exact Ev.now _
      · simp only [if_neg c, if_neg (show ¬ (xs[i].f0.toList == a.toList) = true from fun h => c (beq_iff_eq.1 h))]; exact ih (i + 1) (by omega)
  exact key xs.length 0 (by omega)
theorem any_allB {α : Type} (l : List α) (p : α → Bool) : l.any p = !(allB (fun i => if h : i < l.length then !(p l[i]) else true) l.length) := by
  rw [Bool.eq_iff_iff, List.any_eq_true, Bool.not_eq_true', Bool.eq_false_iff, Ne, allB_true]
  constructor
  · rintro ⟨x, hx, hp⟩ h
    obtain ⟨i, hi, rfl⟩ := List.getElem_of_mem hx
    have := h i hi
    rw [dif_pos hi, hp] at this; cases this
  · intro h
    refine Classical.byContradiction fun h2 => h fun i hi => ?_
    rw [dif_pos hi]
    cases c : p l[i] with
    | true => exact absurd ⟨_, List.getElem_mem hi, c⟩ h2
    | false => rfl
theorem all_allB {α : Type} (l : List α) (p : α → Bool) : l.all p = allB (fun i => if h : i < l.length then p l[i] else true) l.length := by
  rw [Bool.eq_iff_iff, List.all_eq_true, allB_true]
  constructor
  · intro h i hi
    rw [dif_pos hi]; exact h _ (List.getElem_mem hi)
  · intro h x hx
    obtain ⟨i, hi, rfl⟩ := List.getElem_of_mem hx
    have := h i hi
    rwa [dif_pos hi] at this
theorem specHas_ev (l : List Int) (a : Int) (hl : l.length < 9223372036854775807) : Ev (fun k => spec_l00Has.f k l a) (hasI l a) := by
  unfold spec_l00Has.f hasI
  have key : ∀ d i, i + d = l.length → Ev (fun k => spec_l00Has.l0 k l a (i : Int)) ((l.drop i).any fun x => decide (a = x)) := by
    intro d
    induction d with
    | zero =>
      intro i hi
      refine Ev.succ ?_
      rw [List.drop_eq_nil_of_le (by omega)]
      simp only [spec_l00Has.l0, if_neg (show ¬ (i : Int) < (l.length : Int) by omega)]; exact Ev.now _
    | succ d ih =>
      intro i hi
      have hlt : i < l.length := by omega
      refine Ev.succ ?_
      rw [List.drop_eq_getElem_cons hlt, List.any_cons]
      simp only [spec_l00Has.l0, if_pos (show (i : Int) < (l.length : Int) by omega), if_pos (show 0 ≤ (i : Int) by omega), rd_at l i hlt, w64s (show i < 9223372036854775807 by omega)]
      by_cases c : l[i] = a
      · rw [decide_eq_true c.symm, Bool.true_or]
        simp only [if_pos c]; exact Ev.now _
      · rw [decide_eq_false (fun h => c h.symm), Bool.false_or]
        simp only [if_neg c]; exact ih (i + 1) (by omega)
  exact key l.length 0 (by omega)
theorem ready_ev (xs : List SG) (l : List Int) (a : Int) (hl : xs.length < 9223372036854775807) (hl2 : l.length < 9223372036854775807) (hn : (rd_T34 xs a).f3.length < 9223372036854775807) (h0 : 0 ≤ a) (h1 : a < (xs.length : Int)) : Ev (fun k => spec_l24Ready.f k xs l a) (needsB xs l a) := by
  unfold spec_l24Ready.f needsB
  rw [all_allB]
  have h := all_evE (fun k i => spec_l24Ready.l0 k xs l a i) (rd_T34 xs a).f3.length true (fun i => if h : i < (rd_T34 xs a).f3.length then hasI l (stageIx xs (rd_T34 xs a).f3[i]) else true) (fun i hi r hr => Ev.succ ?_) (Ev.succ ?_)
  · rw [Bool.and_true] at h; exact h
  · have e : rdOf ByteArray.empty (rd_T34 xs a).f3 (i : Int) = (rd_T34 xs a).f3[i] := rdOf_cast _ i hi _
    rw [dif_pos hi]
    simp only [spec_l24Ready.l0, if_pos h0, if_pos h1, if_pos (show (i : Int) < ((rd_T34 xs a).f3.length : Int) by omega), if_pos (show 0 ≤ (i : Int) by omega), e, w64s (show i < 9223372036854775807 by omega)]
    refine Ev.bind (find_ev xs _ hl) (Ev.bind (specHas_ev l _ hl2) ?_)
    by_cases c : hasI l (stageIx xs (rd_T34 xs a).f3[i]) = true
    · simp only [if_pos c]; exact hr
    · simp only [if_neg c]; exact Ev.now _
  · simp only [spec_l24Ready.l0, if_pos h0, if_pos h1, if_neg (show ¬ ((rd_T34 xs a).f3.length : Int) < ((rd_T34 xs a).f3.length : Int) by omega)]; exact Ev.now _
def inR (a lo hi : Int) : Bool := decide (lo ≤ a) && decide (a ≤ hi)
theorem l00In_r (a b c : Int) : spec_l00In.f a b c = some (inR a b c) := l00In_eq a b c
theorem within_r (a b c : Int) : impl_within.f a b c = some (inR a b c) := within_eq a b c
/-- Is a stage, with the one ahead of it, as stated? -/
def okHead (xs : List SG) (i : Nat) : Bool := nameB (rd_T34 xs (i : Int)).f0 && (inR (rd_T34 xs (i : Int)).f1 1 1000000 && (inR (rd_T34 xs (i : Int)).f2 0 1000000 && (decide ((rd_T34 xs (i : Int)).f3.length ≤ 8) && (decide (i = 0) || Op.bytesLess (rd_T34 xs ((i - 1 : Nat) : Int)).f0.toList (rd_T34 xs (i : Int)).f0.toList))))
def okNeed (xs : List SG) (i j : Nat) : Bool := !decide (stageIx xs (rdOf ByteArray.empty (rd_T34 xs (i : Int)).f3 (j : Int)) < 0) && (decide (j = 0) || Op.bytesLess (rdOf ByteArray.empty (rd_T34 xs (i : Int)).f3 ((j - 1 : Nat) : Int)).toList (rdOf ByteArray.empty (rd_T34 xs (i : Int)).f3 (j : Int)).toList)
def okStage (xs : List SG) (i : Nat) : Bool := okHead xs i && allB (okNeed xs i) (rd_T34 xs (i : Int)).f3.length
def validS (xs : List SG) : Bool := decide (xs.length ≤ 8) && (allB (okStage xs) xs.length && fullS xs)
def smallS (xs : List SG) : Prop := xs.length < 9223372036854775807 ∧ ∀ x ∈ xs, x.f0.size < 9223372036854775807 ∧ x.f3.length < 9223372036854775807
theorem smallS_rd {xs : List SG} (h : smallS xs) (i : Nat) (hi : i < xs.length) : (rd_T34 xs (i : Int)).f0.size < 9223372036854775807 ∧ (rd_T34 xs (i : Int)).f3.length < 9223372036854775807 := by
  rw [rdi_Stage xs i hi]; exact h.2 _ (List.getElem_mem hi)
theorem smallS_rd' {xs : List SG} (h : smallS xs) (a : Int) (h0 : 0 ≤ a) (h1 : a < (xs.length : Int)) : (rd_T34 xs a).f3.length < 9223372036854775807 := by
  obtain ⟨i, rfl⟩ := Int.eq_ofNat_of_zero_le h0
  exact (smallS_rd h i (by omega)).2
theorem turnP_small (xs : List SG) (h : xs.length ≤ 8) (t : Nat) (i : Nat) (hi : i ≤ xs.length) : (passI xs (turnP xs xs.length t) i).length ≤ 8 := by
  have := good_len (passI_good (turnP_good xs xs.length t) i hi); omega
theorem specFull_ev (xs : List SG) (hs : smallS xs) (h8 : xs.length ≤ 8) : Ev (fun k => spec_l24Ok.l2 k xs [] 0) (fullS xs) := by
  have e : fullS xs = (((turnP xs xs.length xs.length).length : Int) == (xs.length : Int)) := by
    unfold fullS
    rw [Bool.eq_iff_iff, decide_eq_true_eq, beq_iff_eq]; omega
  rw [e]
  have h := fold_from (fun k (s : List Int) t => spec_l24Ok.l2 k xs s t) 0 xs.length (turnP xs xs.length) (((turnP xs xs.length xs.length).length : Int) == (xs.length : Int)) (Nat.zero_le _) (fun t _ ht r hr => Ev.succ ?_) (Ev.succ ?_)
  · exact h
  · simp only [spec_l24Ok.l2, if_pos (show (t : Int) < (xs.length : Int) by omega)]
    have h := fold_from (fun k (s : List Int) i => spec_l24Ok.l3 k xs s (t : Int) i) 0 xs.length (passI xs (turnP xs xs.length t)) r (Nat.zero_le _) (fun i _ hi r hr => Ev.succ ?_) (Ev.succ ?_)
    · exact h
    · have hb := turnP_small xs h8 t i (by omega)
      generalize hbb : passI xs (turnP xs xs.length t) i = b at hb
      simp only [passI, hbb] at hr
      simp only [spec_l24Ok.l3, if_pos (show (i : Int) < (xs.length : Int) by omega), w64s (show i < 9223372036854775807 by omega)]
      refine Ev.bind (specHas_ev b _ (by omega)) ?_
      unfold stepP at hr
      by_cases c : hasI b (i : Int) = true
      · simp only [if_pos c] at hr ⊢; exact hr
      · simp only [if_neg c] at hr ⊢
        refine Ev.bind (ready_ev xs b _ hs.1 (by omega) (smallS_rd hs i hi).2 (by omega) (by omega)) ?_
        by_cases c2 : needsB xs b (i : Int) = true
        · simp only [if_pos c2, if_pos (show b.length < 17592186044416 by omega)] at hr ⊢; exact hr
        · simp only [if_neg c2] at hr ⊢; exact hr
    · simp only [spec_l24Ok.l3, if_neg (show ¬ (xs.length : Int) < (xs.length : Int) by omega), w64s (show t < 9223372036854775807 by omega)]
      exact hr
  · simp only [spec_l24Ok.l2, if_neg (show ¬ (xs.length : Int) < (xs.length : Int) by omega)]; exact Ev.now _
theorem specS_ev (xs : List SG) (hs : smallS xs) : Ev (fun k => spec_l24Ok.f k xs) (validS xs) := by
  unfold spec_l24Ok.f validS
  by_cases c8 : (xs.length : Int) > 8
  · simp only [if_pos c8]; rw [decide_eq_false (show ¬ xs.length ≤ 8 by omega), Bool.false_and]; exact Ev.now _
  simp only [if_neg c8]
  rw [decide_eq_true (show xs.length ≤ 8 by omega), Bool.true_and]
  refine all_evE (fun k i => spec_l24Ok.l0 k xs i) xs.length (fullS xs) (okStage xs) (fun i hi r hr => Ev.succ ?_) (Ev.succ ?_)
  · have jT : Ev (fun k => spec_l24Ok.j1 k xs (i : Int) true) false := Ev.succ (by simp only [spec_l24Ok.j1, if_true]; exact Ev.now _)
    have jF : Ev (fun k => spec_l24Ok.j1 k xs (i : Int) false) (if allB (okNeed xs i) (rd_T34 xs (i : Int)).f3.length = true then r else false) := by
      refine Ev.succ ?_
      simp only [spec_l24Ok.j1, Bool.false_eq_true, if_false]
      refine scan_evE (fun k j => spec_l24Ok.l1 k xs (i : Int) j) (rd_T34 xs (i : Int)).f3.length r false (okNeed xs i) (fun j hj r2 hr2 => Ev.succ ?_) (Ev.succ ?_)
      · have hsm := smallS_rd hs i hi
        simp only [spec_l24Ok.l1, if_pos (show 0 ≤ (i : Int) by omega), if_pos (show (i : Int) < (xs.length : Int) by omega), if_pos (show (j : Int) < ((rd_T34 xs (i : Int)).f3.length : Int) by omega), if_pos (show 0 ≤ (j : Int) by omega), w64s (show j < 9223372036854775807 by omega)]
        refine Ev.bind (find_ev xs _ hs.1) ?_
        by_cases c1 : stageIx xs (rdOf ByteArray.empty (rd_T34 xs (i : Int)).f3 (j : Int)) < 0
        · simp only [if_pos c1]
          rw [if_neg (by unfold okNeed; rw [decide_eq_true c1]; simp)]; exact Ev.now _
        · simp only [if_neg c1]
          by_cases c2 : j = 0
          · subst c2
            rw [if_pos (by unfold okNeed; rw [decide_eq_false c1]; rfl)]
            simp only [if_neg (show ¬ ((0 : Nat) : Int) > 0 by omega)]; exact hr2
          · have e1 : wrap64 ((j : Int) - 1) = ((j - 1 : Nat) : Int) := by rw [w64] <;> omega
            simp only [if_pos (show (j : Int) > 0 by omega), e1, if_pos (show 0 ≤ ((j - 1 : Nat) : Int) by omega), if_pos (show ((j - 1 : Nat) : Int) < ((rd_T34 xs (i : Int)).f3.length : Int) by omega)]
            rw [show okNeed xs i j = Op.bytesLess (rdOf ByteArray.empty (rd_T34 xs (i : Int)).f3 ((j - 1 : Nat) : Int)).toList (rdOf ByteArray.empty (rd_T34 xs (i : Int)).f3 (j : Int)).toList from by unfold okNeed; rw [decide_eq_false c1, decide_eq_false c2, Bool.false_or]; rfl]
            cases Op.bytesLess (rdOf ByteArray.empty (rd_T34 xs (i : Int)).f3 ((j - 1 : Nat) : Int)).toList (rdOf ByteArray.empty (rd_T34 xs (i : Int)).f3 (j : Int)).toList
            · simp only [Bool.false_eq_true, if_false]; exact Ev.now _
            · simp only [if_true]; exact hr2
      · simp only [spec_l24Ok.l1, if_pos (show 0 ≤ (i : Int) by omega), if_pos (show (i : Int) < (xs.length : Int) by omega), if_neg (show ¬ ((rd_T34 xs (i : Int)).f3.length : Int) < ((rd_T34 xs (i : Int)).f3.length : Int) by omega), w64s (show i < 9223372036854775807 by omega)]
        exact hr
    have e2 : (if okStage xs i = true then r else false) = if okHead xs i = true then (if allB (okNeed xs i) (rd_T34 xs (i : Int)).f3.length = true then r else false) else false := by
      unfold okStage
      cases okHead xs i <;> simp
    rw [e2]
    have e1 : 0 < i → wrap64 ((i : Int) - 1) = ((i - 1 : Nat) : Int) := fun _ => by rw [w64] <;> omega
    simp only [spec_l24Ok.l0, if_pos (show (i : Int) < (xs.length : Int) by omega), if_pos (show 0 ≤ (i : Int) by omega), l00In_r, Option.bind_some]
    refine Ev.bind (specName_ev _ (smallS_rd hs i hi).1) ?_
    unfold okHead
    cases nameB (rd_T34 xs (i : Int)).f0
    · simp only [Bool.false_eq_true, if_false, Bool.false_and]; exact jT
    simp only [if_true, Bool.true_and]
    cases inR (rd_T34 xs (i : Int)).f1 1 1000000
    · simp only [Bool.false_eq_true, if_false, Bool.false_and]; exact jT
    simp only [if_true, Bool.true_and]
    cases inR (rd_T34 xs (i : Int)).f2 0 1000000
    · simp only [Bool.false_eq_true, if_false, Bool.false_and]; exact jT
    simp only [if_true, Bool.true_and]
    by_cases c4 : ((rd_T34 xs (i : Int)).f3.length : Int) > 8
    · rw [decide_eq_false (show ¬ (rd_T34 xs (i : Int)).f3.length ≤ 8 by omega)]
      simp only [if_pos c4, Bool.false_and, Bool.false_eq_true, if_false]; exact jT
    rw [decide_eq_true (show (rd_T34 xs (i : Int)).f3.length ≤ 8 by omega)]
    simp only [if_neg c4, Bool.true_and]
    by_cases c5 : i = 0
    · subst c5
      simp only [if_neg (show ¬ ((0 : Nat) : Int) > 0 by omega), decide_true, Bool.true_or, if_true]; exact jF
    · rw [decide_eq_false c5]
      simp only [if_pos (show (i : Int) > 0 by omega), e1 (by omega), if_pos (show 0 ≤ ((i - 1 : Nat) : Int) by omega), if_pos (show ((i - 1 : Nat) : Int) < (xs.length : Int) by omega), Bool.false_or]
      cases Op.bytesLess (rd_T34 xs ((i - 1 : Nat) : Int)).f0.toList (rd_T34 xs (i : Int)).f0.toList
      · simp only [Bool.not_false, Bool.false_eq_true, if_false]; exact jT
      · simp only [Bool.not_true, if_true]; exact jF
  · simp only [spec_l24Ok.l0, if_neg (show ¬ (xs.length : Int) < (xs.length : Int) by omega)]
    exact specFull_ev xs hs (by omega)

/-! the program's way -/
theorem inB0_iota (xs : List SG) : inB0 xs (iota xs.length) = true := by
  unfold inB0
  rw [List.all_eq_true]
  intro x hx
  have := (iota_mem _ _).1 hx
  simp only [Bool.and_eq_true, decide_eq_true_eq]
  exact this
theorem allStages_ev (xs : List SG) (h8 : xs.length ≤ 8) : Ev (fun k => impl_allStages.f k xs) (iota xs.length) := by
  unfold impl_allStages.f
  simp only [if_pos (show 0 ≤ (xs.length : Int) by omega), Int.toNat_natCast, if_pos (show xs.length ≤ 35184372088832 by omega), Option.bind_some, List.length_replicate]
  have h := inv_evE (fun k (s : List Int) i => impl_allStages.l0 k s (xs.length : Int) i) xs.length (fun i s => s.length = xs.length ∧ ∀ j (h : j < i) (h' : j < s.length), s[j] = (j : Int)) (fun r => r = iota xs.length) (fun i s hi h => .inr ?_) (fun s h => ?_) xs.length 0 (List.replicate xs.length 0) (by omega) ⟨by simp, fun j h => absurd h (Nat.not_lt_zero _)⟩
  · obtain ⟨r, rfl, h⟩ := h
    exact h
  · refine ⟨s.set i (i : Int), ⟨by simp [h.1], fun j h1 h2 => ?_⟩, fun r hr => Ev.succ ?_⟩
    · by_cases e : j = i
      · subst e; simp
      · rw [List.getElem_set_ne (by omega)]
        exact h.2 j (by omega) (by simpa using h2)
    · have hl := h.1
      simp only [impl_allStages.l0, if_pos (show (i : Int) < (xs.length : Int) by omega), if_pos (show 0 ≤ (i : Int) by omega), hl, Int.toNat_natCast, w64s (show i < 9223372036854775807 by omega)]
      exact hr
  · refine ⟨s, ?_, Ev.succ ?_⟩
    · apply List.ext_getElem
      · rw [h.1, iota_len]
      · intro j h1 h2
        rw [h.2 j (by have := h.1; omega) h1]
        simp [iota]
    · simp only [impl_allStages.l0, if_neg (show ¬ (xs.length : Int) < (xs.length : Int) by omega)]; exact Ev.now _
theorem implFull_ev (xs : List SG) (h8 : xs.length ≤ 8) : Ev (fun k => (impl_allStages.f k xs).bind fun t => (impl_firstOrder.f k xs t).bind fun u => some ((u.length : Int) == (xs.length : Int))) (fullS xs) := by
  refine Ev.bind (allStages_ev xs h8) ?_
  unfold impl_firstOrder.f
  simp only [if_pos (inB0_iota xs)]
  obtain ⟨r, hr, he⟩ := fo_ev xs (iota xs.length) (by rw [iota_len]; omega) (xs.length + 1) [] List.nodup_nil (fun x hx => absurd hx List.not_mem_nil) (ordOk_nil xs) (by rw [iota_len]; simp)
  refine Ev.bind he ?_
  rw [show fullS xs = ((r.length : Int) == (xs.length : Int)) from by
    unfold fullS
    rw [Bool.eq_iff_iff, decide_eq_true_eq, beq_iff_eq, full_iff hr]; omega]
  exact Ev.now _
theorem implS_ev (xs : List SG) (hs : smallS xs) : Ev (fun k => impl_ValidStages.f k xs) (validS xs) := by
  unfold impl_ValidStages.f validS
  by_cases c8 : (xs.length : Int) > 8
  · simp only [if_pos c8]; rw [decide_eq_false (show ¬ xs.length ≤ 8 by omega), Bool.false_and]; exact Ev.now _
  simp only [if_neg c8]
  rw [decide_eq_true (show xs.length ≤ 8 by omega), Bool.true_and]
  refine all_evE (fun k i => impl_ValidStages.l0 k xs xs (xs.length : Int) i) xs.length (fullS xs) (okStage xs) (fun i hi r hr => Ev.succ ?_) (Ev.succ ?_)
  · have hsm := smallS_rd hs i hi
    generalize hx0 : (rd_T34 xs (i : Int)).f0 = y0
    generalize hx1 : (rd_T34 xs (i : Int)).f1 = y1
    generalize hx2 : (rd_T34 xs (i : Int)).f2 = y2
    generalize hx3 : (rd_T34 xs (i : Int)).f3 = y3
    rw [hx0, hx3] at hsm
    have jT : Ev (fun k => impl_ValidStages.j1 k xs xs (xs.length : Int) (i : Int) true y0 y1 y2 y3) false := Ev.succ (by simp only [impl_ValidStages.j1, if_true]; exact Ev.now _)
    have jF : Ev (fun k => impl_ValidStages.j1 k xs xs (xs.length : Int) (i : Int) false y0 y1 y2 y3) (if allB (okNeed xs i) y3.length = true then r else false) := by
      refine Ev.succ ?_
      simp only [impl_ValidStages.j1, Bool.false_eq_true, if_false]
      refine scan_evE (fun k j => impl_ValidStages.l1 k xs xs (xs.length : Int) (i : Int) y3 (y3.length : Int) j y0 y1 y2 y3) y3.length r false (okNeed xs i) (fun j hj r2 hr2 => Ev.succ ?_) (Ev.succ ?_)
      · have e0 : ∀ b, impl_stageAt.f xs b = some (stageIx xs b) := fun b => rfl
        simp only [impl_ValidStages.l1, if_pos (show (j : Int) < (y3.length : Int) by omega), if_pos (show 0 ≤ (j : Int) by omega), e0, Option.bind_some, w64s (show j < 9223372036854775807 by omega)]
        by_cases c1 : stageIx xs (rdOf ByteArray.empty y3 (j : Int)) < 0
        · simp only [if_pos c1]
          rw [if_neg (by unfold okNeed; rw [hx3, decide_eq_true c1]; simp)]; exact Ev.now _
        · simp only [if_neg c1]
          by_cases c2 : j = 0
          · subst c2
            rw [if_pos (by unfold okNeed; rw [hx3, decide_eq_false c1]; rfl)]
            simp only [if_neg (show ¬ ((0 : Nat) : Int) > 0 by omega)]; exact hr2
          · have e1 : wrap64 ((j : Int) - 1) = ((j - 1 : Nat) : Int) := by rw [w64] <;> omega
            simp only [if_pos (show (j : Int) > 0 by omega), e1, if_pos (show 0 ≤ ((j - 1 : Nat) : Int) by omega), if_pos (show ((j - 1 : Nat) : Int) < (y3.length : Int) by omega)]
            rw [show okNeed xs i j = Op.bytesLess (rdOf ByteArray.empty y3 ((j - 1 : Nat) : Int)).toList (rdOf ByteArray.empty y3 (j : Int)).toList from by unfold okNeed; rw [hx3, decide_eq_false c1, decide_eq_false c2, Bool.false_or]; rfl]
            cases Op.bytesLess (rdOf ByteArray.empty y3 ((j - 1 : Nat) : Int)).toList (rdOf ByteArray.empty y3 (j : Int)).toList
            · simp only [Bool.false_eq_true, if_false]; exact Ev.now _
            · simp only [if_true]; exact hr2
      · simp only [impl_ValidStages.l1, if_neg (show ¬ (y3.length : Int) < (y3.length : Int) by omega), w64s (show i < 9223372036854775807 by omega)]
        exact hr
    have e2 : (if okStage xs i = true then r else false) = if okHead xs i = true then (if allB (okNeed xs i) y3.length = true then r else false) else false := by
      unfold okStage
      rw [hx3]
      cases okHead xs i <;> simp
    rw [e2]
    have e1 : 0 < i → wrap64 ((i : Int) - 1) = ((i - 1 : Nat) : Int) := fun _ => by rw [w64] <;> omega
    simp only [impl_ValidStages.l0, if_pos (show (i : Int) < (xs.length : Int) by omega), if_pos (show 0 ≤ (i : Int) by omega), within_r, Option.bind_some, hx0, hx1, hx2, hx3]
    refine Ev.bind (implName_ev _ hsm.1) ?_
    unfold okHead
    rw [hx0, hx1, hx2, hx3]
    cases nameB y0
    · simp only [Bool.false_eq_true, if_false, Bool.false_and]; exact jT
    simp only [if_true, Bool.true_and]
    cases inR y1 1 1000000
    · simp only [Bool.false_eq_true, if_false, Bool.false_and]; exact jT
    simp only [if_true, Bool.true_and]
    cases inR y2 0 1000000
    · simp only [Bool.false_eq_true, if_false, Bool.false_and]; exact jT
    simp only [if_true, Bool.true_and]
    by_cases c4 : (y3.length : Int) > 8
    · rw [decide_eq_false (show ¬ y3.length ≤ 8 by omega)]
      simp only [if_pos c4, Bool.false_and, Bool.false_eq_true, if_false]; exact jT
    rw [decide_eq_true (show y3.length ≤ 8 by omega)]
    simp only [if_neg c4, Bool.true_and]
    by_cases c5 : i = 0
    · subst c5
      simp only [if_neg (show ¬ ((0 : Nat) : Int) > 0 by omega), decide_true, Bool.true_or, if_true]; exact jF
    · rw [decide_eq_false c5]
      simp only [if_pos (show (i : Int) > 0 by omega), e1 (by omega), if_pos (show 0 ≤ ((i - 1 : Nat) : Int) by omega), if_pos (show ((i - 1 : Nat) : Int) < (xs.length : Int) by omega), Bool.false_or]
      cases Op.bytesLess (rd_T34 xs ((i - 1 : Nat) : Int)).f0.toList y0.toList
      · simp only [Bool.not_false, Bool.false_eq_true, if_false]; exact jT
      · simp only [Bool.not_true, if_true]; exact jF
  · simp only [impl_ValidStages.l0, if_neg (show ¬ (xs.length : Int) < (xs.length : Int) by omega)]
    exact implFull_ev xs (by omega)
theorem validS_len {xs : List SG} (h : validS xs = true) : xs.length ≤ 8 := by
  unfold validS at h
  simp only [Bool.and_eq_true, decide_eq_true_eq] at h
  exact h.1


theorem eqInts_ev (xs : List Int) (hl : xs.length < 9223372036854775807) : Ev (fun k => laws_eqInt64S.f k xs xs) true := by
  unfold laws_eqInt64S.f
  simp only [if_true]
  have := all_ev (fun k i => laws_eqInt64S.l0 k xs xs i) xs.length true (fun _ => true) (fun i hi => ⟨0, fun k _ => ?_⟩) ⟨0, fun k _ => ?_⟩
  · rw [allB_const] at this; exact this
  · simp only [laws_eqInt64S.l0]
    rw [if_pos (by omega), if_pos (by omega), if_pos (by omega)]
    simp only [if_true, w64s (show i < 9223372036854775807 by omega)]
  · simp only [laws_eqInt64S.l0]
    rw [if_neg (by omega)]

/-- What the rows say of the stages. -/
theorem smallS_cv (xs : List S80) (hl : xs.length < 9223372036854775807) (hx : ∀ x ∈ xs, x.f0.size < 9223372036854775807 ∧ x.f3.length < 9223372036854775807) : smallS (xs.map cvStage) := by
  refine ⟨by simpa using hl, fun y hy => ?_⟩
  obtain ⟨x, h, rfl⟩ := List.mem_map.1 hy
  exact hx x h

/-! stages, handed over: how much they take, and their marks -/
def needSum {α : Type} (f : α → List ByteArray) (xs : List α) : Nat := (xs.map fun x => (f x).length).sum
theorem needSum_take {α : Type} (f : α → List ByteArray) (xs : List α) (i : Nat) (h : i < xs.length) : needSum f (xs.take (i + 1)) = needSum f (xs.take i) + (f xs[i]).length := by
  unfold needSum
  rw [List.take_succ_eq_append_getElem h, List.map_append, List.sum_append]
  simp only [List.map_cons, List.map_nil, List.sum_cons, List.sum_nil, Nat.add_zero]
theorem szStrs_b (xs : List ByteArray) (a : Int) (h0 : 0 ≤ a) (h9 : a ≤ 1048576) (hl : xs.length ≤ 140737488351232) (hn : ∀ x ∈ xs, x.size ≤ 140737488351232) : ∃ r : Int, (r < 0 ∨ r + (xs.length : Int) ≤ a) ∧ Ev (fun k => laws_szStringS.f k xs a) r := by
  unfold laws_szStringS.f
  rw [w64 (x := a - (xs.length : Int)) (by omega) (by omega)]
  by_cases c : a - (xs.length : Int) < 0
  · simp only [if_pos c]; exact ⟨-1, .inl (by decide), Ev.now _⟩
  · simp only [if_neg c]
    refine inv_evE (fun k (s : Int) i => laws_szStringS.l0 k xs s i) xs.length (fun _ s => 0 ≤ s ∧ s + (xs.length : Int) ≤ a) (fun r => r < 0 ∨ r + (xs.length : Int) ≤ a) (fun i s hi hs => ?_) (fun s hs => ⟨s, .inr hs.2, Ev.succ ?_⟩) xs.length 0 _ (by omega) ⟨by omega, by omega⟩
    · have hx : (rdOf ByteArray.empty xs (i : Int)).size ≤ 140737488351232 := by
        rw [rdOf_cast xs i hi]; exact hn _ (List.getElem_mem hi)
      have e : wrap64 (s - ((rdOf ByteArray.empty xs (i : Int)).size : Int)) = s - ((rdOf ByteArray.empty xs (i : Int)).size : Int) := w64 (by omega) (by omega)
      by_cases c2 : s - ((rdOf ByteArray.empty xs (i : Int)).size : Int) < 0
      · refine .inl ⟨-1, .inl (by decide), Ev.succ ?_⟩
        simp only [laws_szStringS.l0, if_pos (show (i : Int) < (xs.length : Int) by omega), if_pos (show 0 ≤ (i : Int) by omega), e, if_pos c2]; exact Ev.now _
      · refine .inr ⟨s - ((rdOf ByteArray.empty xs (i : Int)).size : Int), ⟨by omega, by omega⟩, fun r hr => Ev.succ ?_⟩
        simp only [laws_szStringS.l0, if_pos (show (i : Int) < (xs.length : Int) by omega), if_pos (show 0 ≤ (i : Int) by omega), e, if_neg c2, w64s (show i < 9223372036854775807 by omega)]; exact hr
    · simp only [laws_szStringS.l0, if_neg (show ¬ (xs.length : Int) < (xs.length : Int) by omega)]; exact Ev.now _
theorem szStage_b (xs : List S80) (hl : xs.length ≤ 140737488351232) (hn : ∀ x ∈ xs, x.f0.size ≤ 140737488351232 ∧ x.f3.length ≤ 140737488351232 ∧ ∀ y ∈ x.f3, y.size ≤ 140737488351232) : ∃ r : Int, (r < 0 ∨ r + (xs.length : Int) + (needSum S80.f3 xs : Int) ≤ 1048576) ∧ Ev (fun k => laws_szStageS.f k xs 1048576) r := by
  unfold laws_szStageS.f
  rw [w64 (x := 1048576 - (xs.length : Int)) (by omega) (by omega)]
  by_cases c : 1048576 - (xs.length : Int) < 0
  · simp only [if_pos c]; exact ⟨-1, .inl (by decide), Ev.now _⟩
  · simp only [if_neg c]
    refine inv_evE (fun k (s : Int) i => laws_szStageS.l0 k xs s i) xs.length (fun i s => 0 ≤ s ∧ s + (xs.length : Int) + (needSum S80.f3 (xs.take i) : Int) ≤ 1048576) (fun r => r < 0 ∨ r + (xs.length : Int) + (needSum S80.f3 xs : Int) ≤ 1048576) (fun i s hi hs => ?_) (fun s hs => ⟨s, .inr (by have := hs.2; rwa [List.take_length] at this), Ev.succ ?_⟩) xs.length 0 _ (by omega) ⟨by omega, by simp [needSum]⟩
    · obtain ⟨hx0, hx1, hx2⟩ := hn xs[i] (List.getElem_mem hi)
      have ht := needSum_take S80.f3 xs i hi
      have e0 := rdl_Stage xs i hi
      have key : ∃ t : Int, (t < 0 ∨ t + (xs[i].f3.length : Int) ≤ s) ∧ Ev (fun k => laws_szStage.f k xs[i].f0 xs[i].f1 xs[i].f2 xs[i].f3 s) t := by
        unfold laws_szStage.f
        rw [w64 (x := s - (xs[i].f0.size : Int)) (by omega) (by omega)]
        by_cases c2 : s - (xs[i].f0.size : Int) < 0
        · simp only [if_pos c2]; exact ⟨-1, .inl (by decide), Ev.now _⟩
        · simp only [if_neg c2]
          obtain ⟨q, hq, hq2⟩ := szStrs_b xs[i].f3 (s - (xs[i].f0.size : Int)) (by omega) (by omega) hx1 hx2
          by_cases c3 : q < 0
          · exact ⟨-1, .inl (by decide), Ev.bind hq2 (by simp only [if_pos c3]; exact Ev.now _)⟩
          · exact ⟨q, .inr (by omega), Ev.bind hq2 (by simp only [if_neg c3]; exact Ev.now _)⟩
      obtain ⟨t, ht2, ht3⟩ := key
      by_cases c2 : t < 0
      · refine .inl ⟨-1, .inl (by decide), Ev.succ ?_⟩
        simp only [laws_szStageS.l0, if_pos (show (i : Int) < (xs.length : Int) by omega), if_pos (show 0 ≤ (i : Int) by omega), e0]
        exact Ev.bind ht3 (by simp only [if_pos c2]; exact Ev.now _)
      · refine .inr ⟨t, ⟨by omega, by omega⟩, fun r hr => Ev.succ ?_⟩
        simp only [laws_szStageS.l0, if_pos (show (i : Int) < (xs.length : Int) by omega), if_pos (show 0 ≤ (i : Int) by omega), e0, w64s (show i < 9223372036854775807 by omega)]
        exact Ev.bind ht3 (by simp only [if_neg c2]; exact hr)
    · simp only [laws_szStageS.l0, if_neg (show ¬ (xs.length : Int) < (xs.length : Int) by omega)]; exact Ev.now _
theorem markText_in : ∀ (n : Nat) (s : ByteArray), s.size + n ≤ 4611686018427387904 → ∃ t, Ev (fun k => laws_markText.l0 k (n : Int) s) t := by
  intro n
  induction n using Nat.strongRecOn with
  | ind n ih =>
    intro s hs
    by_cases c : n = 0
    · subst c
      refine ⟨(⟨#[109]⟩ : ByteArray) ++ s, Ev.succ ?_⟩
      · simp only [laws_markText.l0, if_neg (show ¬ ((0 : Nat) : Int) > 0 by omega), if_pos (show 1 + s.size ≤ 9223372036854775807 by omega)]; exact Ev.now _
    · obtain ⟨t, ht⟩ := ih (n / 10) (by omega) (strOfNums [(wrap64 (48 + (Int.tmod (n : Int) 10))) % 256] ++ s) (by rw [ByteArray.size_append, strOfNums_size]; simp only [List.length_cons, List.length_nil]; omega)
      refine ⟨t, Ev.succ ?_⟩
      have e : wrap64 (Int.tdiv (n : Int) 10) = ((n / 10 : Nat) : Int) := by
        rw [show Int.tdiv (n : Int) 10 = ((n / 10 : Nat) : Int) by rw [Int.tdiv_eq_ediv_of_nonneg (by omega)]; omega]
        exact w64 (by omega) (by omega)
      have hz : (strOfNums [(wrap64 (48 + (Int.tmod (n : Int) 10))) % 256]).size + s.size ≤ 9223372036854775807 := by
        rw [strOfNums_size]; simp only [List.length_cons, List.length_nil]; omega
      simp only [laws_markText.l0, if_pos (show (n : Int) > 0 by omega), Option.bind_some, if_pos hz, e]
      exact ht
theorem markText_ev (a : Int) (h : a ≤ 4611686018427387904) : ∃ t, Ev (fun k => laws_markText.f k a) t := by
  unfold laws_markText.f
  by_cases c : a ≤ 0
  · simp only [if_pos c]; exact ⟨_, Ev.now _⟩
  · simp only [if_neg c]
    obtain ⟨n, rfl⟩ := Int.eq_ofNat_of_zero_le (show 0 ≤ a by omega)
    exact markText_in n _ (by simp [ByteArray.size]; omega)
theorem mkS_ev : ∀ (d : Nat) (a : Int), 0 ≤ a → a + (d : Int) ≤ 4611686018427387904 → Ev (fun k => mkS k d a) (a + (d : Int))
  | 0, a, _, _ => by simp only [mkS]; rw [show a + ((0 : Nat) : Int) = a by omega]; exact Ev.now _
  | d + 1, a, h0, h1 => by
    obtain ⟨t, ht⟩ := markText_ev a (by omega)
    simp only [mkS]
    refine Ev.bind ht ?_
    rw [w64 (x := a + 1) (by omega) (by omega)]
    have := mkS_ev d (a + 1) (by omega) (by omega)
    rwa [show a + 1 + (d : Int) = a + ((d + 1 : Nat) : Int) by omega] at this
theorem mkG_ev : ∀ (xs : List SG) (a : Int), 0 ≤ a → a + 3 * (xs.length : Int) + (needSum S34.f3 xs : Int) ≤ 4611686018427387904 → Ev (fun k => mkG k xs a) (a + 3 * (xs.length : Int) + (needSum S34.f3 xs : Int))
  | [], a, _, _ => by
    simp only [mkG]
    rw [show a + 3 * (([] : List SG).length : Int) + (needSum S34.f3 [] : Int) = a by simp [needSum]]; exact Ev.now _
  | x :: xs, a, h0, h1 => by
    have e : (needSum S34.f3 (x :: xs) : Int) = (x.f3.length : Int) + (needSum S34.f3 xs : Int) := by simp [needSum]
    rw [e] at h1 ⊢
    simp only [List.length_cons] at h1 ⊢
    obtain ⟨t, ht⟩ := markText_ev a (by omega)
    simp only [mkG]
    refine Ev.bind ht ?_
    rw [w64 (x := a + 1) (by omega) (by omega), w64 (x := a + 1 + 1) (by omega) (by omega), w64 (x := a + 1 + 1 + 1) (by omega) (by omega)]
    refine Ev.bind (mkS_ev x.f3.length (a + 1 + 1 + 1) (by omega) (by omega)) ?_
    have := mkG_ev xs (a + 1 + 1 + 1 + (x.f3.length : Int)) (by omega) (by omega)
    rwa [show a + 1 + 1 + 1 + (x.f3.length : Int) + 3 * (xs.length : Int) + (needSum S34.f3 xs : Int) = a + 3 * ((xs.length + 1 : Nat) : Int) + ((x.f3.length : Int) + (needSum S34.f3 xs : Int)) by omega] at this
theorem needSum_mem {α : Type} (f : α → List ByteArray) {xs : List α} {x : α} (h : x ∈ xs) : (f x).length ≤ needSum f xs := by
  induction xs with
  | nil => cases h
  | cons y ys ih =>
    have e : needSum f (y :: ys) = (f y).length + needSum f ys := by simp [needSum]
    rw [e]
    rcases List.mem_cons.1 h with rfl | h
    · omega
    · have := ih h; omega
theorem needSum_cv (xs : List S80) : needSum S34.f3 (xs.map cvStage) = needSum S80.f3 xs := by
  unfold needSum
  rw [List.map_map]
  rfl
theorem markStage_ev (xs : List SG) (h : 3 * xs.length + needSum S34.f3 xs ≤ 1152921504606846976) : Ev (fun k => laws_markStageS.f k xs 1) (1 + 3 * (xs.length : Int) + (needSum S34.f3 xs : Int)) := by
  unfold laws_markStageS.f
  have hc : (decide (xs.length ≤ 4611686018427387904) && xs.all (fun x => decide (x.f3.length ≤ 4611686018427387904))) = true := by
    simp only [Bool.and_eq_true, decide_eq_true_eq, List.all_eq_true]
    exact ⟨by omega, fun x hx => by have := needSum_mem S34.f3 hx; omega⟩
  simp only [if_pos hc]
  exact mkG_ev xs 1 (by omega) (by omega)

/-- What a list reads behind its marking, i of its numbers being marked. -/
def mk1 (xs : List Int) (i : Nat) : List Int := (List.range i).map (fun j : Nat => (j : Int) + 1) ++ xs.drop i
theorem mk1_len (xs : List Int) (i : Nat) (h : i ≤ xs.length) : (mk1 xs i).length = xs.length := by simp [mk1]; omega
theorem mk1_set (xs : List Int) (i : Nat) (h : i < xs.length) : (mk1 xs i).set i ((i : Int) + 1) = mk1 xs (i + 1) := by
  unfold mk1
  rw [List.set_append_right _ _ (by simp)]
  simp only [List.length_map, List.length_range, Nat.sub_self]
  rw [List.range_succ, List.map_append, List.append_assoc]
  congr 1
  rw [List.drop_eq_getElem_cons h]
  rfl
theorem markInts_ev (xs : List Int) (hl : xs.length < 4611686018427387904) : Ev (fun k => laws_markInt64S.f k xs 1) ((xs.length : Int) + 1, mk1 xs xs.length) := by
  unfold laws_markInt64S.f
  have h := fold_ev (fun k (s : List Int × Int) i => laws_markInt64S.l0 k s.1 s.2 i) xs.length (fun i => (mk1 xs i, (i : Int) + 1)) ((xs.length : Int) + 1, mk1 xs xs.length) (fun i hi => ⟨0, fun k _ => ?_⟩) ⟨0, fun k _ => ?_⟩ 0 (by omega)
  · simpa [mk1] using h
  · simp only [laws_markInt64S.l0, mk1_len xs i (by omega)]
    rw [if_pos (by omega), if_pos (by omega), w64s (by omega)]
    rw [show ((i : Int)).toNat = i from by omega, mk1_set xs i hi, show wrap64 ((i : Int) + 1 + 1) = ((i + 1 : Nat) : Int) + 1 from by rw [w64] <;> omega]
  · simp only [laws_markInt64S.l0, mk1_len xs xs.length (Nat.le_refl _)]
    rw [if_neg (by omega)]
theorem heldInts_ev (xs : List Int) (hl : xs.length < 4611686018427387904) : Ev (fun k => laws_heldInt64S.f k (mk1 xs xs.length) 1) ((xs.length : Int) + 1) := by
  unfold laws_heldInt64S.f
  have e := mk1_len xs xs.length (Nat.le_refl _)
  have h := fold_ev (fun k (s : Int) i => laws_heldInt64S.l0 k (mk1 xs xs.length) s i) xs.length (fun i => (i : Int) + 1) ((xs.length : Int) + 1) (fun i hi => ⟨0, fun k _ => ?_⟩) ⟨0, fun k _ => ?_⟩ 0 (by omega)
  · simpa using h
  · simp only [laws_heldInt64S.l0, e]
    have hr : rd (mk1 xs xs.length) (i : Int) = (i : Int) + 1 := by
      rw [rd_at _ i (by rw [e]; exact hi)]
      simp [mk1, List.getElem_append, hi]
    rw [if_pos (by omega), if_pos (by omega), hr, if_pos rfl, w64s (by omega), show wrap64 ((i : Int) + 1 + 1) = ((i + 1 : Nat) : Int) + 1 from by rw [w64] <;> omega]
  · simp only [laws_heldInt64S.l0, e]
    rw [if_neg (by omega)]

end Go.Proofs.Ytmbiapefigcgnaa.PFnExactBestPlan
namespace Go.Proofs.Ytmbiapefigcgnaa.Pure
open Go.RowKit Go.Proofs.YtmbiapefigcgnaaW.PrintWords Go.Proofs.YtmbiapefigcgnaaW.PLib Go.Proofs.Ytmbiapefigcgnaa.PFnExactBestPlan

theorem implHas_ev (xs : List Int) (a : Int) (hl : xs.length < 9223372036854775807) : Ev (fun k => slices_Contains_int64_int64.f k xs a) (hasI xs a) := by
  unfold slices_Contains_int64_int64.f slices_Index_int64_int64.f hasI
  have key : ∀ d i, i + d = xs.length → ∃ r : Int, decide (r ≥ 0) = ((xs.drop i).any fun x => decide (a = x)) ∧ Ev (fun k => slices_Index_int64_int64.l0 k xs a (xs.length : Int) (i : Int)) r := by
    intro d
    induction d with
    | zero =>
      intro i hi
      refine ⟨-1, ?_, Ev.succ ?_⟩
      · rw [List.drop_eq_nil_of_le (by omega)]; rfl
      · simp only [slices_Index_int64_int64.l0, if_neg (show ¬ (i : Int) < (xs.length : Int) by omega)]; exact Ev.now _
    | succ d ih =>
      intro i hi
      have hlt : i < xs.length := by omega
      rw [List.drop_eq_getElem_cons hlt, List.any_cons]
      by_cases c : a = xs[i]
      · refine ⟨(i : Int), ?_, Ev.succ ?_⟩
        · rw [decide_eq_true c, Bool.true_or, decide_eq_true (show (i : Int) ≥ 0 by omega)]
        · simp only [slices_Index_int64_int64.l0, if_pos (show (i : Int) < (xs.length : Int) by omega), if_pos (show 0 ≤ (i : Int) by omega), rd_at xs i hlt, if_pos c]; exact Ev.now _
      · obtain ⟨r, h1, h2⟩ := ih (i + 1) (by omega)
        refine ⟨r, ?_, Ev.succ ?_⟩
        · rw [decide_eq_false c, Bool.false_or]; exact h1
        · simp only [slices_Index_int64_int64.l0, if_pos (show (i : Int) < (xs.length : Int) by omega), if_pos (show 0 ≤ (i : Int) by omega), rd_at xs i hlt, if_neg c, w64s (show i < 9223372036854775807 by omega)]; exact h2
  obtain ⟨r, h1, h2⟩ := key xs.length 0 (by omega)
  rw [List.drop_zero] at h1
  refine Ev.bind h2 ?_
  rw [← h1]; exact Ev.now _

theorem valid_rng {xs : List SG} (h : validS xs = true) (i : Nat) (hi : i < xs.length) : 1 ≤ (rd_T34 xs (i : Int)).f1 ∧ (rd_T34 xs (i : Int)).f1 ≤ 1000000 ∧ 0 ≤ (rd_T34 xs (i : Int)).f2 ∧ (rd_T34 xs (i : Int)).f2 ≤ 1000000 := by
  unfold validS at h
  simp only [Bool.and_eq_true] at h
  have h1 := allB_true.1 h.2.1 i hi
  unfold okStage okHead inR at h1
  simp only [Bool.and_eq_true, decide_eq_true_eq] at h1
  exact ⟨h1.1.2.1.1, h1.1.2.1.2, h1.1.2.2.1.1, h1.1.2.2.1.2⟩

/-! the search for a plan: the program's and the reference's -/
/-- What the first i stages of an order cost. -/
def costT (xs : List SG) (l : List Int) : Nat → Int
  | 0 => 0
  | i + 1 => wrap64 (costT xs l i + (rd_T34 xs (rd l (i : Int))).f1)
/-- The years in which they are ready. -/
def yearT (xs : List SG) (l : List Int) (a : Int) : Nat → List Int
  | 0 => []
  | i + 1 => yearT xs l a i ++ [wrap64 (Int.tdiv (wrap64 ((wrap64 (costT xs l (i + 1) + a)) - 1)) a)]
/-- What they are worth within y years. -/
def gainV (xs : List SG) (l ys : List Int) (y : Int) : Nat → Int
  | 0 => 0
  | i + 1 => wrap64 (gainV xs l ys y i + wrap64 ((rd_T34 xs (rd l (i : Int))).f2 * (if wrap64 (y - rd ys (i : Int)) < 0 then 0 else wrap64 (y - rd ys (i : Int)))))
theorem yearT_len (xs : List SG) (l : List Int) (a : Int) : ∀ i, (yearT xs l a i).length = i
  | 0 => rfl
  | i + 1 => by
    unfold yearT
    rw [List.length_append, yearT_len xs l a i]
    rfl
theorem rd_app (l m : List Int) (i : Nat) (h : i < l.length) : rd (l ++ m) (i : Int) = rd l (i : Int) := by
  rw [rd_at (l ++ m) i (by rw [List.length_append]; omega), rd_at l i h, List.getElem_append_left h]
theorem rd_snoc (l : List Int) (a : Int) : rd (l ++ [a]) (l.length : Int) = a := by
  rw [rd_at (l ++ [a]) l.length (by simp), List.getElem_append_right (Nat.le_refl _)]
  simp
theorem costT_app (xs : List SG) (l m : List Int) : ∀ i, i ≤ l.length → costT xs (l ++ m) i = costT xs l i
  | 0, _ => rfl
  | i + 1, h => by
    unfold costT
    rw [costT_app xs l m i (by omega), rd_app l m i (by omega)]
theorem yearT_app (xs : List SG) (l m : List Int) (a : Int) : ∀ i, i ≤ l.length → yearT xs (l ++ m) a i = yearT xs l a i
  | 0, _ => rfl
  | i + 1, h => by
    unfold yearT
    rw [yearT_app xs l m a i (by omega), costT_app xs l m (i + 1) h]
theorem gainV_app (xs : List SG) (l m ys zs : List Int) (y : Int) : ∀ i, i ≤ l.length → i ≤ ys.length → gainV xs (l ++ m) (ys ++ zs) y i = gainV xs l ys y i
  | 0, _, _ => rfl
  | i + 1, h, h2 => by
    unfold gainV
    rw [gainV_app xs l m ys zs y i (by omega) (by omega), rd_app l m i (by omega), rd_app ys zs i (by omega)]
theorem specYears_ev (xs : List SG) (l : List Int) (a : Int) (ha : 1 ≤ a) (hl : l.length ≤ 1048576) (hq : ∀ x ∈ l, 0 ≤ x ∧ x < (xs.length : Int)) : Ev (fun k => spec_l24Years.f k xs l a) (yearT xs l a l.length) := by
  unfold spec_l24Years.f
  refine fold_from (fun k (s : List Int × Int) i => spec_l24Years.l0 k xs l a s.1 s.2 i) 0 l.length (fun i => (yearT xs l a i, costT xs l i)) (yearT xs l a l.length) (Nat.zero_le _) (fun i _ hi r hr => Ev.succ ?_) (Ev.succ ?_)
  · have hx := hq l[i] (List.getElem_mem hi)
    rw [← rd_at l i hi] at hx
    have hlen := yearT_len xs l a i
    simp only [spec_l24Years.l0, if_pos (show (i : Int) < (l.length : Int) by omega), if_pos (show 0 ≤ (i : Int) by omega), if_pos hx.1, if_pos hx.2, if_neg (show ¬ a = 0 by omega), if_pos (show (yearT xs l a i).length < 17592186044416 by omega), w64s (show i < 9223372036854775807 by omega)]
    exact hr
  · simp only [spec_l24Years.l0, if_neg (show ¬ (l.length : Int) < (l.length : Int) by omega)]; exact Ev.now _
theorem worth_ev (xs : List SG) (l ys : List Int) (y : Int) (hl : l.length ≤ 1048576) (hy : ys.length = l.length) (hq : ∀ x ∈ l, 0 ≤ x ∧ x < (xs.length : Int)) : Ev (fun k => spec_l24Worth.f k xs l ys y) (gainV xs l ys y l.length) := by
  unfold spec_l24Worth.f
  refine fold_from (fun k (s : Int) i => spec_l24Worth.l0 k xs l ys y s i) 0 l.length (gainV xs l ys y) (gainV xs l ys y l.length) (Nat.zero_le _) (fun i _ hi r hr => Ev.succ ?_) (Ev.succ ?_)
  · have hx := hq l[i] (List.getElem_mem hi)
    rw [← rd_at l i hi] at hx
    have hm : spec_l00Max.f 0 (wrap64 (y - rd ys (i : Int))) = some (if wrap64 (y - rd ys (i : Int)) < 0 then 0 else wrap64 (y - rd ys (i : Int))) := by
      unfold spec_l00Max.f
      by_cases c : wrap64 (y - rd ys (i : Int)) < 0
      · rw [if_pos (show 0 > wrap64 (y - rd ys (i : Int)) from c), if_pos c]
      · rw [if_neg (show ¬ 0 > wrap64 (y - rd ys (i : Int)) from c), if_neg c]
    simp only [spec_l24Worth.l0, if_pos (show (i : Int) < (l.length : Int) by omega), if_pos (show (i : Int) < (ys.length : Int) by omega), if_pos (show 0 ≤ (i : Int) by omega), if_pos hx.1, if_pos hx.2, hm, Option.bind_some, w64s (show i < 9223372036854775807 by omega)]
    exact hr
  · simp only [spec_l24Worth.l0, if_neg (show ¬ (l.length : Int) < (l.length : Int) by omega)]; exact Ev.now _
structure Ok (xs : List SG) (a1 a2 : Int) (o : List Int) (cost worth : Int) : Prop where
  nd : o.Nodup
  rng : ∀ a ∈ o, 0 ≤ a ∧ a < (xs.length : Int)
  c : costT xs o o.length = cost
  w : gainV xs o (yearT xs o a1 o.length) a2 o.length = worth
  c0 : 0 ≤ cost
  c1 : cost ≤ 1000000 * (o.length : Int)
theorem Ok.len {xs : List SG} {a1 a2 : Int} {o : List Int} {cost worth : Int} (h : Ok xs a1 a2 o cost worth) : o.length ≤ xs.length := by
  have := nodup_len (m := iota xs.length) h.nd (fun x hx => (iota_mem _ x).2 (h.rng x hx))
  rwa [iota_len] at this
/-- The year of the next one. -/
def nextY (a1 c : Int) : Int := wrap64 (Int.tdiv (wrap64 ((wrap64 (c + a1)) - 1)) a1)
theorem nextY_0 (a1 c : Int) (h0 : 1 ≤ a1) (h1 : a1 ≤ 1000000) (c0 : 1 ≤ c) (c1 : c ≤ 1000000000) : 0 ≤ nextY a1 c := by
  unfold nextY
  rw [show wrap64 (c + a1) = c + a1 by rw [w64] <;> omega, show wrap64 (c + a1 - 1) = c + a1 - 1 by rw [w64] <;> omega]
  have t0 : 0 ≤ Int.tdiv (c + a1 - 1) a1 := Int.tdiv_nonneg (by omega) (by omega)
  have t1 : Int.tdiv (c + a1 - 1) a1 ≤ c + a1 - 1 := by rw [Int.tdiv_eq_ediv_of_nonneg (by omega)]; exact Int.ediv_le_self _ (by omega)
  rw [w64] <;> omega
theorem ok_step {xs : List SG} (hv : validS xs = true) {a1 a2 : Int} (h0 : 1 ≤ a1) (h1 : a1 ≤ 1000000) (h2 : a2 ≤ 10) {o : List Int} {cost worth : Int} (h : Ok xs a1 a2 o cost worth) (i : Nat) (hi : i < xs.length) (hn : (i : Int) ∉ o) :
    yearT xs (o ++ [(i : Int)]) a1 (o ++ [(i : Int)]).length = yearT xs o a1 o.length ++ [nextY a1 (wrap64 (cost + (rd_T34 xs (i : Int)).f1))] ∧
    (nextY a1 (wrap64 (cost + (rd_T34 xs (i : Int)).f1)) ≤ a2 → Ok xs a1 a2 (o ++ [(i : Int)]) (wrap64 (cost + (rd_T34 xs (i : Int)).f1)) (wrap64 (worth + wrap64 ((rd_T34 xs (i : Int)).f2 * wrap64 (a2 - nextY a1 (wrap64 (cost + (rd_T34 xs (i : Int)).f1))))))) := by
  have h8 := validS_len hv
  have hl := h.len
  have hr := valid_rng hv i hi
  have c0 := h.c0
  have c1 := h.c1
  have el : (o ++ [(i : Int)]).length = o.length + 1 := by simp
  have ec : costT xs (o ++ [(i : Int)]) (o.length + 1) = wrap64 (cost + (rd_T34 xs (i : Int)).f1) := by
    show wrap64 (costT xs (o ++ [(i : Int)]) o.length + (rd_T34 xs (rd (o ++ [(i : Int)]) (o.length : Int))).f1) = _
    rw [costT_app xs o _ o.length (Nat.le_refl _), rd_snoc, h.c]
  have ew : wrap64 (cost + (rd_T34 xs (i : Int)).f1) = cost + (rd_T34 xs (i : Int)).f1 := by rw [w64] <;> omega
  have ey : yearT xs (o ++ [(i : Int)]) a1 (o ++ [(i : Int)]).length = yearT xs o a1 o.length ++ [nextY a1 (wrap64 (cost + (rd_T34 xs (i : Int)).f1))] := by
    rw [el]
    show yearT xs (o ++ [(i : Int)]) a1 o.length ++ [nextY a1 (costT xs (o ++ [(i : Int)]) (o.length + 1))] = _
    rw [yearT_app xs o _ a1 o.length (Nat.le_refl _), ec]
  refine ⟨ey, fun hy => ⟨?_, ?_, ?_, ?_, ?_, ?_⟩⟩
  · rw [List.nodup_append]
    exact ⟨h.nd, List.nodup_cons.2 ⟨by simp, List.nodup_nil⟩, fun a ha b hb => by
      rw [List.mem_singleton] at hb; subst hb
      exact fun e => hn (e ▸ ha)⟩
  · intro a ha
    rcases List.mem_append.1 ha with ha | ha
    · exact h.rng a ha
    · rw [List.mem_singleton] at ha; subst ha; omega
  · rw [el]; exact ec
  · rw [ey, el]
    have hy0 := nextY_0 a1 (wrap64 (cost + (rd_T34 xs (i : Int)).f1)) h0 h1 (by omega) (by omega)
    generalize nextY a1 (wrap64 (cost + (rd_T34 xs (i : Int)).f1)) = y at hy hy0
    have hyl := yearT_len xs o a1 o.length
    have erd : rd (yearT xs o a1 o.length ++ [y]) (o.length : Int) = y := by
      have := rd_snoc (yearT xs o a1 o.length) y
      rwa [hyl] at this
    show wrap64 (gainV xs (o ++ [(i : Int)]) (yearT xs o a1 o.length ++ [y]) a2 o.length + wrap64 ((rd_T34 xs (rd (o ++ [(i : Int)]) (o.length : Int))).f2 * (if wrap64 (a2 - rd (yearT xs o a1 o.length ++ [y]) (o.length : Int)) < 0 then 0 else wrap64 (a2 - rd (yearT xs o a1 o.length ++ [y]) (o.length : Int))))) = _
    rw [gainV_app xs o _ _ _ a2 o.length (Nat.le_refl _) (by omega), h.w, rd_snoc, erd, if_neg (show ¬ wrap64 (a2 - y) < 0 by rw [w64] <;> omega)]
  · omega
  · rw [el]; omega
/-- The two searches hold the same. -/
def Rel (a1 a2 B : Int) (o : List Int) (s : SVO) (x : SVL) : Prop := ∃ (n : Int) (be : List Int) (mo : Int), s = ⟨a1, a2, B - n, o, be, mo⟩ ∧ x = ⟨a1, a2, o, be, mo, n, B, false⟩ ∧ 0 ≤ n ∧ n ≤ B ∧ be.length ≤ 8
def Out (a1 a2 B : Int) (o : List Int) (s' : SVO) (x' : SVL) : Prop := (x'.full = true ∧ s'.budget < 0) ∨ Rel a1 a2 B o s' x'
theorem rel_first {a1 a2 B : Int} {o : List Int} {s : SVO} {x : SVL} (h : Rel a1 a2 B o s x) (ho : o.length ≤ 8) (w : Int) : Rel a1 a2 B o (firstO w s) (firstL w x) := by
  obtain ⟨n, be, mo, rfl, rfl, h0, h1, h2⟩ := h
  unfold firstO firstL
  by_cases q : mo < w
  · simp only [if_pos q]
    exact ⟨n, o, w, rfl, rfl, h0, h1, ho⟩
  · simp only [if_neg q]
    exact ⟨n, be, mo, rfl, rfl, h0, h1, h2⟩
theorem loopL_full (rec : SVL → Option SVL) (k : Nat) (xs : List SG) : ∀ e s, s.full = true → loopL rec k xs e s = some s
  | 0, s, _ => rfl
  | e + 1, s, h => by unfold loopL; rw [if_pos h]
theorem loop_ev (xs : List SG) (hs : smallS xs) (hv : validS xs = true) (a1 a2 B : Int) (h0 : 1 ≤ a1) (h1 : a1 ≤ 1000000) (h2 : a2 ≤ 10) (hB : B ≤ 20000) (o : List Int) (cost worth : Int) (hok : Ok xs a1 a2 o cost worth)
    (IH : ∀ (i : Nat) (c w : Int), Ok xs a1 a2 (o ++ [(i : Int)]) c w → ∀ s x, Rel a1 a2 B (o ++ [(i : Int)]) s x → ∃ s' x', Ev (fun k => visitO xs k c w s) s' ∧ Ev (fun k => runL xs k x) x' ∧ Out a1 a2 B (o ++ [(i : Int)]) s' x') :
    ∀ (e i : Nat), i + e = xs.length → ∀ s x, Rel a1 a2 B o s x → ∃ s' x', Ev (fun k => loopO (visitO xs k) k xs cost worth e s) s' ∧ Ev (fun k => loopL (runL xs k) k xs e x) x' ∧ Out a1 a2 B o s' x' := by
  have h8 := validS_len hv
  have hl := hok.len
  intro e
  induction e with
  | zero =>
    intro i hi s x h
    refine ⟨s, x, ?_, ?_, .inr h⟩
    · unfold loopO; exact Ev.now _
    · unfold loopL; exact Ev.now _
  | succ e ih =>
    intro i hi s x h
    have ei : xs.length - (e + 1) = i := by omega
    have hin : i < xs.length := by omega
    have e1 := implHas_ev o (i : Int) (by omega)
    have e2 := specHas_ev o (i : Int) (by omega)
    have e3 : impl_hasNeeds.f xs o (i : Int) = some (needsB xs o (i : Int)) := by
      unfold impl_hasNeeds.f
      rw [if_pos (show 0 ≤ (i : Int) by omega), if_pos (show (i : Int) < (xs.length : Int) by omega)]
    have e4 := ready_ev xs o (i : Int) hs.1 (by omega) (smallS_rd' hs _ (by omega) (by omega)) (by omega) (by omega)
    obtain ⟨s9, x9, k1, k2, k3⟩ := ih (i + 1) (by omega) s x h
    obtain ⟨n, be, mo, rfl, rfl, n0, n1, hbe⟩ := h
    unfold loopO loopL
    simp only [ei, Bool.false_eq_true, if_false]
    by_cases c : hasI o (i : Int) = true
    · refine ⟨s9, x9, Ev.bind e1 ?_, Ev.bind e2 ?_, k3⟩
      · simp only [if_pos c]; exact k1
      · simp only [if_pos c]; exact k2
    · have hni : (i : Int) ∉ o := fun hm => c ((hasI_iff o _).2 hm)
      by_cases q : needsB xs o (i : Int) = true
      · obtain ⟨ey, hstep⟩ := ok_step hv h0 h1 h2 hok i hin hni
        have e5 := specYears_ev xs (o ++ [(i : Int)]) a1 h0 (by simp; omega) (fun a ha => by
          rcases List.mem_append.1 ha with ha | ha
          · exact hok.rng a ha
          · rw [List.mem_singleton] at ha; subst ha; omega)
        rw [ey] at e5
        have hyl := yearT_len xs o a1 o.length
        have e6 : impl_divUp.f (wrap64 (cost + (rd_T34 xs (i : Int)).f1)) a1 = some (nextY a1 (wrap64 (cost + (rd_T34 xs (i : Int)).f1))) := by
          unfold impl_divUp.f
          rw [if_neg (show ¬ a1 = 0 by omega)]
          rfl
        generalize nextY a1 (wrap64 (cost + (rd_T34 xs (i : Int)).f1)) = y at e5 e6 hstep
        have hys : 0 < (yearT xs o a1 o.length ++ [y]).length ∧ (yearT xs o a1 o.length ++ [y]).length ≤ 1001 := by rw [List.length_append, List.length_singleton]; omega
        have hyr : rd (yearT xs o a1 o.length ++ [y]) (((yearT xs o a1 o.length ++ [y]).length : Int) - 1) = y := by
          rw [show (((yearT xs o a1 o.length ++ [y]).length : Int) - 1) = ((yearT xs o a1 o.length).length : Int) by rw [List.length_append, List.length_singleton]; omega]
          exact rd_snoc _ _
        generalize yearT xs o a1 o.length ++ [y] = ys at e5 hys hyr
        by_cases qy : a2 < y
        · refine ⟨s9, x9, Ev.bind e1 ?_, Ev.bind e2 ?_, k3⟩
          · simp only [if_neg c, e3, Option.bind_some, if_pos q, e6, if_pos qy]; exact k1
          · simp only [if_neg c]
            refine Ev.bind e4 ?_
            simp only [if_pos q]
            refine Ev.bind e5 ?_
            simp only [if_pos hys, hyr, if_pos qy]; exact k2
        · by_cases qn : n = B
          · refine ⟨⟨a1, a2, -1, o, be, mo⟩, ⟨a1, a2, o, be, mo, n, B, true⟩, Ev.bind e1 ?_, Ev.bind e2 ?_, .inl ⟨rfl, by show (-1 : Int) < 0; decide⟩⟩
            · have wb : wrap64 (B - n - 1) = -1 := by rw [w64] <;> omega
              simp only [if_neg c, e3, Option.bind_some, if_pos q, e6, if_neg qy, wb, if_pos (show (-1 : Int) < 0 by decide)]; exact Ev.now _
            · simp only [if_neg c]
              refine Ev.bind e4 ?_
              simp only [if_pos q]
              refine Ev.bind e5 ?_
              simp only [if_pos hys, hyr, if_neg qy, if_pos qn]; exact Ev.now _
          · have wb : wrap64 (B - n - 1) = B - (n + 1) := by rw [w64] <;> omega
            have wn : wrap64 (n + 1) = n + 1 := by rw [w64] <;> omega
            obtain ⟨s2, x2, m1, m2, m3⟩ := IH i _ _ (hstep (by omega)) ⟨a1, a2, B - (n + 1), o ++ [(i : Int)], be, mo⟩ ⟨a1, a2, o ++ [(i : Int)], be, mo, n + 1, B, false⟩ ⟨n + 1, be, mo, rfl, rfl, by omega, by omega, hbe⟩
            rcases m3 with ⟨f1, f2⟩ | ⟨n2, be2, mo2, rfl, rfl, n20, n21, hbe2⟩
            · refine ⟨⟨s2.yearly, s2.years, s2.budget, s2.order.take (s2.order.length - 1), s2.best, s2.most⟩, ⟨x2.yearly, x2.years, o, x2.best, x2.most, x2.nodes, x2.budget, x2.full⟩, Ev.bind e1 ?_, Ev.bind e2 ?_, .inl ⟨f1, f2⟩⟩
              · simp only [if_neg c, e3, Option.bind_some, if_pos q, e6, if_neg qy, wb, if_neg (show ¬ B - (n + 1) < 0 by omega), if_pos (show o.length < 1000 by omega)]
                refine Ev.bind m1 ?_
                simp only [if_pos f2]; exact Ev.now _
              · simp only [if_neg c]
                refine Ev.bind e4 ?_
                simp only [if_pos q]
                refine Ev.bind e5 ?_
                simp only [if_pos hys, hyr, if_neg qy, if_neg qn, wn]
                refine Ev.bind m2 ?_
                exact Ev.all fun k => loopL_full _ k xs e _ f1
            · obtain ⟨s', x', j1, j2, j3⟩ := ih (i + 1) (by omega) ⟨a1, a2, B - n2, o, be2, mo2⟩ ⟨a1, a2, o, be2, mo2, n2, B, false⟩ ⟨n2, be2, mo2, rfl, rfl, n20, n21, hbe2⟩
              have tk : (o ++ [(i : Int)]).take ((o ++ [(i : Int)]).length - 1) = o := by
                rw [show (o ++ [(i : Int)]).length - 1 = o.length by simp]
                exact List.take_left' rfl
              refine ⟨s', x', Ev.bind e1 ?_, Ev.bind e2 ?_, j3⟩
              · simp only [if_neg c, e3, Option.bind_some, if_pos q, e6, if_neg qy, wb, if_neg (show ¬ B - (n + 1) < 0 by omega), if_pos (show o.length < 1000 by omega)]
                refine Ev.bind m1 ?_
                simp only [if_neg (show ¬ B - n2 < 0 by omega), tk]; exact j1
              · simp only [if_neg c]
                refine Ev.bind e4 ?_
                simp only [if_pos q]
                refine Ev.bind e5 ?_
                simp only [if_pos hys, hyr, if_neg qy, if_neg qn, wn]
                refine Ev.bind m2 ?_
                exact j2
      · refine ⟨s9, x9, Ev.bind e1 ?_, Ev.bind e2 ?_, k3⟩
        · simp only [if_neg c, e3, Option.bind_some, if_neg q]; exact k1
        · simp only [if_neg c]
          refine Ev.bind e4 ?_
          simp only [if_neg q]; exact k2
theorem visit_ev (xs : List SG) (hs : smallS xs) (hv : validS xs = true) (a1 a2 B : Int) (h0 : 1 ≤ a1) (h1 : a1 ≤ 1000000) (h2 : a2 ≤ 10) (hB : B ≤ 20000) : ∀ (d : Nat) (o : List Int) (cost worth : Int), o.length + d = xs.length → Ok xs a1 a2 o cost worth → ∀ s x, Rel a1 a2 B o (firstO worth s) (firstL worth x) → s.order = o → x.order = o → x.yearly = a1 → x.years = a2 →
    ∃ s' x', Ev (fun k => visitO xs k cost worth s) s' ∧ Ev (fun k => runL xs k x) x' ∧ Out a1 a2 B o s' x' := by
  have h8 := validS_len hv
  have key : ∀ (o : List Int) (cost worth : Int), Ok xs a1 a2 o cost worth → (∀ (i : Nat) (c w : Int), Ok xs a1 a2 (o ++ [(i : Int)]) c w → ∀ s x, Rel a1 a2 B (o ++ [(i : Int)]) s x → ∃ s' x', Ev (fun k => visitO xs k c w s) s' ∧ Ev (fun k => runL xs k x) x' ∧ Out a1 a2 B (o ++ [(i : Int)]) s' x') → ∀ s x, Rel a1 a2 B o (firstO worth s) (firstL worth x) → s.order = o → x.order = o → x.yearly = a1 → x.years = a2 → ∃ s' x', Ev (fun k => visitO xs k cost worth s) s' ∧ Ev (fun k => runL xs k x) x' ∧ Out a1 a2 B o s' x' := by
    intro o cost worth hok IH s x h hso hxo hxy hxys
    have hl := hok.len
    obtain ⟨s', x', k1, k2, k3⟩ := loop_ev xs hs hv a1 a2 B h0 h1 h2 hB o cost worth hok IH xs.length 0 (Nat.zero_add _) _ _ h
    refine ⟨s', x', Ev.succ ?_, Ev.succ ?_, k3⟩
    · unfold visitO
      simp only [hso, if_pos (show o.length ≤ 1000 by omega)]; exact k1
    · unfold runL
      simp only [hxo, hxy, hxys, if_pos (show o.length ≤ 1000 by omega)]
      refine Ev.bind (specYears_ev xs o a1 h0 (by omega) hok.rng) (Ev.bind (worth_ev xs o _ a2 (by omega) (yearT_len xs o a1 o.length) hok.rng) ?_)
      rw [hok.w]; exact k2
  intro d
  induction d with
  | zero =>
    intro o cost worth hd hok
    refine key o cost worth hok fun i c w hk => ?_
    have := hk.len
    simp at this
    omega
  | succ d ih =>
    intro o cost worth hd hok
    refine key o cost worth hok fun i c w hk s x hr => ?_
    have hkl := hk.len
    have hf := rel_first hr (by omega) w
    obtain ⟨n, be, mo, rfl, rfl, _⟩ := hr
    exact ih (o ++ [(i : Int)]) c w (by simp; omega) hk _ _ hf rfl rfl rfl rfl
/-- What the two searches come to. -/
theorem both_ev (xs : List SG) (hs : smallS xs) (a1 a2 a3 : Int) : ∃ r : List Int × Int × Int, Ev (fun k => spec_BestPlan.f k xs a1 a2 a3) r ∧ Ev (fun k => impl_BestPlan.f k xs a1 a2 a3) r ∧ r.1.length ≤ 8 := by
  unfold spec_BestPlan.f impl_BestPlan.f
  have e1 := specS_ev xs hs
  have e2 := implS_ev xs hs
  have em1 := l00In_eq a1 1 1000000
  have em2 : impl_yearlyOk.f a1 = some (decide (1 ≤ a1) && decide (a1 ≤ 1000000)) := by unfold impl_yearlyOk.f; rw [within_eq]; rfl
  have en1 := l00In_eq a2 1 10
  have en2 := within_eq a2 1 10
  have eb1 := l00In_eq a3 1 20000
  have eb2 : impl_budgetValid.f a3 = some (decide (1 ≤ a3) && decide (a3 ≤ 20000)) := by unfold impl_budgetValid.f; rw [within_eq]; rfl
  by_cases c : validS xs = true
  · rw [c] at e1 e2
    have h8 := validS_len c
    by_cases m : (decide (1 ≤ a1) && decide (a1 ≤ 1000000)) = true
    · rw [m] at em1 em2
      by_cases n : (decide (1 ≤ a2) && decide (a2 ≤ 10)) = true
      · rw [n] at en1 en2
        by_cases b : (decide (1 ≤ a3) && decide (a3 ≤ 20000)) = true
        · rw [b] at eb1 eb2
          simp only [Bool.and_eq_true, decide_eq_true_eq] at m n b
          have hrel : Rel a1 a2 a3 [] (firstO 0 ⟨a1, a2, a3, [], [], 0⟩) (firstL 0 ⟨a1, a2, [], [], -1, 0, a3, false⟩) := by
            unfold firstO firstL
            simp only [if_neg (show ¬ (0 : Int) < 0 by decide), if_pos (show (-1 : Int) < 0 by decide)]
            exact ⟨0, [], 0, by rw [Int.sub_zero], rfl, Int.le_refl 0, by omega, Nat.zero_le 8⟩
          obtain ⟨s', x', h1, h2, h3⟩ := visit_ev xs hs c a1 a2 a3 m.1 m.2 n.2 b.2 xs.length [] 0 0 (Nat.zero_add _) ⟨List.nodup_nil, fun a h => absurd h List.not_mem_nil, rfl, rfl, Int.le_refl 0, by decide⟩ _ _ hrel rfl rfl rfl rfl
          rcases h3 with ⟨f1, f2⟩ | ⟨n2, be, mo, rfl, rfl, n0, n1, hbe⟩
          · refine ⟨([], 0, 5), Ev.bind e1 ?_, Ev.bind e2 ?_, Nat.zero_le 8⟩
            · simp only [if_true, em1, en1, eb1, Option.bind_some, if_pos (show xs.length ≤ 1000 by omega)]
              refine Ev.bind h2 ?_
              simp only [if_pos f1]; exact Ev.now _
            · simp only [if_true, em2, en2, eb2, Option.bind_some, if_pos (show xs.length ≤ 1000 by omega)]
              refine Ev.bind h1 ?_
              simp only [if_pos f2]; exact Ev.now _
          · refine ⟨(be, mo, 0), Ev.bind e1 ?_, Ev.bind e2 ?_, hbe⟩
            · simp only [if_true, em1, en1, eb1, Option.bind_some, if_pos (show xs.length ≤ 1000 by omega)]
              refine Ev.bind h2 ?_
              simp only [Bool.false_eq_true, if_false]; exact Ev.now _
            · simp only [if_true, em2, en2, eb2, Option.bind_some, if_pos (show xs.length ≤ 1000 by omega)]
              refine Ev.bind h1 ?_
              simp only [if_neg (show ¬ a3 - n2 < 0 by omega)]; exact Ev.now _
        · rw [Bool.eq_false_iff.2 b] at eb1 eb2
          refine ⟨([], 0, 2), Ev.bind e1 ?_, Ev.bind e2 ?_, Nat.zero_le 8⟩
          · simp only [if_true, em1, en1, eb1, Option.bind_some, Bool.false_eq_true, if_false]; exact Ev.now _
          · simp only [if_true, em2, en2, eb2, Option.bind_some, Bool.false_eq_true, if_false]; exact Ev.now _
      · rw [Bool.eq_false_iff.2 n] at en1 en2
        refine ⟨([], 0, 2), Ev.bind e1 ?_, Ev.bind e2 ?_, Nat.zero_le 8⟩
        · simp only [if_true, em1, en1, Option.bind_some, Bool.false_eq_true, if_false]; exact Ev.now _
        · simp only [if_true, em2, en2, Option.bind_some, Bool.false_eq_true, if_false]; exact Ev.now _
    · rw [Bool.eq_false_iff.2 m] at em1 em2
      refine ⟨([], 0, 2), Ev.bind e1 ?_, Ev.bind e2 ?_, Nat.zero_le 8⟩
      · simp only [if_true, em1, Option.bind_some, Bool.false_eq_true, if_false]; exact Ev.now _
      · simp only [if_true, em2, Option.bind_some, Bool.false_eq_true, if_false]; exact Ev.now _
  · rw [Bool.eq_false_iff.2 c] at e1 e2
    refine ⟨([], 0, 1), Ev.bind e1 ?_, Ev.bind e2 ?_, Nat.zero_le 8⟩
    · simp only [Bool.false_eq_true, if_false]; exact Ev.now _
    · simp only [Bool.false_eq_true, if_false]; exact Ev.now _

theorem FnExactBestPlan : PFnExactBestPlan.Pure := by
  intro xs a1 a2 a3 hx _ _ _
  obtain ⟨_, hxl, hw⟩ := hx
  have hw2 : ∀ x ∈ xs, x.f0.size ≤ 140737488351232 ∧ x.f3.length * 16 ≤ 140737488351232 ∧ ∀ y ∈ x.f3, y.size ≤ 140737488351232 := fun x hx => by
    obtain ⟨h0, _, _, h3⟩ := hw x hx
    exact ⟨h0, h3.2.1, h3.2.2⟩
  have hs : smallS (xs.map cvStage) := smallS_cv xs (by omega) (fun x hx => ⟨by have := (hw2 x hx).1; omega, by have := (hw2 x hx).2.1; omega⟩)
  obtain ⟨r, hr0, hz⟩ := szStage_b xs (by omega) (fun x hx => ⟨(hw2 x hx).1, by have := (hw2 x hx).2.1; omega, (hw2 x hx).2.2⟩)
  have ht := toStage_ev xs hxl (fun x hx => (hw2 x hx).2.1)
  obtain ⟨⟨q0, q1, q2⟩, h1, h2, hq⟩ := both_ev _ hs a1 a2 a3
  simp only at hq
  refine Ev.get ?_
  unfold laws_FnExactBestPlan.f
  refine Ev.bind hz ?_
  by_cases c : r < 0
  · simp only [if_pos c]; exact Ev.now _
  simp only [if_neg c]
  have hns : (needSum S34.f3 (xs.map cvStage) : Int) = (needSum S80.f3 xs : Int) := by rw [needSum_cv]
  have hm := markStage_ev (xs.map cvStage) (by rw [List.length_map]; omega)
  rw [List.length_map] at hm
  generalize hN : 1 + 3 * (xs.length : Int) + (needSum S34.f3 (xs.map cvStage) : Int) = N at hm
  refine Ev.bind ht (Ev.bind h1 (Ev.bind ht (Ev.bind h2 (Ev.bind (eqInts_ev q0 (by omega)) ?_))))
  simp only [bne_self_eq_false, if_true]
  refine Ev.succ ?_
  simp only [laws_FnExactBestPlan.j0, Bool.false_eq_true, if_false]
  refine Ev.bind ht (Ev.bind (eqStage_ev _ hs.1 (fun x hx => (hs.2 x hx).2)) ?_)
  simp only [if_true]
  refine Ev.bind hm ?_
  simp only [if_neg (show ¬ N < 0 by omega)]
  refine Ev.bind (eqInts_ev q0 (by omega)) ?_
  simp only [if_true, bne_self_eq_false]
  refine Ev.succ ?_
  simp only [laws_FnExactBestPlan.j1, Bool.false_eq_true, if_false]
  refine Ev.bind (markInts_ev q0 (by omega)) (Ev.bind (heldInts_ev q0 (by omega)) ?_)
  simp only [if_neg (show ¬ (q0.length : Int) + 1 < 0 by omega), if_true]
  refine Ev.bind ht (Ev.bind h2 (Ev.bind (eqInts_ev q0 (by omega)) ?_))
  simp only [if_true, bne_self_eq_false]
  refine Ev.succ ?_
  simp only [laws_FnExactBestPlan.j2, Bool.false_eq_true, if_false]
  refine Ev.bind (heldInts_ev q0 (by omega)) ?_
  simp only [if_neg (show ¬ (q0.length : Int) + 1 < 0 by omega), if_true]
  exact Ev.now _
end Go.Proofs.Ytmbiapefigcgnaa.Pure

