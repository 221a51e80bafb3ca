/- The law FnExactCheapestPumps, in numbers and lists alone: the program's CheapestPumps and the reference's give one answer, and what they are handed stays as it was. No condition. -/
import Derived.Test.YtndbgkcjccejdaaQFnExactCheapestPumps
import Derived.Test.YtndbgkcjccejdaaPLib
set_option linter.unusedVariables false
set_option linter.unusedSimpArgs false
namespace Go.Proofs.Ytndbgkcjccejdaa.PFnExactCheapestPumps
open Go.RowKit Go.Proofs.YtndbgkcjccejdaaW.PrintWords Go.Proofs.YtndbgkcjccejdaaW.PLib

theorem l00In_eq (a b c : Int) : spec_l00In.f a b c = some (decide (b ≤ a) && decide (a ≤ c)) := by
  unfold spec_l00In.f; by_cases h : a ≥ b
  · rw [if_pos h]; simp [show b ≤ a from h]
  · rw [if_neg h]; simp [show ¬ b ≤ a from h]

theorem within_eq (a b c : Int) : impl_within.f a b c = some (decide (b ≤ a) && decide (a ≤ c)) := by
  unfold impl_within.f; by_cases h : a ≥ b
  · rw [if_pos h]; simp [show b ≤ a from h]
  · rw [if_neg h]; simp [show ¬ b ≤ a from h]

/-! names -/
def smallB (c : Int) : Bool := decide (97 ≤ c) && decide (c ≤ 122)
def digitB (c : Int) : Bool := decide (48 ≤ c) && decide (c ≤ 57)
def nameB (s : ByteArray) : Bool := (decide (1 ≤ s.size) && decide (s.size ≤ 10)) && (smallB (bt s 0) && allB (fun i => smallB (bt s i) || digitB (bt s i)) s.size)
theorem small_eq (c : Int) : spec_l01Small.f c = some (smallB c) := by
  unfold spec_l01Small.f smallB; by_cases h : c ≥ 97
  · rw [if_pos h]; simp [show 97 ≤ c from h]
  · rw [if_neg h]; simp [show ¬ 97 ≤ c from h]
theorem digit_eq (c : Int) : spec_l01Digit.f c = some (digitB c) := by
  unfold spec_l01Digit.f digitB; by_cases h : c ≥ 48
  · rw [if_pos h]; simp [show 48 ≤ c from h]
  · rw [if_neg h]; simp [show ¬ 48 ≤ c from h]
theorem specName_loop (s : ByteArray) (hs : s.size < 9223372036854775807) : Ev (fun k => spec_l01Name.l0 k s 0) (allB (fun i => smallB (bt s i) || digitB (bt s i)) s.size && true) := by
  refine all_ev (fun k i => spec_l01Name.l0 k s i) s.size true _ (fun i hi => ⟨0, fun k _ => ?_⟩) ⟨0, fun k _ => ?_⟩
  · simp only [spec_l01Name.l0]
    rw [if_pos (by omega), if_pos (by omega)]
    simp only [small_eq, digit_eq, Option.bind_some, w64s (show i < 9223372036854775807 by omega)]
    by_cases c1 : smallB (bt s i) = true
    · simp [c1]
    · simp only [Bool.not_eq_true] at c1
      by_cases c2 : digitB (bt s i) = true
      · simp [c1, c2]
      · simp only [Bool.not_eq_true] at c2; simp [c1, c2]
  · simp only [spec_l01Name.l0]
    rw [if_neg (by omega)]
theorem specName_ev (s : ByteArray) (hs : s.size < 9223372036854775807) : Ev (fun k => spec_l01Name.f k s) (nameB s) := by
  obtain ⟨K, hK⟩ := specName_loop s hs
  refine ⟨K + 1, fun k hk => ?_⟩
  obtain ⟨k, rfl⟩ : ∃ m, k = m + 1 := ⟨k - 1, by omega⟩
  unfold spec_l01Name.f nameB
  simp only [spec_l01Name.j0, hK k (by omega), small_eq, Option.bind_some]
  by_cases c1 : s.toList = ([] : List UInt8)
  · rw [if_pos c1]
    have : s.size = 0 := by
      have := congrArg List.length c1
      simpa [ByteArray.toList_eq] using this
    simp [this]
  · rw [if_neg c1]
    have h0 : 1 ≤ s.size := by
      rcases Nat.eq_zero_or_pos s.size with h | h
      · exact absurd (by
          have : s.data.toList = [] := List.eq_nil_of_length_eq_zero (by rw [Array.length_toList]; exact h)
          simpa [ByteArray.toList_eq] using this) c1
      · exact h
    by_cases c2 : (s.size : Int) > 10
    · rw [if_pos c2, decide_eq_false (show ¬ s.size ≤ 10 by omega)]; simp
    · rw [if_neg c2, if_pos (by omega), decide_eq_true (show s.size ≤ 10 by omega), decide_eq_true h0]
      by_cases c3 : smallB (bt s 0) = true
      · simp [c3]
      · simp only [Bool.not_eq_true] at c3; simp [c3]
theorem implName_loop (s : ByteArray) (hs : s.size < 9223372036854775807) : Ev (fun k => impl_onlyNameBytes.f k s) (allB (fun i => smallB (bt s i) || digitB (bt s i)) s.size && true) := by
  unfold impl_onlyNameBytes.f
  refine all_ev (fun k i => impl_onlyNameBytes.l0 k s (s.size : Int) i) s.size true _ (fun i hi => ⟨0, fun k _ => ?_⟩) ⟨0, fun k _ => ?_⟩
  · simp only [impl_onlyNameBytes.l0]
    rw [if_pos (by omega), if_pos (by omega), if_pos (by omega)]
    simp only [w64s (show i < 9223372036854775807 by omega), smallB, digitB]
    by_cases a : bt s i < 97 <;> by_cases b : bt s i < 48 <;> by_cases c : bt s i > 57 <;> by_cases d : bt s i > 122 <;> simp [a, b, c, d] <;> omega
  · simp only [impl_onlyNameBytes.l0]
    rw [if_neg (by omega)]
theorem implName_ev (s : ByteArray) (hs : s.size < 9223372036854775807) : Ev (fun k => impl_IsName.f k s) (nameB s) := by
  obtain ⟨K, hK⟩ := implName_loop s hs
  refine ⟨K, fun k hk => ?_⟩
  unfold impl_IsName.f nameB
  simp only [hK k hk, Option.bind_some]
  by_cases c1 : (s.size : Int) < 1
  · rw [if_pos c1, decide_eq_false (show ¬ 1 ≤ s.size by omega)]; simp
  · rw [if_neg c1, decide_eq_true (show 1 ≤ s.size by omega)]
    by_cases c2 : (s.size : Int) > 10
    · rw [if_pos c2, decide_eq_false (show ¬ s.size ≤ 10 by omega)]; simp
    · rw [if_neg c2, if_pos (by omega), decide_eq_true (show s.size ≤ 10 by omega)]
      unfold smallB
      by_cases a : bt s 0 < 97
      · rw [if_pos a, decide_eq_false (show ¬ 97 ≤ bt s 0 by omega)]; simp
      · rw [if_neg a, decide_eq_true (show 97 ≤ bt s 0 by omega)]
        by_cases b : bt s 0 > 122
        · rw [if_pos b, decide_eq_false (show ¬ bt s 0 ≤ 122 by omega)]; simp
        · rw [if_neg b, decide_eq_true (show bt s 0 ≤ 122 by omega)]; simp

theorem rd_at (xs : List Int) (i : Nat) (h : i < xs.length) : rd xs (i : Int) = xs[i] := by unfold rd; exact getD_cast xs i h _
/-! rows of rows of numbers -/
theorem rdL_at (xs : List (List Int)) (i : Nat) (h : i < xs.length) : rd_L1 xs (i : Int) = xs[i] := by unfold rd_L1; exact getD_cast xs i h _

theorem to_evE {α β : Type} (L : Nat → List β → Int → Option (List β)) (xs : List α) (cv : α → β) (z : β)
    (hs : ∀ i (h : i < xs.length) ys, ys.length = xs.length → ∀ r, Ev (fun k => L k (ys.set i (cv xs[i])) ((i + 1 : Nat) : Int)) r → Ev (fun k => L k ys (i : Int)) r)
    (he : ∀ ys, ys.length = xs.length → Ev (fun k => L k ys (xs.length : Int)) ys) : Ev (fun k => L k (List.replicate xs.length z) 0) (xs.map cv) := by
  have key := inv_evE (fun k (s : List β) i => L k s i) xs.length (fun i s => s.length = xs.length ∧ ∀ j (h : j < i) (h' : j < xs.length) (h'' : j < s.length), s[j] = cv xs[j]) (fun r => r = xs.map cv) (fun i s hi h => .inr ?_) (fun s h => ?_) xs.length 0 (List.replicate xs.length z) (by omega) ⟨by simp, fun j h => absurd h (Nat.not_lt_zero _)⟩
  · obtain ⟨r, rfl, h⟩ := key
    exact h
  · refine ⟨s.set i (cv xs[i]), ⟨by simp [h.1], fun j h1 h2 h3 => ?_⟩, hs i hi s h.1⟩
    by_cases e : j = i
    · subst e; simp
    · rw [List.getElem_set_ne (by omega)]
      exact h.2 j (by omega) h2 (by simpa using h3)
  · refine ⟨s, ?_, he s h.1⟩
    apply List.ext_getElem
    · simp [h.1]
    · intro j h1 h2
      rw [h.2 j (by omega) (by omega) h1]
      simp

theorem toInts_ev (xs : List Int) (hl : xs.length * 8 ≤ 140737488351232) : Ev (fun k => laws_toInt64S.f k xs) xs := by
  refine ⟨xs.length + 1, fun k hk => ?_⟩
  simp only [laws_toInt64S.f]
  rw [if_pos (by omega), if_pos (by omega)]
  have h := to_loop (fun k ys i => laws_toInt64S.l0 k xs ys i) xs id (fun k ys i h hy => ?_) (fun k ys hy => ?_) (List.replicate ((xs.length : Int) : Int).toNat 0) (by simp) k (by omega)
  · rw [List.map_id] at h; exact h
  · simp only [laws_toInt64S.l0]
    rw [if_pos (by omega), if_pos (by omega), if_pos (by omega), w64s (by omega), rd_at xs i h]
    rfl
  · simp only [laws_toInt64S.l0]
    rw [if_neg (by omega)]

theorem eqInts_ev (xs : List Int) (hl : xs.length < 9223372036854775807) : Ev (fun k => laws_eqInt64S.f k xs xs) true := by
  unfold laws_eqInt64S.f
  simp only [if_true]
  have := all_ev (fun k i => laws_eqInt64S.l0 k xs xs i) xs.length true (fun _ => true) (fun i hi => ⟨0, fun k _ => ?_⟩) ⟨0, fun k _ => ?_⟩
  · rw [allB_const] at this; exact this
  · simp only [laws_eqInt64S.l0]
    rw [if_pos (by omega), if_pos (by omega), if_pos (by omega)]
    simp only [if_true, w64s (show i < 9223372036854775807 by omega)]
  · simp only [laws_eqInt64S.l0]
    rw [if_neg (by omega)]

/-! pumps, handed over and compared -/
abbrev PU := S38
abbrev PL := S77
theorem rdi_Pump (xs : List PU) (i : Nat) (h : i < xs.length) : rd_T38 xs (i : Int) = xs[i] := by unfold rd_T38; exact getD_cast xs i h _
theorem rdl_Pump (xs : List PL) (i : Nat) (h : i < xs.length) : rd_T77 xs (i : Int) = xs[i] := by unfold rd_T77; exact getD_cast xs i h _
def cvPump (x : PL) : PU := ⟨x.f0, x.f1⟩
theorem toRows_ev (xs : List (List Int)) (hl : xs.length * 24 ≤ 140737488351232) (hn : ∀ x ∈ xs, x.length * 8 ≤ 140737488351232) : Ev (fun k => laws_toInt64SS.f k xs) xs := by
  unfold laws_toInt64SS.f
  simp only [if_pos (show 0 ≤ (xs.length : Int) by omega), Int.toNat_natCast, if_pos (show xs.length ≤ 11728124029610 by omega)]
  have h := to_evE (fun k ys i => laws_toInt64SS.l0 k xs ys i) xs (fun x => x) [] (fun i h ys hy r hr => Ev.succ ?_) (fun ys hy => Ev.succ ?_)
  · rw [List.map_id'] at h; exact h
  · simp only [laws_toInt64SS.l0, if_pos (show (i : Int) < (xs.length : Int) by omega), if_pos (show 0 ≤ (i : Int) by omega), hy, w64s (show i < 9223372036854775807 by omega), Int.toNat_natCast]
    refine Ev.bind (toInts_ev (rd_L1 xs (i : Int)) (by rw [rdL_at xs i h]; exact hn _ (List.getElem_mem h))) ?_
    rw [rdL_at xs i h]
    exact hr
  · simp only [laws_toInt64SS.l0, if_neg (show ¬ (xs.length : Int) < (xs.length : Int) by omega)]; exact Ev.now _
theorem toPump_ev (xs : List PL) (hl : xs.length * 40 ≤ 140737488351232) (hn : ∀ x ∈ xs, x.f1.length * 24 ≤ 140737488351232 ∧ ∀ y ∈ x.f1, y.length * 8 ≤ 140737488351232) : Ev (fun k => laws_toPumpS.f k xs) (xs.map cvPump) := by
  unfold laws_toPumpS.f
  simp only [if_pos (show 0 ≤ (xs.length : Int) by omega), Int.toNat_natCast, if_pos (show xs.length ≤ 7036874417766 by omega)]
  refine to_evE (fun k ys i => laws_toPumpS.l0 k xs ys i) xs cvPump _ (fun i h ys hy r hr => Ev.succ ?_) (fun ys hy => Ev.succ ?_)
  · simp only [laws_toPumpS.l0, if_pos (show (i : Int) < (xs.length : Int) by omega), if_pos (show 0 ≤ (i : Int) by omega), hy, w64s (show i < 9223372036854775807 by omega), Int.toNat_natCast]
    unfold laws_toPump.f
    have hx := hn _ (List.getElem_mem h)
    have ht := toRows_ev (rd_T77 xs (i : Int)).f1 (by rw [rdl_Pump xs i h]; exact hx.1) (by rw [rdl_Pump xs i h]; exact hx.2)
    refine Ev.bind (Ev.bind ht (Ev.now _)) ?_
    rw [rdl_Pump xs i h]
    exact hr
  · simp only [laws_toPumpS.l0, if_neg (show ¬ (xs.length : Int) < (xs.length : Int) by omega)]; exact Ev.now _
theorem eqRows_ev (xs : List (List Int)) (hl : xs.length < 9223372036854775807) (hn : ∀ x ∈ xs, x.length < 9223372036854775807) : Ev (fun k => laws_eqInt64SS.f k xs xs) true := by
  unfold laws_eqInt64SS.f
  simp only [if_true]
  have := all_evE (fun k i => laws_eqInt64SS.l0 k xs xs i) xs.length true (fun _ => true) (fun i hi r hr => Ev.succ ?_) (Ev.succ ?_)
  · rw [allB_const] at this; exact this
  · simp only [laws_eqInt64SS.l0, if_pos (show (i : Int) < (xs.length : Int) by omega), if_pos (show 0 ≤ (i : Int) by omega), w64s (show i < 9223372036854775807 by omega)]
    refine Ev.bind (eqInts_ev _ (by rw [rdL_at xs i hi]; exact hn _ (List.getElem_mem hi))) ?_
    simp only [if_true]
    exact hr
  · simp only [laws_eqInt64SS.l0, if_neg (show ¬ (xs.length : Int) < (xs.length : Int) by omega)]; exact Ev.now _
theorem eqPump_ev (xs : List PU) (hl : xs.length < 9223372036854775807) (hn : ∀ x ∈ xs, x.f1.length < 9223372036854775807 ∧ ∀ y ∈ x.f1, y.length < 9223372036854775807) : Ev (fun k => laws_eqPumpS.f k xs xs) true := by
  unfold laws_eqPumpS.f
  simp only [if_true]
  have := all_evE (fun k i => laws_eqPumpS.l0 k xs xs i) xs.length true (fun _ => true) (fun i hi r hr => Ev.succ ?_) (Ev.succ ?_)
  · rw [allB_const] at this; exact this
  · simp only [laws_eqPumpS.l0, if_pos (show (i : Int) < (xs.length : Int) by omega), if_pos (show 0 ≤ (i : Int) by omega), w64s (show i < 9223372036854775807 by omega)]
    unfold laws_eqPump.f
    simp only [if_true]
    have hx := hn _ (List.getElem_mem hi)
    refine Ev.bind (Ev.bind (eqRows_ev _ (by rw [rdi_Pump xs i hi]; exact hx.1) (by rw [rdi_Pump xs i hi]; exact hx.2)) (by simp only [if_true]; exact Ev.now true)) ?_
    simp only [if_true]
    exact hr
  · simp only [laws_eqPumpS.l0, if_neg (show ¬ (xs.length : Int) < (xs.length : Int) by omega)]; exact Ev.now _
/-! how much pumps take, and their marks -/
def cntR (xs : List (List Int)) : Nat := (xs.map List.length).sum
def cntP {α : Type} (f : α → List (List Int)) (xs : List α) : Nat := (xs.map fun x => cntR (f x)).sum
theorem cntR_take (xs : List (List Int)) (i : Nat) (h : i < xs.length) : cntR (xs.take (i + 1)) = cntR (xs.take i) + xs[i].length := by
  unfold cntR
  rw [List.take_succ_eq_append_getElem h, List.map_append, List.sum_append]
  simp only [List.map_cons, List.map_nil, List.sum_cons, List.sum_nil, Nat.add_zero]
theorem cntP_take {α : Type} (f : α → List (List Int)) (xs : List α) (i : Nat) (h : i < xs.length) : cntP f (xs.take (i + 1)) = cntP f (xs.take i) + cntR (f xs[i]) := by
  unfold cntP
  rw [List.take_succ_eq_append_getElem h, List.map_append, List.sum_append]
  simp only [List.map_cons, List.map_nil, List.sum_cons, List.sum_nil, Nat.add_zero]
theorem szRows_b (xs : List (List Int)) (a : Int) (h0 : 0 ≤ a) (h9 : a ≤ 1048576) (hl : xs.length ≤ 140737488351232) (hn : ∀ x ∈ xs, x.length ≤ 140737488351232) : ∃ r : Int, (r < 0 ∨ r + (cntR xs : Int) ≤ a) ∧ Ev (fun k => laws_szInt64SS.f k xs a) r := by
  unfold laws_szInt64SS.f
  rw [w64 (x := a - (xs.length : Int)) (by omega) (by omega)]
  by_cases c : a - (xs.length : Int) < 0
  · simp only [if_pos c]; exact ⟨-1, .inl (by decide), Ev.now _⟩
  · simp only [if_neg c]
    refine inv_evE (fun k (s : Int) i => laws_szInt64SS.l0 k xs s i) xs.length (fun i s => 0 ≤ s ∧ s + (cntR (xs.take i) : Int) ≤ a) (fun r => r < 0 ∨ r + (cntR xs : Int) ≤ a) (fun i s hi hs => ?_) (fun s hs => ⟨s, .inr (by have := hs.2; rwa [List.take_length] at this), Ev.succ ?_⟩) xs.length 0 _ (by omega) ⟨by omega, by simp [cntR] <;> omega⟩
    · have hx := hn xs[i] (List.getElem_mem hi)
      have ht := cntR_take xs i hi
      have e : laws_szInt64S.f (rd_L1 xs (i : Int)) s = some (if s - (xs[i].length : Int) < 0 then -1 else s - (xs[i].length : Int)) := by
        unfold laws_szInt64S.f
        rw [rdL_at xs i hi, w64 (x := s - (xs[i].length : Int)) (by omega) (by omega)]
        split <;> rfl
      by_cases c2 : s - (xs[i].length : Int) < 0
      · refine .inl ⟨-1, .inl (by decide), Ev.succ ?_⟩
        simp only [laws_szInt64SS.l0, if_pos (show (i : Int) < (xs.length : Int) by omega), if_pos (show 0 ≤ (i : Int) by omega), e, if_pos c2, Option.bind_some]
        simp only [if_pos (show (-1 : Int) < 0 by decide)]; exact Ev.now _
      · refine .inr ⟨s - (xs[i].length : Int), ⟨by omega, by omega⟩, fun r hr => Ev.succ ?_⟩
        simp only [laws_szInt64SS.l0, if_pos (show (i : Int) < (xs.length : Int) by omega), if_pos (show 0 ≤ (i : Int) by omega), e, if_neg c2, Option.bind_some, w64s (show i < 9223372036854775807 by omega)]; exact hr
    · simp only [laws_szInt64SS.l0, if_neg (show ¬ (xs.length : Int) < (xs.length : Int) by omega)]; exact Ev.now _
theorem szPump_b (xs : List PL) (hl : xs.length ≤ 140737488351232) (hn : ∀ x ∈ xs, x.f0.size ≤ 140737488351232 ∧ x.f1.length ≤ 140737488351232 ∧ ∀ y ∈ x.f1, y.length ≤ 140737488351232) : ∃ r : Int, (r < 0 ∨ r + (xs.length : Int) + (cntP S77.f1 xs : Int) ≤ 1048576) ∧ Ev (fun k => laws_szPumpS.f k xs 1048576) r := by
  unfold laws_szPumpS.f
  rw [w64 (x := 1048576 - (xs.length : Int)) (by omega) (by omega)]
  by_cases c : 1048576 - (xs.length : Int) < 0
  · simp only [if_pos c]; exact ⟨-1, .inl (by decide), Ev.now _⟩
  · simp only [if_neg c]
    refine inv_evE (fun k (s : Int) i => laws_szPumpS.l0 k xs s i) xs.length (fun i s => 0 ≤ s ∧ s + (xs.length : Int) + (cntP S77.f1 (xs.take i) : Int) ≤ 1048576) (fun r => r < 0 ∨ r + (xs.length : Int) + (cntP S77.f1 xs : Int) ≤ 1048576) (fun i s hi hs => ?_) (fun s hs => ⟨s, .inr (by have := hs.2; rwa [List.take_length] at this), Ev.succ ?_⟩) xs.length 0 _ (by omega) ⟨by omega, by simp [cntP] <;> omega⟩
    · obtain ⟨hx0, hx1, hx2⟩ := hn xs[i] (List.getElem_mem hi)
      have ht := cntP_take S77.f1 xs i hi
      have e0 := rdl_Pump xs i hi
      have key : ∃ t : Int, (t < 0 ∨ t + (cntR xs[i].f1 : Int) ≤ s) ∧ Ev (fun k => laws_szPump.f k xs[i].f0 xs[i].f1 s) t := by
        unfold laws_szPump.f
        rw [w64 (x := s - (xs[i].f0.size : Int)) (by omega) (by omega)]
        by_cases c2 : s - (xs[i].f0.size : Int) < 0
        · simp only [if_pos c2]; exact ⟨-1, .inl (by decide), Ev.now _⟩
        · simp only [if_neg c2]
          obtain ⟨q, hq, hq2⟩ := szRows_b xs[i].f1 (s - (xs[i].f0.size : Int)) (by omega) (by omega) hx1 hx2
          by_cases c3 : q < 0
          · exact ⟨-1, .inl (by decide), Ev.bind hq2 (by simp only [if_pos c3]; exact Ev.now _)⟩
          · exact ⟨q, .inr (by omega), Ev.bind hq2 (by simp only [if_neg c3]; exact Ev.now _)⟩
      obtain ⟨t, ht2, ht3⟩ := key
      by_cases c2 : t < 0
      · refine .inl ⟨-1, .inl (by decide), Ev.succ ?_⟩
        simp only [laws_szPumpS.l0, if_pos (show (i : Int) < (xs.length : Int) by omega), if_pos (show 0 ≤ (i : Int) by omega), e0]
        exact Ev.bind ht3 (by simp only [if_pos c2]; exact Ev.now _)
      · refine .inr ⟨t, ⟨by omega, by omega⟩, fun r hr => Ev.succ ?_⟩
        simp only [laws_szPumpS.l0, if_pos (show (i : Int) < (xs.length : Int) by omega), if_pos (show 0 ≤ (i : Int) by omega), e0, w64s (show i < 9223372036854775807 by omega)]
        exact Ev.bind ht3 (by simp only [if_neg c2]; exact hr)
    · simp only [laws_szPumpS.l0, if_neg (show ¬ (xs.length : Int) < (xs.length : Int) by omega)]; exact Ev.now _
theorem cntP_cv (xs : List PL) : cntP S38.f1 (xs.map cvPump) = cntP S77.f1 xs := by
  unfold cntP
  rw [List.map_map]
  rfl
theorem mkI_eq : ∀ (n : Nat) (a : Int), 0 ≤ a → a + (n : Int) ≤ 4611686018427387904 → mkI n a = a + (n : Int)
  | 0, a, _, _ => by simp [mkI]
  | n + 1, a, h0, h1 => by
    rw [mkI, w64 (x := a + 1) (by omega) (by omega), mkI_eq n (a + 1) (by omega) (by omega)]
    omega
theorem mkRows_eq : ∀ (xs : List (List Int)) (a : Int), 0 ≤ a → a + (cntR xs : Int) ≤ 4611686018427387904 → mkRows xs a = a + (cntR xs : Int)
  | [], a, _, _ => by simp [mkRows, cntR]
  | x :: xs, a, h0, h1 => by
    have e : (cntR (x :: xs) : Int) = (x.length : Int) + (cntR xs : Int) := by simp [cntR]
    rw [e] at h1 ⊢
    rw [mkRows, mkI_eq x.length a h0 (by omega), mkRows_eq xs _ (by omega) (by omega)]
    omega

theorem markText_in : ∀ (n : Nat) (s : ByteArray), s.size + n ≤ 4611686018427387904 → ∃ t, Ev (fun k => laws_markText.l0 k (n : Int) s) t := by
  intro n
  induction n using Nat.strongRecOn with
  | ind n ih =>
    intro s hs
    by_cases c : n = 0
    · subst c
      refine ⟨(⟨#[109]⟩ : ByteArray) ++ s, Ev.succ ?_⟩
      · simp only [laws_markText.l0, if_neg (show ¬ ((0 : Nat) : Int) > 0 by omega), if_pos (show 1 + s.size ≤ 9223372036854775807 by omega)]; exact Ev.now _
    · obtain ⟨t, ht⟩ := ih (n / 10) (by omega) (strOfNums [(wrap64 (48 + (Int.tmod (n : Int) 10))) % 256] ++ s) (by rw [ByteArray.size_append, strOfNums_size]; simp only [List.length_cons, List.length_nil]; omega)
      refine ⟨t, Ev.succ ?_⟩
      have e : wrap64 (Int.tdiv (n : Int) 10) = ((n / 10 : Nat) : Int) := by
        rw [show Int.tdiv (n : Int) 10 = ((n / 10 : Nat) : Int) by rw [Int.tdiv_eq_ediv_of_nonneg (by omega)]; omega]
        exact w64 (by omega) (by omega)
      have hz : (strOfNums [(wrap64 (48 + (Int.tmod (n : Int) 10))) % 256]).size + s.size ≤ 9223372036854775807 := by
        rw [strOfNums_size]; simp only [List.length_cons, List.length_nil]; omega
      simp only [laws_markText.l0, if_pos (show (n : Int) > 0 by omega), Option.bind_some, if_pos hz, e]
      exact ht
theorem markText_ev (a : Int) (h : a ≤ 4611686018427387904) : ∃ t, Ev (fun k => laws_markText.f k a) t := by
  unfold laws_markText.f
  by_cases c : a ≤ 0
  · simp only [if_pos c]; exact ⟨_, Ev.now _⟩
  · simp only [if_neg c]
    obtain ⟨n, rfl⟩ := Int.eq_ofNat_of_zero_le (show 0 ≤ a by omega)
    exact markText_in n _ (by simp [ByteArray.size]; omega)

theorem mkP_ev : ∀ (xs : List PU) (a : Int), 0 ≤ a → a + (xs.length : Int) + (cntP S38.f1 xs : Int) ≤ 4611686018427387904 → Ev (fun k => mkP k xs a) (a + (xs.length : Int) + (cntP S38.f1 xs : Int))
  | [], a, _, _ => by
    simp only [mkP]
    rw [show a + (([] : List PU).length : Int) + (cntP S38.f1 [] : Int) = a by simp [cntP]]; exact Ev.now _
  | x :: xs, a, h0, h1 => by
    have e : (cntP S38.f1 (x :: xs) : Int) = (cntR x.f1 : Int) + (cntP S38.f1 xs : Int) := by simp [cntP]
    rw [e] at h1 ⊢
    simp only [List.length_cons] at h1 ⊢
    obtain ⟨t, ht⟩ := markText_ev a (by omega)
    simp only [mkP]
    refine Ev.bind ht ?_
    rw [w64 (x := a + 1) (by omega) (by omega), mkRows_eq x.f1 (a + 1) (by omega) (by omega)]
    have := mkP_ev xs (a + 1 + (cntR x.f1 : Int)) (by omega) (by omega)
    rwa [show a + 1 + (cntR x.f1 : Int) + (xs.length : Int) + (cntP S38.f1 xs : Int) = a + ((xs.length + 1 : Nat) : Int) + ((cntR x.f1 : Int) + (cntP S38.f1 xs : Int)) by omega] at this
theorem markPump_ev (xs : List PU) (h : xs.length + cntP S38.f1 xs ≤ 1152921504606846976) (hs : xs.all smallP = true) : Ev (fun k => laws_markPumpS.f k xs 1) (1 + (xs.length : Int) + (cntP S38.f1 xs : Int)) := by
  unfold laws_markPumpS.f
  have hc : (decide (xs.length ≤ 4611686018427387904) && xs.all smallP) = true := by
    rw [hs, decide_eq_true (show xs.length ≤ 4611686018427387904 by omega)]; rfl
  simp only [if_pos hc]
  exact mkP_ev xs 1 (by omega) (by omega)

/-- What a list reads behind its marking, i of its numbers being marked. -/
def mk1 (xs : List Int) (i : Nat) : List Int := (List.range i).map (fun j : Nat => (j : Int) + 1) ++ xs.drop i
theorem mk1_len (xs : List Int) (i : Nat) (h : i ≤ xs.length) : (mk1 xs i).length = xs.length := by simp [mk1]; omega
theorem mk1_set (xs : List Int) (i : Nat) (h : i < xs.length) : (mk1 xs i).set i ((i : Int) + 1) = mk1 xs (i + 1) := by
  unfold mk1
  rw [List.set_append_right _ _ (by simp)]
  simp only [List.length_map, List.length_range, Nat.sub_self]
  rw [List.range_succ, List.map_append, List.append_assoc]
  congr 1
  rw [List.drop_eq_getElem_cons h]
  rfl
theorem markInts_ev (xs : List Int) (hl : xs.length < 4611686018427387904) : Ev (fun k => laws_markInt64S.f k xs 1) ((xs.length : Int) + 1, mk1 xs xs.length) := by
  unfold laws_markInt64S.f
  have h := fold_ev (fun k (s : List Int × Int) i => laws_markInt64S.l0 k s.1 s.2 i) xs.length (fun i => (mk1 xs i, (i : Int) + 1)) ((xs.length : Int) + 1, mk1 xs xs.length) (fun i hi => ⟨0, fun k _ => ?_⟩) ⟨0, fun k _ => ?_⟩ 0 (by omega)
  · simpa [mk1] using h
  · simp only [laws_markInt64S.l0, mk1_len xs i (by omega)]
    rw [if_pos (by omega), if_pos (by omega), w64s (by omega)]
    rw [show ((i : Int)).toNat = i from by omega, mk1_set xs i hi, show wrap64 ((i : Int) + 1 + 1) = ((i + 1 : Nat) : Int) + 1 from by rw [w64] <;> omega]
  · simp only [laws_markInt64S.l0, mk1_len xs xs.length (Nat.le_refl _)]
    rw [if_neg (by omega)]
theorem heldInts_ev (xs : List Int) (hl : xs.length < 4611686018427387904) : Ev (fun k => laws_heldInt64S.f k (mk1 xs xs.length) 1) ((xs.length : Int) + 1) := by
  unfold laws_heldInt64S.f
  have e := mk1_len xs xs.length (Nat.le_refl _)
  have h := fold_ev (fun k (s : Int) i => laws_heldInt64S.l0 k (mk1 xs xs.length) s i) xs.length (fun i => (i : Int) + 1) ((xs.length : Int) + 1) (fun i hi => ⟨0, fun k _ => ?_⟩) ⟨0, fun k _ => ?_⟩ 0 (by omega)
  · simpa using h
  · simp only [laws_heldInt64S.l0, e]
    have hr : rd (mk1 xs xs.length) (i : Int) = (i : Int) + 1 := by
      rw [rd_at _ i (by rw [e]; exact hi)]
      simp [mk1, List.getElem_append, hi]
    rw [if_pos (by omega), if_pos (by omega), hr, if_pos rfl, w64s (by omega), show wrap64 ((i : Int) + 1 + 1) = ((i + 1 : Nat) : Int) + 1 from by rw [w64] <;> omega]
  · simp only [laws_heldInt64S.l0, e]
    rw [if_neg (by omega)]

/-! the nearest quotient, as the reference and as the program reckon it -/
theorem near (a b : Int) (ha : 0 ≤ a) (hb : 0 < b) : (2 * a + b) / (2 * b) = if a % b ≥ b - a % b then a / b + 1 else a / b := by
  have h1 : b * (a / b) + a % b = a := Int.mul_ediv_add_emod a b
  have h2 : 0 ≤ a % b := Int.emod_nonneg a (by omega)
  have h3 : a % b < b := Int.emod_lt_of_pos a hb
  generalize hq : a / b = q at *
  generalize hr : a % b = r at *
  have e : 2 * a + b = (2 * r + b) + (2 * b) * q := by
    rw [← h1, Int.mul_add, ← Int.mul_assoc]; omega
  rw [e, Int.add_mul_ediv_left _ _ (by omega)]
  by_cases c : r ≥ b - r
  · rw [if_pos c]
    have : (2 * r + b) / (2 * b) = 1 := by
      rw [Int.ediv_eq_iff_of_pos (by omega)]
      constructor <;> omega
    omega
  · rw [if_neg c]
    have : (2 * r + b) / (2 * b) = 0 := Int.ediv_eq_zero_of_lt (by omega) (by omega)
    omega
/-- The nearest quotient of two whole numbers, away from 0 where two are as near. -/
def rdiv (a b : Int) : Int := if b < 0 then (if a > 0 then -((2 * a + -b) / (2 * -b)) else (2 * -a + -b) / (2 * -b)) else if a < 0 then -((2 * -a + b) / (2 * b)) else (2 * a + b) / (2 * b)
theorem quo_le (x y B : Int) (hx : 0 ≤ x) (hy : 0 < y) (h : x ≤ B) : 0 ≤ x / y ∧ x / y ≤ B := ⟨Int.ediv_nonneg hx (by omega), Int.le_trans (Int.ediv_le_self _ hx) h⟩
theorem l01Div_eq (a b : Int) (hb : b ≠ 0) (h1 : -1152921504606846976 ≤ a) (h2 : a ≤ 1152921504606846976) (h3 : -1152921504606846976 ≤ b) (h4 : b ≤ 1152921504606846976) : spec_l01Div.f a b = some (rdiv a b) := by
  unfold spec_l01Div.f rdiv
  by_cases c1 : b < 0
  · rw [if_pos c1, if_pos c1, w64 (x := -a) (by omega) (by omega), w64 (x := -b) (by omega) (by omega), w64 (x := 2 * -b) (by omega) (by omega), w64 (x := 2 * -a) (by omega) (by omega)]
    by_cases c2 : a > 0
    · rw [if_pos c2, if_pos (by omega), if_neg (by omega)]
      have q := quo_le (2 * a + -b) (2 * -b) 4611686018427387904 (by omega) (by omega) (by omega)
      rw [w64 (x := -b - 2 * -a) (by omega) (by omega), show -b - 2 * -a = 2 * a + -b by omega, Int.tdiv_eq_ediv_of_nonneg (by omega), w64 (x := (2 * a + -b) / (2 * -b)) (by omega) (by omega), w64 (by omega) (by omega)]
    · rw [if_neg c2, if_neg (by omega), if_neg (by omega)]
      have q := quo_le (2 * -a + -b) (2 * -b) 4611686018427387904 (by omega) (by omega) (by omega)
      rw [w64 (x := 2 * -a + -b) (by omega) (by omega), Int.tdiv_eq_ediv_of_nonneg (by omega), w64 (by omega) (by omega)]
  · rw [if_neg c1, if_neg c1, w64 (x := 2 * b) (by omega) (by omega), w64 (x := 2 * a) (by omega) (by omega)]
    by_cases c2 : a < 0
    · rw [if_pos c2, if_pos c2, if_neg (by omega)]
      have q := quo_le (2 * -a + b) (2 * b) 4611686018427387904 (by omega) (by omega) (by omega)
      rw [w64 (x := b - 2 * a) (by omega) (by omega), show b - 2 * a = 2 * -a + b by omega, Int.tdiv_eq_ediv_of_nonneg (by omega), w64 (x := (2 * -a + b) / (2 * b)) (by omega) (by omega), w64 (by omega) (by omega)]
    · rw [if_neg c2, if_neg c2, if_neg (by omega)]
      have q := quo_le (2 * a + b) (2 * b) 4611686018427387904 (by omega) (by omega) (by omega)
      rw [w64 (x := 2 * a + b) (by omega) (by omega), Int.tdiv_eq_ediv_of_nonneg (by omega), w64 (by omega) (by omega)]
theorem abs_eq (n : Int) (h1 : -1152921504606846976 ≤ n) (h2 : n ≤ 1152921504606846976) : impl_abs.f n = some (if n < 0 then -n else n) := by
  unfold impl_abs.f mx
  rw [w64 (by omega) (by omega)]
  congr 1
  split <;> split <;> omega
theorem divRound_eq (a b : Int) (hb : b ≠ 0) (h1 : -1152921504606846976 ≤ a) (h2 : a ≤ 1152921504606846976) (h3 : -1152921504606846976 ≤ b) (h4 : b ≤ 1152921504606846976) : impl_divRound.f a b = some (rdiv a b) := by
  unfold impl_divRound.f
  rw [if_neg hb]
  -- the parts of a and b
  obtain ⟨m, hm, hma⟩ : ∃ m : Int, 0 ≤ m ∧ (a = m ∨ a = -m ∧ 0 < m) := by
    rcases Int.lt_or_le a 0 with h | h
    · exact ⟨-a, by omega, .inr ⟨by omega, by omega⟩⟩
    · exact ⟨a, h, .inl rfl⟩
  obtain ⟨n, hn, hnb⟩ : ∃ n : Int, 0 < n ∧ (b = n ∨ b = -n) := by
    rcases Int.lt_or_le b 0 with h | h
    · exact ⟨-b, by omega, .inr (by omega)⟩
    · exact ⟨b, by omega, .inl rfl⟩
  have N := near m n hm hn
  have q1 : 0 ≤ m / n := Int.ediv_nonneg hm (by omega)
  have q2 : m / n ≤ m := Int.ediv_le_self _ hm
  have r1 : 0 ≤ m % n := Int.emod_nonneg m (by omega)
  have r2 : m % n < n := Int.emod_lt_of_pos m hn
  have td : Int.tdiv m n = m / n := Int.tdiv_eq_ediv_of_nonneg hm
  have tm : Int.tmod m n = m % n := Int.tmod_eq_emod_of_nonneg hm
  rcases hma with rfl | ⟨rfl, hm0⟩ <;> rcases hnb with rfl | rfl
  · rw [td, tm, abs_eq _ (by omega) (by omega), abs_eq _ (by omega) (by omega)]
    simp only [Option.bind_some]
    rw [if_neg (show ¬ a % b < 0 by omega), if_neg (show ¬ b < 0 by omega), w64 (x := b - a % b) (by omega) (by omega), w64 (x := a / b) (by omega) (by omega)]
    unfold rdiv
    rw [if_neg (show ¬ b < 0 by omega), if_neg (show ¬ a < 0 by omega), N]
    by_cases c : a % b ≥ b - a % b
    · rw [if_pos c, if_pos c, if_pos (by rw [decide_eq_false (show ¬ a < 0 by omega), decide_eq_false (show ¬ b < 0 by omega)]; decide), w64 (by omega) (by omega)]
    · rw [if_neg c, if_neg c]
  · rw [Int.tdiv_neg, Int.tmod_neg, td, tm, abs_eq _ (by omega) (by omega), abs_eq _ (by omega) (by omega)]
    simp only [Option.bind_some]
    rw [if_neg (show ¬ a % n < 0 by omega), if_pos (show -n < 0 by omega), Int.neg_neg, w64 (x := n - a % n) (by omega) (by omega), w64 (x := -(a / n)) (by omega) (by omega)]
    unfold rdiv
    rw [if_pos (show -n < 0 by omega), Int.neg_neg]
    by_cases c : a % n ≥ n - a % n
    · rw [if_pos c] at N
      rw [if_pos c]
      by_cases z : a > 0
      · rw [if_pos z, if_neg (by rw [decide_eq_false (show ¬ a < 0 by omega), decide_eq_true (show -n < 0 by omega)]; decide), N, w64 (by omega) (by omega)]
        congr 1; omega
      · have : a = 0 := by omega
        subst this
        simp at c
        omega
    · rw [if_neg c] at N
      rw [if_neg c]
      by_cases z : a > 0
      · rw [if_pos z, N]
      · have : a = 0 := by omega
        subst this
        rw [if_neg z]
        simp only [Int.neg_zero, Int.mul_zero, Int.zero_add, Int.zero_ediv] at N ⊢
        congr 1; omega
  · rw [Int.neg_tdiv, Int.neg_tmod, td, tm, abs_eq _ (by omega) (by omega), abs_eq _ (by omega) (by omega)]
    simp only [Option.bind_some]
    have ab : (if -(m % b) < 0 then - -(m % b) else -(m % b)) = m % b := by split <;> omega
    rw [ab, if_neg (show ¬ b < 0 by omega), w64 (x := b - m % b) (by omega) (by omega), w64 (x := -(m / b)) (by omega) (by omega)]
    unfold rdiv
    rw [if_neg (show ¬ b < 0 by omega), if_pos (show -m < 0 by omega), Int.neg_neg, N]
    by_cases c : m % b ≥ b - m % b
    · rw [if_pos c, if_pos c, if_neg (by rw [decide_eq_false (show ¬ b < 0 by omega), decide_eq_true (show -m < 0 by omega)]; decide), w64 (by omega) (by omega)]
      congr 1; omega
    · rw [if_neg c, if_neg c]
  · rw [Int.neg_tdiv, Int.neg_tmod, Int.tdiv_neg, Int.tmod_neg, td, tm, abs_eq _ (by omega) (by omega), abs_eq _ (by omega) (by omega)]
    simp only [Option.bind_some]
    have ab : (if -(m % n) < 0 then - -(m % n) else -(m % n)) = m % n := by split <;> omega
    rw [ab, if_pos (show -n < 0 by omega), Int.neg_neg, Int.neg_neg, w64 (x := n - m % n) (by omega) (by omega), w64 (x := m / n) (by omega) (by omega)]
    unfold rdiv
    rw [if_pos (show -n < 0 by omega), if_neg (show ¬ -m > 0 by omega), Int.neg_neg, Int.neg_neg, N]
    by_cases c : m % n ≥ n - m % n
    · rw [if_pos c, if_pos c, if_pos (by rw [decide_eq_true (show -n < 0 by omega), decide_eq_true (show -m < 0 by omega)]; decide), w64 (by omega) (by omega)]
    · rw [if_neg c, if_neg c]

end Go.Proofs.Ytndbgkcjccejdaa.PFnExactCheapestPumps
namespace Go.Proofs.Ytndbgkcjccejdaa.Pure
open Go.RowKit Go.Proofs.YtndbgkcjccejdaaW.PrintWords Go.Proofs.YtndbgkcjccejdaaW.PLib Go.Proofs.Ytndbgkcjccejdaa.PFnExactCheapestPumps

/-! one list ahead of another -/
def cmpT : List Int → List Int → Int
  | [], [] => 0
  | [], _ :: _ => -1
  | _ :: _, [] => 1
  | a :: l, b :: m => if a < b then -1 else if b < a then 1 else cmpT l m
theorem cmpE (a b : Int) : cmp_Compare_int64.f a b = some (if a < b then -1 else if b < a then 1 else 0) := by
  unfold cmp_Compare_int64.f cmp_isNaN_int64.f
  simp only [Option.bind_some, bne_self_eq_false, Bool.false_eq_true, if_false]
  by_cases c : a < b
  · simp only [if_pos c]
  · simp only [if_neg c]
    by_cases c2 : b < a
    · simp only [if_pos (show a > b from c2), if_pos c2]
    · simp only [if_neg (show ¬ a > b from c2), if_neg c2]
theorem rd_app (pre l : List Int) (a : Int) : rd (pre ++ a :: l) (pre.length : Int) = a := by
  rw [rd_at _ _ (by simp)]
  simp
theorem cmp_ev (A B : List Int) (hA : A.length < 4611686018427387904) (hB : B.length < 4611686018427387904) : Ev (fun k => slices_Compare_int64_int64.f k A B) (cmpT A B) := by
  unfold slices_Compare_int64_int64.f
  have key : ∀ (l m pre : List Int) (preb : List Int), pre.length = preb.length → pre ++ l = A → preb ++ m = B → Ev (fun k => slices_Compare_int64_int64.l0 k A B A (A.length : Int) (pre.length : Int)) (cmpT l m) := by
    intro l
    induction l with
    | nil =>
      intro m pre preb hl h1 h2
      have e1 : A.length = pre.length := by rw [← h1]; simp
      refine Ev.succ ?_
      simp only [slices_Compare_int64_int64.l0, if_neg (show ¬ (pre.length : Int) < (A.length : Int) by omega)]
      cases m with
      | nil =>
        have e2 : B.length = preb.length := by rw [← h2]; simp
        simp only [if_neg (show ¬ (A.length : Int) < (B.length : Int) by omega), cmpT]; exact Ev.now _
      | cons b m =>
        have e2 : B.length = preb.length + (m.length + 1) := by rw [← h2]; simp
        simp only [if_pos (show (A.length : Int) < (B.length : Int) by omega), cmpT]; exact Ev.now _
    | cons a l ih =>
      intro m pre preb hl h1 h2
      have e1 : A.length = pre.length + (l.length + 1) := by rw [← h1]; simp
      have ea : rd A (pre.length : Int) = a := by rw [← h1]; exact rd_app pre l a
      refine Ev.succ ?_
      simp only [slices_Compare_int64_int64.l0, if_pos (show (pre.length : Int) < (A.length : Int) by omega), if_pos (show 0 ≤ (pre.length : Int) by omega)]
      cases m with
      | nil =>
        have e2 : B.length = preb.length := by rw [← h2]; simp
        simp only [if_pos (show (pre.length : Int) ≥ (B.length : Int) by omega), cmpT]; exact Ev.now _
      | cons b m =>
        have e2 : B.length = preb.length + (m.length + 1) := by rw [← h2]; simp
        have eb : rd B (pre.length : Int) = b := by rw [← h2, hl]; exact rd_app preb m b
        simp only [if_neg (show ¬ (pre.length : Int) ≥ (B.length : Int) by omega), if_pos (show (pre.length : Int) < (B.length : Int) by omega), ea, eb, cmpE, Option.bind_some, w64s (show pre.length < 9223372036854775807 by omega), cmpT]
        by_cases c : a < b
        · simp only [if_pos c, if_neg (show ¬ (-1 : Int) = 0 by decide)]; exact Ev.now _
        · by_cases c2 : b < a
          · simp only [if_neg c, if_pos c2, if_neg (show ¬ (1 : Int) = 0 by decide)]; exact Ev.now _
          · simp only [if_neg c, if_neg c2, if_true]
            have := ih m (pre ++ [a]) (preb ++ [b]) (by simp [hl]) (by rw [← h1]; simp) (by rw [← h2]; simp)
            rw [List.length_append, List.length_singleton] at this
            exact this
  exact key A B [] [] rfl rfl rfl
theorem before_ev (A B : List Int) (hA : A.length < 4611686018427387904) (hB : B.length < 4611686018427387904) : Ev (fun k => spec_l08Before.f k A B) (decide (cmpT A B < 0)) := by
  unfold spec_l08Before.f
  have key : ∀ (l m pre : List Int) (preb : List Int), pre.length = preb.length → pre ++ l = A → preb ++ m = B → Ev (fun k => spec_l08Before.l0 k A B (pre.length : Int)) (decide (cmpT l m < 0)) := by
    intro l
    induction l with
    | nil =>
      intro m pre preb hl h1 h2
      have e1 : A.length = pre.length := by rw [← h1]; simp
      refine Ev.succ ?_
      simp only [spec_l08Before.l0, if_neg (show ¬ (pre.length : Int) < (A.length : Int) by omega)]
      refine Ev.succ ?_
      simp only [spec_l08Before.j1, Bool.false_eq_true, if_false]
      cases m with
      | nil =>
        have e2 : B.length = preb.length := by rw [← h2]; simp
        rw [decide_eq_false (show ¬ (A.length : Int) < (B.length : Int) by omega)]
        exact Ev.now _
      | cons b m =>
        have e2 : B.length = preb.length + (m.length + 1) := by rw [← h2]; simp
        rw [decide_eq_true (show (A.length : Int) < (B.length : Int) by omega)]
        exact Ev.now _
    | cons a l ih =>
      intro m pre preb hl h1 h2
      have e1 : A.length = pre.length + (l.length + 1) := by rw [← h1]; simp
      have ea : rd A (pre.length : Int) = a := by rw [← h1]; exact rd_app pre l a
      refine Ev.succ ?_
      simp only [spec_l08Before.l0, if_pos (show (pre.length : Int) < (A.length : Int) by omega)]
      refine Ev.succ ?_
      cases m with
      | nil =>
        have e2 : B.length = preb.length := by rw [← h2]; simp
        rw [decide_eq_false (show ¬ (pre.length : Int) < (B.length : Int) by omega)]
        simp only [spec_l08Before.j1, Bool.false_eq_true, if_false]
        rw [decide_eq_false (show ¬ (A.length : Int) < (B.length : Int) by omega)]
        exact Ev.now _
      | cons b m =>
        have e2 : B.length = preb.length + (m.length + 1) := by rw [← h2]; simp
        have eb : rd B (pre.length : Int) = b := by rw [← h2, hl]; exact rd_app preb m b
        rw [decide_eq_true (show (pre.length : Int) < (B.length : Int) by omega)]
        simp only [spec_l08Before.j1, if_true, if_pos (show 0 ≤ (pre.length : Int) by omega), if_pos (show (pre.length : Int) < (A.length : Int) by omega), if_pos (show (pre.length : Int) < (B.length : Int) by omega), ea, eb, w64s (show pre.length < 9223372036854775807 by omega), cmpT]
        by_cases c : a < b
        · simp only [if_neg (show ¬ a = b by omega), if_pos c, decide_eq_true c]; exact Ev.now _
        · by_cases c2 : b < a
          · simp only [if_neg (show ¬ a = b by omega), if_neg c, if_pos c2, decide_eq_false c]; exact Ev.now _
          · simp only [if_pos (show a = b by omega), if_neg c, if_neg c2]
            have := ih m (pre ++ [a]) (preb ++ [b]) (by simp [hl]) (by rw [← h1]; simp) (by rw [← h2]; simp)
            rw [List.length_append, List.length_singleton] at this
            exact this
  exact key A B [] [] rfl rfl rfl

/-! valid pumps -/
theorem all_evP (L : Nat → Int → Option Bool) (n : Nat) (fin : Bool) (ok : Nat → Bool)
    (hs : ∀ i, i < n → (∀ j, j < i → ok j = true) → (ok i = true → ∀ r, Ev (fun k => L k ((i + 1 : Nat) : Int)) r → Ev (fun k => L k (i : Int)) r) ∧ (ok i = false → Ev (fun k => L k (i : Int)) false))
    (he : (∀ j, j < n → ok j = true) → Ev (fun k => L k (n : Int)) fin) : Ev (fun k => L k 0) (allB ok n && fin) := by
  have key : ∀ d i, i + d = n → (∀ j, j < i → ok j = true) → Ev (fun k => L k (i : Int)) ((List.range' i d).all ok && fin) := by
    intro d
    induction d with
    | zero =>
      intro i hi hp
      have : i = n := by omega
      subst this
      simpa using he hp
    | succ d ih =>
      intro i hi hp
      obtain ⟨h1, h2⟩ := hs i (by omega) hp
      rw [List.range'_succ, List.all_cons]
      cases c : ok i
      · simpa using h2 c
      · have h := h1 c _ (ih (i + 1) (by omega) (fun j hj => by
          by_cases e : j = i
          · subst e; exact c
          · exact hp j (by omega)))
        simpa using h
  have h := key n 0 (by omega) (fun j hj => absurd hj (Nat.not_lt_zero _))
  rw [← List.range_eq_range'] at h
  exact h
/-- Point i of a curve: its flow and its head. -/
def pq (c : List (List Int)) (i : Nat) : Int := rd (rd_L1 c (i : Int)) 0
def ph (c : List (List Int)) (i : Nat) : Int := rd (rd_L1 c (i : Int)) 1
def okPt (c : List (List Int)) (i : Nat) : Bool := decide ((rd_L1 c (i : Int)).length = 2) && ((decide (0 ≤ pq c i) && decide (pq c i ≤ 100000)) && ((decide (0 ≤ ph c i) && decide (ph c i ≤ 2000000)) && (if i = 0 then decide (pq c 0 = 0) else (decide (pq c (i - 1) < pq c i) && decide (ph c i ≤ ph c (i - 1))))))
def validPu (x : PU) : Bool := nameB x.f0 && ((decide (2 ≤ x.f1.length) && decide (x.f1.length ≤ 8)) && allB (okPt x.f1) x.f1.length)
theorem okPt_len {c : List (List Int)} {i : Nat} (h : okPt c i = true) : (rd_L1 c (i : Int)).length = 2 := by
  unfold okPt at h
  simp only [Bool.and_eq_true, decide_eq_true_eq] at h
  exact h.1
theorem okPt_rng {c : List (List Int)} {i : Nat} (h : okPt c i = true) : 0 ≤ pq c i ∧ pq c i ≤ 100000 ∧ 0 ≤ ph c i ∧ ph c i ≤ 2000000 := by
  unfold okPt at h
  simp only [Bool.and_eq_true, decide_eq_true_eq] at h
  exact ⟨h.2.1.1, h.2.1.2, h.2.2.1.1, h.2.2.1.2⟩
theorem okPt_up {c : List (List Int)} {i : Nat} (h : okPt c i = true) (h0 : 0 < i) : pq c (i - 1) < pq c i ∧ ph c i ≤ ph c (i - 1) := by
  unfold okPt at h
  rw [if_neg (by omega)] at h
  simp only [Bool.and_eq_true, decide_eq_true_eq] at h
  exact h.2.2.2
theorem rd1 (x : PU) : rd_T38 [x] 0 = x := id rfl
theorem specOk_ev (x : PU) (hn : x.f0.size < 9223372036854775807) : Ev (fun k => spec_l08Ok.f k [x]) (validPu x) := by
  unfold spec_l08Ok.f validPu
  simp only [List.length_singleton, rd1, if_pos (show (0 : Int) < ((1 : Nat) : Int) by decide)]
  refine Ev.bind (specName_ev x.f0 hn) ?_
  cases nameB x.f0
  · simp only [Bool.false_eq_true, if_false, Bool.false_and]
    refine Ev.succ ?_
    simp only [spec_l08Ok.j0, if_true]; exact Ev.now _
  simp only [if_true, Bool.true_and]
  by_cases c1 : (x.f1.length : Int) < 2
  · simp only [if_pos c1, decide_eq_false (show ¬ 2 ≤ x.f1.length by omega), Bool.false_and]
    refine Ev.succ ?_
    simp only [spec_l08Ok.j0, if_true]; exact Ev.now _
  simp only [if_neg c1, decide_eq_true (show 2 ≤ x.f1.length by omega), Bool.true_and]
  by_cases c2 : (x.f1.length : Int) > 8
  · simp only [decide_eq_true c2, decide_eq_false (show ¬ x.f1.length ≤ 8 by omega), Bool.false_and]
    refine Ev.succ ?_
    simp only [spec_l08Ok.j0, if_true]; exact Ev.now _
  simp only [decide_eq_false c2, decide_eq_true (show x.f1.length ≤ 8 by omega), Bool.true_and]
  refine Ev.succ ?_
  simp only [spec_l08Ok.j0, Bool.false_eq_true, if_false]
  have key := all_evP (fun k i => spec_l08Ok.l0 k [x] i) x.f1.length true (okPt x.f1) (fun i hi hp => ?_) (fun _ => Ev.succ ?_)
  · rw [Bool.and_true] at key; exact key
  · have hj : ∀ (b : Bool) (r : Bool), Ev (fun k => spec_l08Ok.l0 k [x] (i : Int)) r → True := fun _ _ _ => trivial
    clear hj
    by_cases l2 : (rd_L1 x.f1 (i : Int)).length = 2
    · have f1 := l00In_eq (rd (rd_L1 x.f1 (i : Int)) 0) 0 100000
      have f2 := l00In_eq (rd (rd_L1 x.f1 (i : Int)) 1) 0 2000000
      cases b1 : (decide (0 ≤ pq x.f1 i) && decide (pq x.f1 i ≤ 100000))
      · have e : okPt x.f1 i = false := by unfold okPt; rw [b1]; simp
        refine ⟨(fun h => by rw [e] at h; cases h), fun _ => Ev.succ ?_⟩
        have b1' : (decide (0 ≤ rd (rd_L1 x.f1 (i : Int)) 0) && decide (rd (rd_L1 x.f1 (i : Int)) 0 ≤ 100000)) = false := b1
        rw [b1'] at f1
        simp only [spec_l08Ok.l0, List.length_singleton, rd1, if_pos (show (0 : Int) < ((1 : Nat) : Int) by decide), if_pos (show (i : Int) < (x.f1.length : Int) by omega), if_pos (show 0 ≤ (i : Int) by omega), if_pos (show ((rd_L1 x.f1 (i : Int)).length : Int) = 2 by omega), if_pos (show (0 : Int) < ((rd_L1 x.f1 (i : Int)).length : Int) by omega), spec_l02Flow.f, f1, Option.bind_some, Bool.false_eq_true, if_false]
        refine Ev.succ ?_
        simp only [spec_l08Ok.j2, if_true]; exact Ev.now _
      · have b1' : (decide (0 ≤ rd (rd_L1 x.f1 (i : Int)) 0) && decide (rd (rd_L1 x.f1 (i : Int)) 0 ≤ 100000)) = true := b1
        rw [b1'] at f1
        cases b2 : (decide (0 ≤ ph x.f1 i) && decide (ph x.f1 i ≤ 2000000))
        · have e : okPt x.f1 i = false := by unfold okPt; rw [b2]; simp
          refine ⟨(fun h => by rw [e] at h; cases h), fun _ => Ev.succ ?_⟩
          have b2' : (decide (0 ≤ rd (rd_L1 x.f1 (i : Int)) 1) && decide (rd (rd_L1 x.f1 (i : Int)) 1 ≤ 2000000)) = false := b2
          rw [b2'] at f2
          simp only [spec_l08Ok.l0, List.length_singleton, rd1, if_pos (show (0 : Int) < ((1 : Nat) : Int) by decide), if_pos (show (i : Int) < (x.f1.length : Int) by omega), if_pos (show 0 ≤ (i : Int) by omega), if_pos (show ((rd_L1 x.f1 (i : Int)).length : Int) = 2 by omega), if_pos (show (0 : Int) < ((rd_L1 x.f1 (i : Int)).length : Int) by omega), if_pos (show (1 : Int) < ((rd_L1 x.f1 (i : Int)).length : Int) by omega), spec_l02Flow.f, f1, f2, Option.bind_some, if_true, Bool.not_false]
          refine Ev.succ ?_
          simp only [spec_l08Ok.j2, if_true]; exact Ev.now _
        · have b2' : (decide (0 ≤ rd (rd_L1 x.f1 (i : Int)) 1) && decide (rd (rd_L1 x.f1 (i : Int)) 1 ≤ 2000000)) = true := b2
          rw [b2'] at f2
          have start : ∀ r, Ev (fun k => spec_l08Ok.j2 k [x] (i : Int) (rd_L1 x.f1 (i : Int)) false) r → Ev (fun k => spec_l08Ok.l0 k [x] (i : Int)) r := fun r hr => Ev.succ (by
            simp only [spec_l08Ok.l0, List.length_singleton, rd1, if_pos (show (0 : Int) < ((1 : Nat) : Int) by decide), if_pos (show (i : Int) < (x.f1.length : Int) by omega), if_pos (show 0 ≤ (i : Int) by omega), if_pos (show ((rd_L1 x.f1 (i : Int)).length : Int) = 2 by omega), if_pos (show (0 : Int) < ((rd_L1 x.f1 (i : Int)).length : Int) by omega), if_pos (show (1 : Int) < ((rd_L1 x.f1 (i : Int)).length : Int) by omega), spec_l02Flow.f, f1, f2, Option.bind_some, if_true, Bool.not_true]
            exact hr)
          have e : okPt x.f1 i = (if i = 0 then decide (pq x.f1 0 = 0) else (decide (pq x.f1 (i - 1) < pq x.f1 i) && decide (ph x.f1 i ≤ ph x.f1 (i - 1)))) := by unfold okPt; rw [b1, b2, decide_eq_true l2]; simp
          rw [e]
          by_cases z : i = 0
          · subst z
            simp only [if_true]
            by_cases c : pq x.f1 0 = 0
            · refine ⟨fun _ r hr => start r (Ev.succ ?_), (fun h => by rw [decide_eq_true c] at h; cases h)⟩
              have c' : rd (rd_L1 x.f1 ((0 : Nat) : Int)) 0 = 0 := c
              simp only [spec_l08Ok.j2, Bool.false_eq_true, if_false, if_pos (show ((0 : Nat) : Int) = 0 by decide), if_pos (show (0 : Int) < ((rd_L1 x.f1 ((0 : Nat) : Int)).length : Int) by omega), if_pos c', if_neg (show ¬ ((0 : Nat) : Int) > 0 by decide), w64s (show 0 < 9223372036854775807 by omega)]
              exact hr
            · refine ⟨(fun h => by rw [decide_eq_false c] at h; cases h), fun _ => start false (Ev.succ ?_)⟩
              have c' : ¬ rd (rd_L1 x.f1 ((0 : Nat) : Int)) 0 = 0 := c
              simp only [spec_l08Ok.j2, Bool.false_eq_true, if_false, if_pos (show ((0 : Nat) : Int) = 0 by decide), if_pos (show (0 : Int) < ((rd_L1 x.f1 ((0 : Nat) : Int)).length : Int) by omega), if_neg c']
              exact Ev.now _
          · have lp := okPt_len (hp (i - 1) (by omega))
            have e1 : wrap64 ((i : Int) - 1) = ((i - 1 : Nat) : Int) := by rw [w64] <;> omega
            rw [if_neg z]
            have head : ∀ r, Ev (fun k => if rd (rd_L1 x.f1 ((i - 1 : Nat) : Int)) 0 ≥ rd (rd_L1 x.f1 (i : Int)) 0 then some false else if rd (rd_L1 x.f1 ((i - 1 : Nat) : Int)) 1 < rd (rd_L1 x.f1 (i : Int)) 1 then some false else spec_l08Ok.l0 k [x] ((i + 1 : Nat) : Int)) r → Ev (fun k => spec_l08Ok.l0 k [x] (i : Int)) r := fun r hr => start r (Ev.succ (by
              simp only [spec_l08Ok.j2, Bool.false_eq_true, if_false, if_neg (show ¬ (i : Int) = 0 by omega), if_pos (show (i : Int) > 0 by omega), List.length_singleton, rd1, if_pos (show (0 : Int) < ((1 : Nat) : Int) by decide), e1, if_pos (show 0 ≤ ((i - 1 : Nat) : Int) by omega), if_pos (show ((i - 1 : Nat) : Int) < (x.f1.length : Int) by omega), if_pos (show (0 : Int) < ((rd_L1 x.f1 ((i - 1 : Nat) : Int)).length : Int) by omega), if_pos (show (1 : Int) < ((rd_L1 x.f1 ((i - 1 : Nat) : Int)).length : Int) by omega), if_pos (show (0 : Int) < ((rd_L1 x.f1 (i : Int)).length : Int) by omega), if_pos (show (1 : Int) < ((rd_L1 x.f1 (i : Int)).length : Int) by omega), w64s (show i < 9223372036854775807 by omega)]
              exact hr))
            by_cases c3 : pq x.f1 (i - 1) < pq x.f1 i
            · have c3' : ¬ rd (rd_L1 x.f1 ((i - 1 : Nat) : Int)) 0 ≥ rd (rd_L1 x.f1 (i : Int)) 0 := by unfold pq at c3; omega
              by_cases c4 : ph x.f1 i ≤ ph x.f1 (i - 1)
              · have c4' : ¬ rd (rd_L1 x.f1 ((i - 1 : Nat) : Int)) 1 < rd (rd_L1 x.f1 (i : Int)) 1 := by unfold ph at c4; omega
                refine ⟨fun _ r hr => head r (by simp only [if_neg c3', if_neg c4']; exact hr), (fun h => by rw [decide_eq_true c3, decide_eq_true c4] at h; cases h)⟩
              · have c4' : rd (rd_L1 x.f1 ((i - 1 : Nat) : Int)) 1 < rd (rd_L1 x.f1 (i : Int)) 1 := by unfold ph at c4; omega
                refine ⟨(fun h => by rw [decide_eq_false c4, Bool.and_false] at h; cases h), fun _ => head false (by simp only [if_neg c3', if_pos c4']; exact Ev.now _)⟩
            · have c3' : rd (rd_L1 x.f1 ((i - 1 : Nat) : Int)) 0 ≥ rd (rd_L1 x.f1 (i : Int)) 0 := by unfold pq at c3; omega
              refine ⟨(fun h => by rw [decide_eq_false c3, Bool.false_and] at h; cases h), fun _ => head false (by simp only [if_pos c3']; exact Ev.now _)⟩
    · have e : okPt x.f1 i = false := by unfold okPt; rw [decide_eq_false l2]; rfl
      refine ⟨(fun h => by rw [e] at h; cases h), fun _ => Ev.succ ?_⟩
      simp only [spec_l08Ok.l0, List.length_singleton, rd1, if_pos (show (0 : Int) < ((1 : Nat) : Int) by decide), if_pos (show (i : Int) < (x.f1.length : Int) by omega), if_pos (show 0 ≤ (i : Int) by omega), if_neg (show ¬ ((rd_L1 x.f1 (i : Int)).length : Int) = 2 by omega)]
      refine Ev.succ ?_
      simp only [spec_l08Ok.j2, if_true]; exact Ev.now _
  · simp only [spec_l08Ok.l0, List.length_singleton, rd1, if_pos (show (0 : Int) < ((1 : Nat) : Int) by decide), if_neg (show ¬ (x.f1.length : Int) < (x.f1.length : Int) by omega)]; exact Ev.now _
theorem implOk_ev (x : PU) (hn : x.f0.size < 9223372036854775807) : Ev (fun k => impl_ValidPump.f k x.f0 x.f1) (validPu x) := by
  unfold impl_ValidPump.f validPu
  refine Ev.bind (implName_ev x.f0 hn) ?_
  cases nameB x.f0
  · simp only [Bool.false_eq_true, if_false, Bool.false_and]
    refine Ev.succ ?_
    simp only [impl_ValidPump.j0, if_true]; exact Ev.now _
  simp only [if_true, Bool.true_and]
  by_cases c1 : (x.f1.length : Int) < 2
  · simp only [if_pos c1, decide_eq_false (show ¬ 2 ≤ x.f1.length by omega), Bool.false_and]
    refine Ev.succ ?_
    simp only [impl_ValidPump.j0, if_true]; exact Ev.now _
  simp only [if_neg c1, decide_eq_true (show 2 ≤ x.f1.length by omega), Bool.true_and]
  by_cases c2 : (x.f1.length : Int) > 8
  · simp only [decide_eq_true c2, decide_eq_false (show ¬ x.f1.length ≤ 8 by omega), Bool.false_and]
    refine Ev.succ ?_
    simp only [impl_ValidPump.j0, if_true]; exact Ev.now _
  simp only [decide_eq_false c2, decide_eq_true (show x.f1.length ≤ 8 by omega), Bool.true_and]
  refine Ev.succ ?_
  simp only [impl_ValidPump.j0, Bool.false_eq_true, if_false]
  have key := all_evP (fun k i => impl_ValidPump.l0 k x.f1 (x.f1.length : Int) i x.f0 x.f1) x.f1.length true (okPt x.f1) (fun i hi hp => ?_) (fun _ => Ev.succ ?_)
  · rw [Bool.and_true] at key; exact key
  · by_cases l2 : (rd_L1 x.f1 (i : Int)).length = 2
    · have f1 := within_eq (rd (rd_L1 x.f1 (i : Int)) 0) 0 100000
      have f2 : impl_headOk.f (rd (rd_L1 x.f1 (i : Int)) 1) = some (decide (0 ≤ rd (rd_L1 x.f1 (i : Int)) 1) && decide (rd (rd_L1 x.f1 (i : Int)) 1 ≤ 2000000)) := by unfold impl_headOk.f; rw [within_eq]; rfl
      cases b1 : (decide (0 ≤ pq x.f1 i) && decide (pq x.f1 i ≤ 100000))
      · have e : okPt x.f1 i = false := by unfold okPt; rw [b1]; simp
        refine ⟨(fun h => by rw [e] at h; cases h), fun _ => Ev.succ ?_⟩
        have b1' : (decide (0 ≤ rd (rd_L1 x.f1 (i : Int)) 0) && decide (rd (rd_L1 x.f1 (i : Int)) 0 ≤ 100000)) = false := b1
        rw [b1'] at f1
        simp only [impl_ValidPump.l0, if_pos (show (i : Int) < (x.f1.length : Int) by omega), if_pos (show 0 ≤ (i : Int) by omega), if_pos (show ((rd_L1 x.f1 (i : Int)).length : Int) = 2 by omega), if_pos (show (0 : Int) < ((rd_L1 x.f1 (i : Int)).length : Int) by omega), f1, Option.bind_some, Bool.false_eq_true, if_false]
        exact Ev.now _
      · have b1' : (decide (0 ≤ rd (rd_L1 x.f1 (i : Int)) 0) && decide (rd (rd_L1 x.f1 (i : Int)) 0 ≤ 100000)) = true := b1
        rw [b1'] at f1
        cases b2 : (decide (0 ≤ ph x.f1 i) && decide (ph x.f1 i ≤ 2000000))
        · have e : okPt x.f1 i = false := by unfold okPt; rw [b2]; simp
          refine ⟨(fun h => by rw [e] at h; cases h), fun _ => Ev.succ ?_⟩
          have b2' : (decide (0 ≤ rd (rd_L1 x.f1 (i : Int)) 1) && decide (rd (rd_L1 x.f1 (i : Int)) 1 ≤ 2000000)) = false := b2
          rw [b2'] at f2
          simp only [impl_ValidPump.l0, if_pos (show (i : Int) < (x.f1.length : Int) by omega), if_pos (show 0 ≤ (i : Int) by omega), if_pos (show ((rd_L1 x.f1 (i : Int)).length : Int) = 2 by omega), if_pos (show (0 : Int) < ((rd_L1 x.f1 (i : Int)).length : Int) by omega), if_pos (show (1 : Int) < ((rd_L1 x.f1 (i : Int)).length : Int) by omega), f1, f2, Option.bind_some, if_true, Bool.false_eq_true, if_false]
          exact Ev.now _
        · have b2' : (decide (0 ≤ rd (rd_L1 x.f1 (i : Int)) 1) && decide (rd (rd_L1 x.f1 (i : Int)) 1 ≤ 2000000)) = true := b2
          rw [b2'] at f2
          have e : okPt x.f1 i = (if i = 0 then decide (pq x.f1 0 = 0) else (decide (pq x.f1 (i - 1) < pq x.f1 i) && decide (ph x.f1 i ≤ ph x.f1 (i - 1)))) := by unfold okPt; rw [b1, b2, decide_eq_true l2]; simp
          rw [e]
          by_cases z : i = 0
          · subst z
            simp only [if_true]
            by_cases c : pq x.f1 0 = 0
            · refine ⟨fun _ r hr => Ev.succ ?_, (fun h => by rw [decide_eq_true c] at h; cases h)⟩
              have c' : rd (rd_L1 x.f1 ((0 : Nat) : Int)) 0 = 0 := c
              simp only [impl_ValidPump.l0, if_pos (show ((0 : Nat) : Int) < (x.f1.length : Int) by omega), if_pos (show 0 ≤ ((0 : Nat) : Int) by omega), if_pos (show ((rd_L1 x.f1 ((0 : Nat) : Int)).length : Int) = 2 by omega), if_pos (show (0 : Int) < ((rd_L1 x.f1 ((0 : Nat) : Int)).length : Int) by omega), if_pos (show (1 : Int) < ((rd_L1 x.f1 ((0 : Nat) : Int)).length : Int) by omega), f1, f2, Option.bind_some, if_true, if_pos (show ((0 : Nat) : Int) = 0 by decide), if_pos c', if_neg (show ¬ ((0 : Nat) : Int) > 0 by decide), w64s (show 0 < 9223372036854775807 by omega)]
              exact hr
            · refine ⟨(fun h => by rw [decide_eq_false c] at h; cases h), fun _ => Ev.succ ?_⟩
              have c' : ¬ rd (rd_L1 x.f1 ((0 : Nat) : Int)) 0 = 0 := c
              simp only [impl_ValidPump.l0, if_pos (show ((0 : Nat) : Int) < (x.f1.length : Int) by omega), if_pos (show 0 ≤ ((0 : Nat) : Int) by omega), if_pos (show ((rd_L1 x.f1 ((0 : Nat) : Int)).length : Int) = 2 by omega), if_pos (show (0 : Int) < ((rd_L1 x.f1 ((0 : Nat) : Int)).length : Int) by omega), if_pos (show (1 : Int) < ((rd_L1 x.f1 ((0 : Nat) : Int)).length : Int) by omega), f1, f2, Option.bind_some, if_true, if_pos (show ((0 : Nat) : Int) = 0 by decide), if_neg c']
              exact Ev.now _
          · have lp := okPt_len (hp (i - 1) (by omega))
            have e1 : wrap64 ((i : Int) - 1) = ((i - 1 : Nat) : Int) := by rw [w64] <;> omega
            rw [if_neg z]
            have head : ∀ r, Ev (fun k => if rd (rd_L1 x.f1 (i : Int)) 0 ≤ rd (rd_L1 x.f1 ((i - 1 : Nat) : Int)) 0 then some false else if rd (rd_L1 x.f1 (i : Int)) 1 > rd (rd_L1 x.f1 ((i - 1 : Nat) : Int)) 1 then some false else impl_ValidPump.l0 k x.f1 (x.f1.length : Int) ((i + 1 : Nat) : Int) x.f0 x.f1) r → Ev (fun k => impl_ValidPump.l0 k x.f1 (x.f1.length : Int) (i : Int) x.f0 x.f1) r := fun r hr => Ev.succ (by
              simp only [impl_ValidPump.l0, if_pos (show (i : Int) < (x.f1.length : Int) by omega), if_pos (show 0 ≤ (i : Int) by omega), if_pos (show ((rd_L1 x.f1 (i : Int)).length : Int) = 2 by omega), if_pos (show (0 : Int) < ((rd_L1 x.f1 (i : Int)).length : Int) by omega), if_pos (show (1 : Int) < ((rd_L1 x.f1 (i : Int)).length : Int) by omega), f1, f2, Option.bind_some, if_true, if_neg (show ¬ (i : Int) = 0 by omega), if_pos (show (i : Int) > 0 by omega), e1, if_pos (show 0 ≤ ((i - 1 : Nat) : Int) by omega), if_pos (show ((i - 1 : Nat) : Int) < (x.f1.length : Int) by omega), if_pos (show (0 : Int) < ((rd_L1 x.f1 ((i - 1 : Nat) : Int)).length : Int) by omega), if_pos (show (1 : Int) < ((rd_L1 x.f1 ((i - 1 : Nat) : Int)).length : Int) by omega), w64s (show i < 9223372036854775807 by omega)]
              exact hr)
            by_cases c3 : pq x.f1 (i - 1) < pq x.f1 i
            · have c3' : ¬ rd (rd_L1 x.f1 (i : Int)) 0 ≤ rd (rd_L1 x.f1 ((i - 1 : Nat) : Int)) 0 := by unfold pq at c3; omega
              by_cases c4 : ph x.f1 i ≤ ph x.f1 (i - 1)
              · have c4' : ¬ rd (rd_L1 x.f1 (i : Int)) 1 > rd (rd_L1 x.f1 ((i - 1 : Nat) : Int)) 1 := by unfold ph at c4; omega
                refine ⟨fun _ r hr => head r (by simp only [if_neg c3', if_neg c4']; exact hr), (fun h => by rw [decide_eq_true c3, decide_eq_true c4] at h; cases h)⟩
              · have c4' : rd (rd_L1 x.f1 (i : Int)) 1 > rd (rd_L1 x.f1 ((i - 1 : Nat) : Int)) 1 := by unfold ph at c4; omega
                refine ⟨(fun h => by rw [decide_eq_false c4, Bool.and_false] at h; cases h), fun _ => head false (by simp only [if_neg c3', if_pos c4']; exact Ev.now _)⟩
            · have c3' : rd (rd_L1 x.f1 (i : Int)) 0 ≤ rd (rd_L1 x.f1 ((i - 1 : Nat) : Int)) 0 := by unfold pq at c3; omega
              refine ⟨(fun h => by rw [decide_eq_false c3, Bool.false_and] at h; cases h), fun _ => head false (by simp only [if_pos c3']; exact Ev.now _)⟩
    · have e : okPt x.f1 i = false := by unfold okPt; rw [decide_eq_false l2]; rfl
      refine ⟨(fun h => by rw [e] at h; cases h), fun _ => Ev.succ ?_⟩
      simp only [impl_ValidPump.l0, if_pos (show (i : Int) < (x.f1.length : Int) by omega), if_pos (show 0 ≤ (i : Int) by omega), if_neg (show ¬ ((rd_L1 x.f1 (i : Int)).length : Int) = 2 by omega)]
      exact Ev.now _
  · simp only [impl_ValidPump.l0, if_neg (show ¬ (x.f1.length : Int) < (x.f1.length : Int) by omega)]; exact Ev.now _
def okPu (xs : List PU) (i : Nat) : Bool := validPu (rd_T38 xs (i : Int)) && (decide (i = 0) || Op.bytesLess ((rd_T38 xs ((i - 1 : Nat) : Int)).f0.toList) ((rd_T38 xs (i : Int)).f0.toList))
def validP (xs : List PU) : Bool := allB (okPu xs) xs.length && decide ((xs.length : Int) ≤ 8)
def smallPu (xs : List PU) : Prop := xs.length < 9223372036854775807 ∧ ∀ x ∈ xs, x.f0.size < 9223372036854775807
theorem specP_ev (xs : List PU) (h : smallPu xs) : Ev (fun k => spec_l08List.f k xs) (validP xs) := by
  obtain ⟨hl, hx⟩ := h
  unfold spec_l08List.f validP
  refine all_evE (fun k i => spec_l08List.l0 k xs i) xs.length _ (okPu xs) (fun i hi r hr => Ev.succ ?_) (Ev.succ ?_)
  · have hn : (rd_T38 xs (i : Int)).f0.size < 9223372036854775807 := by rw [rdi_Pump xs i hi]; exact hx _ (List.getElem_mem hi)
    simp only [spec_l08List.l0, if_pos (show (i : Int) < (xs.length : Int) by omega), if_pos (show 0 ≤ (i : Int) by omega), w64s (show i < 9223372036854775807 by omega)]
    refine Ev.bind (specOk_ev _ hn) ?_
    unfold okPu
    cases validPu (rd_T38 xs (i : Int))
    · simp only [Bool.false_eq_true, if_false, Bool.false_and]; exact Ev.now _
    simp only [if_true, Bool.true_and]
    by_cases c : i = 0
    · subst c
      simp only [if_neg (show ¬ ((0 : Nat) : Int) > 0 by omega), decide_true, Bool.true_or, if_true]; exact hr
    · have e1 : wrap64 ((i : Int) - 1) = ((i - 1 : Nat) : Int) := by rw [w64] <;> omega
      rw [decide_eq_false c, Bool.false_or]
      simp only [if_pos (show (i : Int) > 0 by omega), e1, if_pos (show 0 ≤ ((i - 1 : Nat) : Int) by omega), if_pos (show ((i - 1 : Nat) : Int) < (xs.length : Int) by omega)]
      cases Op.bytesLess ((rd_T38 xs ((i - 1 : Nat) : Int)).f0.toList) ((rd_T38 xs (i : Int)).f0.toList)
      · simp only [Bool.false_eq_true, if_false]; exact Ev.now _
      · simp only [if_true]; exact hr
  · simp only [spec_l08List.l0, if_neg (show ¬ (xs.length : Int) < (xs.length : Int) by omega)]; exact Ev.now _
theorem implP_ev (xs : List PU) (h : smallPu xs) : Ev (fun k => impl_pumpsOk.f k xs) (validP xs) := by
  obtain ⟨hl, hx⟩ := h
  unfold impl_pumpsOk.f validP
  refine all_evE (fun k i => impl_pumpsOk.l0 k xs xs (xs.length : Int) i) xs.length _ (okPu xs) (fun i hi r hr => Ev.succ ?_) (Ev.succ ?_)
  · have hn : (rd_T38 xs (i : Int)).f0.size < 9223372036854775807 := by rw [rdi_Pump xs i hi]; exact hx _ (List.getElem_mem hi)
    simp only [impl_pumpsOk.l0, if_pos (show (i : Int) < (xs.length : Int) by omega), if_pos (show 0 ≤ (i : Int) by omega), w64s (show i < 9223372036854775807 by omega)]
    refine Ev.bind (implOk_ev _ hn) ?_
    unfold okPu
    cases validPu (rd_T38 xs (i : Int))
    · simp only [Bool.false_eq_true, if_false, Bool.false_and]; exact Ev.now _
    simp only [if_true, Bool.true_and]
    by_cases c : i = 0
    · subst c
      simp only [if_neg (show ¬ ((0 : Nat) : Int) > 0 by omega), decide_true, Bool.true_or, if_true]; exact hr
    · have e1 : wrap64 ((i : Int) - 1) = ((i - 1 : Nat) : Int) := by rw [w64] <;> omega
      rw [decide_eq_false c, Bool.false_or]
      simp only [if_pos (show (i : Int) > 0 by omega), e1, if_pos (show 0 ≤ ((i - 1 : Nat) : Int) by omega), if_pos (show ((i - 1 : Nat) : Int) < (xs.length : Int) by omega)]
      cases Op.bytesLess ((rd_T38 xs ((i - 1 : Nat) : Int)).f0.toList) ((rd_T38 xs (i : Int)).f0.toList)
      · simp only [Bool.false_eq_true, if_false]; exact Ev.now _
      · simp only [if_true]; exact hr
  · simp only [impl_pumpsOk.l0, if_neg (show ¬ (xs.length : Int) < (xs.length : Int) by omega)]; exact Ev.now _
theorem validP_len {xs : List PU} (h : validP xs = true) : xs.length ≤ 8 := by
  unfold validP at h
  simp only [Bool.and_eq_true, decide_eq_true_eq] at h
  omega
theorem validP_at {xs : List PU} (h : validP xs = true) {i : Nat} (hi : i < xs.length) : validPu (rd_T38 xs (i : Int)) = true := by
  unfold validP at h
  simp only [Bool.and_eq_true] at h
  have := allB_true.1 h.1 i hi
  unfold okPu at this
  simp only [Bool.and_eq_true] at this
  exact this.1

/-! the head of a pump -/
theorem line_bnd (x1 y1 x2 y2 q : Int) (h1 : x1 < q) (h2 : q < x2) (h3 : 0 ≤ x1) (h4 : x2 ≤ 100000) (h5 : 0 ≤ y1) (h6 : y1 ≤ 2000000) (h7 : 0 ≤ y2) (h8 : y2 ≤ 2000000) : -200000000000 ≤ (y2 - y1) * (q - x1) ∧ (y2 - y1) * (q - x1) ≤ 200000000000 := by
  have h9 : 0 ≤ q - x1 := by omega
  have h10 : q - x1 ≤ 100000 := by omega
  constructor
  · have := Int.mul_le_mul_of_nonneg_right (show -2000000 ≤ y2 - y1 by omega) h9
    have := Int.mul_le_mul_of_nonpos_left (show (-2000000 : Int) ≤ 0 by decide) h10
    omega
  · have := Int.mul_le_mul_of_nonneg_right (show y2 - y1 ≤ 2000000 by omega) h9
    have := Int.mul_le_mul_of_nonneg_left h10 (show (0 : Int) ≤ 2000000 by decide)
    omega
def lineP (x1 y1 x2 y2 q : Int) : Int := if q ≤ x1 then y1 else if x2 ≤ x1 then y1 else if q ≥ x2 then y2 else wrap64 (y1 + rdiv ((y2 - y1) * (q - x1)) (x2 - x1))
theorem specLineP (x1 y1 x2 y2 q : Int) (h0 : 0 ≤ q) (h3 : 0 ≤ x1) (h4 : x2 ≤ 100000) (h5 : 0 ≤ y1) (h6 : y1 ≤ 2000000) (h7 : 0 ≤ y2) (h8 : y2 ≤ 2000000) : Ev (fun k => spec_l01Line.f k x1 y1 x2 y2 q) (lineP x1 y1 x2 y2 q) := by
  unfold spec_l01Line.f lineP
  by_cases c1 : q ≤ x1
  · simp only [if_pos c1]
    refine Ev.succ ?_
    simp only [spec_l01Line.j0, if_true]; exact Ev.now _
  simp only [if_neg c1]
  by_cases c2 : x2 ≤ x1
  · simp only [if_pos c2, decide_eq_true c2]
    refine Ev.succ ?_
    simp only [spec_l01Line.j0, if_true]; exact Ev.now _
  simp only [if_neg c2, decide_eq_false c2]
  refine Ev.succ ?_
  simp only [spec_l01Line.j0, Bool.false_eq_true, if_false]
  by_cases c3 : q ≥ x2
  · simp only [if_pos c3]; exact Ev.now _
  have b := line_bnd x1 y1 x2 y2 q (by omega) (by omega) h3 h4 h5 h6 h7 h8
  simp only [if_neg c3, w64 (x := y2 - y1) (by omega) (by omega), w64 (x := q - x1) (by omega) (by omega), w64 (x := (y2 - y1) * (q - x1)) (by omega) (by omega), w64 (x := x2 - x1) (by omega) (by omega),
    l01Div_eq _ _ (show x2 - x1 ≠ 0 by omega) (show _ ≤ (y2 - y1) * (q - x1) by omega) (by omega) (by omega) (by omega), Option.bind_some]
  exact Ev.now _
theorem implLineP (x1 y1 x2 y2 q : Int) (h0 : 0 ≤ q) (h3 : 0 ≤ x1) (h4 : x2 ≤ 100000) (h5 : 0 ≤ y1) (h6 : y1 ≤ 2000000) (h7 : 0 ≤ y2) (h8 : y2 ≤ 2000000) : Ev (fun k => impl_blend.f k x1 y1 x2 y2 q) (lineP x1 y1 x2 y2 q) := by
  unfold impl_blend.f lineP
  by_cases c1 : q ≤ x1
  · simp only [if_pos c1]
    refine Ev.succ ?_
    simp only [impl_blend.j0, if_true]; exact Ev.now _
  simp only [if_neg c1]
  by_cases c2 : x2 ≤ x1
  · simp only [if_pos c2, decide_eq_true c2]
    refine Ev.succ ?_
    simp only [impl_blend.j0, if_true]; exact Ev.now _
  simp only [if_neg c2, decide_eq_false c2]
  refine Ev.succ ?_
  simp only [impl_blend.j0, Bool.false_eq_true, if_false]
  by_cases c3 : q ≥ x2
  · simp only [if_pos c3]; exact Ev.now _
  have b := line_bnd x1 y1 x2 y2 q (by omega) (by omega) h3 h4 h5 h6 h7 h8
  simp only [if_neg c3, w64 (x := y2 - y1) (by omega) (by omega), w64 (x := q - x1) (by omega) (by omega), w64 (x := (y2 - y1) * (q - x1)) (by omega) (by omega), w64 (x := x2 - x1) (by omega) (by omega),
    divRound_eq _ _ (show x2 - x1 ≠ 0 by omega) (show _ ≤ (y2 - y1) * (q - x1) by omega) (by omega) (by omega) (by omega), Option.bind_some]
  exact Ev.now _
/-- The head of a curve at a flow, from point i on, d points being left. -/
def hdF (c : List (List Int)) (q : Int) : Nat → Nat → Int
  | 0, _ => 0
  | d + 1, i => if q ≤ pq c i then lineP (pq c (i - 1)) (ph c (i - 1)) (pq c i) (ph c i) q else hdF c q d (i + 1)
def hd (c : List (List Int)) (q : Int) : Int := hdF c q (c.length - 1) 1
theorem validPu_len {x : PU} (h : validPu x = true) : 2 ≤ x.f1.length ∧ x.f1.length ≤ 8 := by
  unfold validPu at h
  simp only [Bool.and_eq_true, decide_eq_true_eq] at h
  exact h.2.1
theorem validPu_at {x : PU} (h : validPu x = true) {i : Nat} (hi : i < x.f1.length) : okPt x.f1 i = true := by
  unfold validPu at h
  simp only [Bool.and_eq_true] at h
  exact allB_true.1 h.2.2 i hi
theorem specHead_ev (x : PU) (q : Int) (hv : validPu x = true) (h0 : 0 ≤ q) : Ev (fun k => spec_l08Head.f k [x] q) (hd x.f1 q) := by
  have hl := validPu_len hv
  have key : ∀ (d i : Nat), 1 ≤ i → i + d = x.f1.length → Ev (fun k => spec_l08Head.l0 k [x] q (i : Int)) (hdF x.f1 q d i) := by
    intro d
    induction d with
    | zero =>
      intro i h1 hi
      refine Ev.succ ?_
      simp only [spec_l08Head.l0, List.length_singleton, rd1, if_pos (show (0 : Int) < ((1 : Nat) : Int) by decide), if_neg (show ¬ (i : Int) < (x.f1.length : Int) by omega), hdF]
      exact Ev.now _
    | succ d ih =>
      intro i h1 hi
      have e1 : wrap64 ((i : Int) - 1) = ((i - 1 : Nat) : Int) := by rw [w64] <;> omega
      have v1 := validPu_at hv (show i < x.f1.length by omega)
      have v0 := validPu_at hv (show i - 1 < x.f1.length by omega)
      have l1 := okPt_len v1
      have l0 := okPt_len v0
      have r1 := okPt_rng v1
      have r0 := okPt_rng v0
      refine Ev.succ ?_
      simp only [spec_l08Head.l0, List.length_singleton, rd1, if_pos (show (0 : Int) < ((1 : Nat) : Int) by decide), if_pos (show (i : Int) < (x.f1.length : Int) by omega), e1, if_pos (show 0 ≤ ((i - 1 : Nat) : Int) by omega), if_pos (show ((i - 1 : Nat) : Int) < (x.f1.length : Int) by omega), if_pos (show 0 ≤ (i : Int) by omega), if_pos (show (0 : Int) < ((rd_L1 x.f1 (i : Int)).length : Int) by omega), if_pos (show (1 : Int) < ((rd_L1 x.f1 (i : Int)).length : Int) by omega), if_pos (show (0 : Int) < ((rd_L1 x.f1 ((i - 1 : Nat) : Int)).length : Int) by omega), if_pos (show (1 : Int) < ((rd_L1 x.f1 ((i - 1 : Nat) : Int)).length : Int) by omega), w64s (show i < 9223372036854775807 by omega), hdF]
      by_cases c : q ≤ pq x.f1 i
      · simp only [if_pos (show q ≤ rd (rd_L1 x.f1 (i : Int)) 0 from c), if_pos c]
        exact Ev.bind (specLineP _ _ _ _ q h0 r0.1 r1.2.1 r0.2.2.1 r0.2.2.2 r1.2.2.1 r1.2.2.2) (Ev.now _)
      · simp only [if_neg (show ¬ q ≤ rd (rd_L1 x.f1 (i : Int)) 0 from c), if_neg c]
        exact ih (i + 1) (by omega) (by omega)
  unfold spec_l08Head.f hd
  exact key (x.f1.length - 1) 1 (Nat.le_refl _) (by omega)
theorem implHead_ev (x : PU) (q : Int) (hv : validPu x = true) (h0 : 0 ≤ q) : Ev (fun k => impl_Pump_head.f k x.f0 x.f1 q) (hd x.f1 q) := by
  have hl := validPu_len hv
  have key : ∀ (d i : Nat), 1 ≤ i → i + d = x.f1.length → Ev (fun k => impl_Pump_head.l0 k q (i : Int) x.f0 x.f1) (hdF x.f1 q d i) := by
    intro d
    induction d with
    | zero =>
      intro i h1 hi
      refine Ev.succ ?_
      simp only [impl_Pump_head.l0, if_neg (show ¬ (i : Int) < (x.f1.length : Int) by omega), if_pos (show (i : Int) = (x.f1.length : Int) by omega), hdF]
      exact Ev.now _
    | succ d ih =>
      intro i h1 hi
      have e1 : wrap64 ((i : Int) - 1) = ((i - 1 : Nat) : Int) := by rw [w64] <;> omega
      have v1 := validPu_at hv (show i < x.f1.length by omega)
      have v0 := validPu_at hv (show i - 1 < x.f1.length by omega)
      have l1 := okPt_len v1
      have l0 := okPt_len v0
      have r1 := okPt_rng v1
      have r0 := okPt_rng v0
      refine Ev.succ ?_
      simp only [impl_Pump_head.l0, if_pos (show (i : Int) < (x.f1.length : Int) by omega), if_neg (show ¬ (i : Int) = (x.f1.length : Int) by omega), e1, if_pos (show 0 ≤ ((i - 1 : Nat) : Int) by omega), if_pos (show ((i - 1 : Nat) : Int) < (x.f1.length : Int) by omega), if_pos (show 0 ≤ (i : Int) by omega), if_pos (show (0 : Int) < ((rd_L1 x.f1 (i : Int)).length : Int) by omega), if_pos (show (1 : Int) < ((rd_L1 x.f1 (i : Int)).length : Int) by omega), if_pos (show (0 : Int) < ((rd_L1 x.f1 ((i - 1 : Nat) : Int)).length : Int) by omega), if_pos (show (1 : Int) < ((rd_L1 x.f1 ((i - 1 : Nat) : Int)).length : Int) by omega), w64s (show i < 9223372036854775807 by omega), hdF]
      by_cases c : q ≤ pq x.f1 i
      · simp only [if_neg (show ¬ rd (rd_L1 x.f1 (i : Int)) 0 < q from by unfold pq at c; omega), if_pos c]
        exact Ev.bind (implLineP _ _ _ _ q h0 r0.1 r1.2.1 r0.2.2.1 r0.2.2.2 r1.2.2.1 r1.2.2.2) (Ev.now _)
      · simp only [if_pos (show rd (rd_L1 x.f1 (i : Int)) 0 < q from by unfold pq at c; omega), if_neg c]
        exact ih (i + 1) (by omega) (by omega)
  unfold impl_Pump_head.f hd
  exact key (x.f1.length - 1) 1 (Nat.le_refl _) (by omega)
/-- What pumps lift at a flow. -/
def hds (xs : List PU) (q : Int) : List Int := xs.map fun x => hd x.f1 q
theorem headsL_ev (xs : List PU) (q : Int) (hv : validP xs = true) (h0 : 0 ≤ q) : ∀ (d : Nat) (acc : List Int), d ≤ xs.length → Ev (fun k => headsL k xs q d acc) (acc ++ (hds xs q).drop (xs.length - d)) := by
  intro d
  induction d with
  | zero =>
    intro acc _
    simp only [headsL, Nat.sub_zero]
    rw [List.drop_eq_nil_of_le (by simp [hds]), List.append_nil]; exact Ev.now _
  | succ d ih =>
    intro acc hd_
    have hi : xs.length - (d + 1) < xs.length := by omega
    have hvi := validP_at hv hi
    simp only [headsL]
    refine Ev.bind (implHead_ev _ q hvi h0) ?_
    have h := ih (acc ++ [hd (rd_T38 xs ((xs.length - (d + 1) : Nat) : Int)).f1 q]) (by omega)
    have e : (hds xs q).drop (xs.length - (d + 1)) = hd (rd_T38 xs ((xs.length - (d + 1) : Nat) : Int)).f1 q :: (hds xs q).drop (xs.length - d) := by
      rw [List.drop_eq_getElem_cons (by simp [hds]; omega), show xs.length - (d + 1) + 1 = xs.length - d by omega, rdi_Pump xs _ hi]
      simp [hds]
    rw [e, List.append_cons acc (hd (rd_T38 xs ((xs.length - (d + 1) : Nat) : Int)).f1 q) ((hds xs q).drop (xs.length - d))]
    exact h
theorem headsS_ev (xs : List PU) (q : Int) (hv : validP xs = true) (h0 : 0 ≤ q) : ∀ (d : Nat) (acc : List Int), d ≤ xs.length → Ev (fun k => headsS k xs q d acc) (acc ++ (hds xs q).drop (xs.length - d)) := by
  intro d
  induction d with
  | zero =>
    intro acc _
    simp only [headsS, Nat.sub_zero]
    rw [List.drop_eq_nil_of_le (by simp [hds]), List.append_nil]; exact Ev.now _
  | succ d ih =>
    intro acc hd_
    have hi : xs.length - (d + 1) < xs.length := by omega
    have hvi := validP_at hv hi
    simp only [headsS]
    refine Ev.bind (specHead_ev _ q hvi h0) ?_
    have h := ih (acc ++ [hd (rd_T38 xs ((xs.length - (d + 1) : Nat) : Int)).f1 q]) (by omega)
    have e : (hds xs q).drop (xs.length - (d + 1)) = hd (rd_T38 xs ((xs.length - (d + 1) : Nat) : Int)).f1 q :: (hds xs q).drop (xs.length - d) := by
      rw [List.drop_eq_getElem_cons (by simp [hds]; omega), show xs.length - (d + 1) + 1 = xs.length - d by omega, rdi_Pump xs _ hi]
      simp [hds]
    rw [e, List.append_cons acc (hd (rd_T38 xs ((xs.length - (d + 1) : Nat) : Int)).f1 q) ((hds xs q).drop (xs.length - d))]
    exact h

/-! the search for pumps: the program's and the reference's -/
structure RelP (B : Int) (s : SVP) (x : SVW) : Prop where
  bud : x.budget = B
  full : x.full = false
  n0 : 0 ≤ x.nodes
  n1 : x.nodes ≤ B
  b : s.budget = B - x.nodes
  go : s.goal = x.need
  so : s.some = x.set
  be : s.best = x.best
  bl : x.best.length ≤ 8
  le : s.least = x.least
def OutP (d : Nat) (B : Int) (s' : SVP) (x' : SVW) : Prop := (x'.full = true ∧ s'.budget < 0 ∧ -1 - (d : Int) ≤ s'.budget) ∨ RelP B s' x'
theorem leafP_ev (hl : List Int) (B g : Int) (s : SVP) (x : SVW) (h : RelP B s x) (hz : x.set.length ≤ 8) :
    ∃ s' x', Ev (fun k => visitP k hl 0 g s) s' ∧ Ev (fun k => runW k hl 0 g x) x' ∧ s'.some = s.some ∧ x'.set = x.set ∧ RelP B s' x' := by
  have hup : RelP B ⟨s.goal, s.budget, s.some, s.some, g⟩ ⟨x.need, x.set, x.set, g, x.nodes, x.budget, x.full⟩ := ⟨h.bud, h.full, h.n0, h.n1, h.b, h.go, h.so, h.so, hz, rfl⟩
  by_cases q1 : x.need ≤ g
  · have p1 : s.goal ≤ g := by rw [h.go]; exact q1
    by_cases q2 : x.least < 0
    · refine ⟨⟨s.goal, s.budget, s.some, s.some, g⟩, ⟨x.need, x.set, x.set, g, x.nodes, x.budget, x.full⟩, ?_, ?_, rfl, rfl, hup⟩
      · simp only [visitP, if_pos p1, if_pos (show s.least < 0 by rw [h.le]; exact q2)]; exact Ev.now _
      · simp only [runW, if_pos q1, if_pos q2]; exact Ev.now _
    · by_cases q3 : g < x.least
      · refine ⟨⟨s.goal, s.budget, s.some, s.some, g⟩, ⟨x.need, x.set, x.set, g, x.nodes, x.budget, x.full⟩, ?_, ?_, rfl, rfl, hup⟩
        · simp only [visitP, if_pos p1, if_neg (show ¬ s.least < 0 by rw [h.le]; exact q2), if_pos (show g < s.least by rw [h.le]; exact q3)]; exact Ev.now _
        · simp only [runW, if_pos q1, if_neg q2, if_pos q3]; exact Ev.now _
      · by_cases q4 : g = x.least
        · have ec := cmp_ev x.set x.best (by omega) (by have := h.bl; omega)
          have eb := before_ev x.set x.best (by omega) (by have := h.bl; omega)
          by_cases qc : cmpT x.set x.best < 0
          · rw [decide_eq_true qc] at eb
            refine ⟨⟨s.goal, s.budget, s.some, s.some, g⟩, ⟨x.need, x.set, x.set, g, x.nodes, x.budget, x.full⟩, ?_, ?_, rfl, rfl, hup⟩
            · simp only [visitP, if_pos p1, if_neg (show ¬ s.least < 0 by rw [h.le]; exact q2), if_neg (show ¬ g < s.least by rw [h.le]; exact q3), if_pos (show g = s.least by rw [h.le]; exact q4)]
              rw [h.so, h.be]
              refine Ev.bind ec ?_
              simp only [if_pos qc]; exact Ev.now _
            · simp only [runW, if_pos q1, if_neg q2, if_neg q3, if_pos q4]
              refine Ev.bind eb ?_
              simp only [if_true]; exact Ev.now _
          · rw [decide_eq_false qc] at eb
            refine ⟨s, x, ?_, ?_, rfl, rfl, h⟩
            · simp only [visitP, if_pos p1, if_neg (show ¬ s.least < 0 by rw [h.le]; exact q2), if_neg (show ¬ g < s.least by rw [h.le]; exact q3), if_pos (show g = s.least by rw [h.le]; exact q4)]
              rw [h.so, h.be]
              refine Ev.bind ec ?_
              simp only [if_neg qc]; exact Ev.now _
            · simp only [runW, if_pos q1, if_neg q2, if_neg q3, if_pos q4]
              refine Ev.bind eb ?_
              simp only [Bool.false_eq_true, if_false]; exact Ev.now _
        · refine ⟨s, x, ?_, ?_, rfl, rfl, h⟩
          · simp only [visitP, if_pos p1, if_neg (show ¬ s.least < 0 by rw [h.le]; exact q2), if_neg (show ¬ g < s.least by rw [h.le]; exact q3), if_neg (show ¬ g = s.least by rw [h.le]; exact q4)]; exact Ev.now _
          · simp only [runW, if_pos q1, if_neg q2, if_neg q3, if_neg q4]; exact Ev.now _
  · refine ⟨s, x, ?_, ?_, rfl, rfl, h⟩
    · simp only [visitP, if_neg (show ¬ s.goal ≤ g by rw [h.go]; exact q1)]; exact Ev.now _
    · simp only [runW, if_neg q1]; exact Ev.now _
theorem nodeP_no {B : Int} {s : SVP} {x : SVW} (h : RelP B s x) (e : x.nodes = B) : nodeWB x = false ∧ (nodeWS x).full = true ∧ (nodeWS x).set = x.set ∧ wrap64 (s.budget - 1) = -1 := by
  unfold nodeWB nodeWS
  rw [if_pos (by rw [h.bud]; exact e), if_pos (by rw [h.bud]; exact e)]
  exact ⟨rfl, rfl, rfl, by rw [h.b, e, w64] <;> omega⟩
theorem nodeP_yes {B : Int} {s : SVP} {x : SVW} (h : RelP B s x) (hB : B ≤ 20000) (e : ¬ x.nodes = B) : nodeWB x = true ∧ nodeWS x = ⟨x.need, x.set, x.best, x.least, x.nodes + 1, x.budget, false⟩ ∧ wrap64 (s.budget - 1) = B - (x.nodes + 1) ∧ 0 ≤ B - (x.nodes + 1) := by
  have n0 := h.n0
  have n1 := h.n1
  unfold nodeWB nodeWS
  rw [if_neg (by rw [h.bud]; exact e), if_neg (by rw [h.bud]; exact e), if_neg (by rw [h.full]; decide), h.full]
  refine ⟨rfl, ?_, ?_, by omega⟩
  · rw [show wrap64 (x.nodes + 1) = x.nodes + 1 by rw [w64] <;> omega]
  · rw [h.b, w64] <;> omega
theorem RelP.node {B : Int} {s : SVP} {x : SVW} (h : RelP B s x) (hB : B ≤ 20000) (e : ¬ x.nodes = B) : RelP B ⟨s.goal, wrap64 (s.budget - 1), s.some, s.best, s.least⟩ ⟨x.need, x.set, x.best, x.least, x.nodes + 1, x.budget, false⟩ := by
  obtain ⟨_, _, hw, h0⟩ := nodeP_yes h hB e
  exact ⟨h.bud, rfl, by have := h.n0; show 0 ≤ x.nodes + 1; omega, by show x.nodes + 1 ≤ B; omega, hw, h.go, h.so, h.be, h.bl, h.le⟩
theorem tailP_ev (hl : List Int) (d : Nat) (B g : Int) (hB : B ≤ 20000)
    (ih : ∀ s x, RelP B s x → x.set.length + d ≤ hl.length → ∃ s' x', Ev (fun k => visitP k hl d g s) s' ∧ Ev (fun k => runW k hl d g x) x' ∧ s'.some = s.some ∧ x'.set = x.set ∧ OutP d B s' x')
    (s : SVP) (x : SVW) (h : RelP B s x) (hz : x.set.length + d ≤ hl.length) :
    ∃ s' x', Ev (fun k => if wrap64 (s.budget - 1) < 0 then some (⟨s.goal, wrap64 (s.budget - 1), s.some, s.best, s.least⟩ : SVP) else visitP k hl d g ⟨s.goal, wrap64 (s.budget - 1), s.some, s.best, s.least⟩) s' ∧ Ev (fun k => if nodeWB x = true then runW k hl d g (nodeWS x) else some (nodeWS x)) x' ∧ s'.some = s.some ∧ x'.set = x.set ∧ OutP d B s' x' := by
  by_cases e : x.nodes = B
  · obtain ⟨e1, e2, e3, e4⟩ := nodeP_no h e
    refine ⟨⟨s.goal, -1, s.some, s.best, s.least⟩, nodeWS x, ?_, ?_, rfl, e3, .inl ⟨e2, by show (-1 : Int) < 0; decide, by show -1 - (d : Int) ≤ -1; omega⟩⟩
    · rw [e4]
      simp only [show ((-1 : Int) < 0) = True from eq_true (by decide), if_true]; exact Ev.now _
    · simp only [e1, Bool.false_eq_true, if_false]; exact Ev.now _
  · obtain ⟨e1, e2, e3, e4⟩ := nodeP_yes h hB e
    obtain ⟨s', x', h1, h2, h3, h4, h5⟩ := ih _ _ (h.node hB e) hz
    refine ⟨s', x', ?_, ?_, h3, h4, h5⟩
    · simp only [if_neg (show ¬ wrap64 (s.budget - 1) < 0 by omega)]; exact h1
    · simp only [if_pos e1, e2]; exact h2
theorem OutP.up {d : Nat} {B : Int} {s : SVP} {x : SVW} (h : OutP d B s x) : OutP (d + 1) B s x := by
  rcases h with ⟨a, b, c⟩ | h
  · exact .inl ⟨a, b, by omega⟩
  · exact .inr h
theorem searchP_ev (hl : List Int) (h8 : hl.length ≤ 8) (B : Int) (hB : B ≤ 20000) : ∀ (d i : Nat), i + d = hl.length → ∀ (g : Int) (s : SVP) (x : SVW), RelP B s x → x.set.length ≤ i →
    ∃ s' x', Ev (fun k => visitP k hl d g s) s' ∧ Ev (fun k => runW k hl d g x) x' ∧ s'.some = s.some ∧ x'.set = x.set ∧ OutP d B s' x' := by
  intro d
  induction d with
  | zero =>
    intro i hi g s x h hz
    obtain ⟨s', x', h1, h2, h3, h4, h5⟩ := leafP_ev hl B g s x h (by omega)
    exact ⟨s', x', h1, h2, h3, h4, .inr h5⟩
  | succ d ih =>
    intro i hi g s x h hz
    have ei : hl.length - (d + 1) = i := by omega
    have tl : ∀ s x, RelP B s x → x.set.length ≤ i → ∃ s' x', Ev (fun k => if wrap64 (s.budget - 1) < 0 then some (⟨s.goal, wrap64 (s.budget - 1), s.some, s.best, s.least⟩ : SVP) else visitP k hl d g ⟨s.goal, wrap64 (s.budget - 1), s.some, s.best, s.least⟩) s' ∧ Ev (fun k => if nodeWB x = true then runW k hl d g (nodeWS x) else some (nodeWS x)) x' ∧ s'.some = s.some ∧ x'.set = x.set ∧ OutP d B s' x' := fun s x hr hz =>
      tailP_ev hl d B g hB (fun s x hr hz => ih (i + 1) (by omega) g s x hr (by omega)) s x hr (by omega)
    unfold visitP runW
    simp only [ei]
    by_cases e : x.nodes = B
    · obtain ⟨e1, e2, e3, e4⟩ := nodeP_no h e
      have hn : (nodeWS x).nodes = (nodeWS x).budget := by unfold nodeWS; rw [if_pos (by rw [h.bud]; exact e)]; show x.nodes = x.budget; rw [h.bud]; exact e
      have e5 : nodeWB (nodeWS x) = false := by unfold nodeWB; rw [if_pos hn]
      have e6 : (nodeWS (nodeWS x)).full = true := by rw [nodeWS, if_pos hn]
      refine ⟨⟨s.goal, -1, s.some, s.best, s.least⟩, nodeWS (nodeWS x), ?_, ?_, rfl, by rw [nodeWS_set]; exact e3, .inl ⟨e6, by show (-1 : Int) < 0; decide, by show -1 - ((d + 1 : Nat) : Int) ≤ -1; omega⟩⟩
      · rw [e4]
        simp only [show ((-1 : Int) < 0) = True from eq_true (by decide), if_true]; exact Ev.now _
      · simp only [e1, Bool.false_eq_true, if_false, Option.bind_some, e5]; exact Ev.now _
    · obtain ⟨e1, e2, e3, e4⟩ := nodeP_yes h hB e
      have hnode := h.node hB e
      have hrel : RelP B ⟨s.goal, wrap64 (s.budget - 1), s.some ++ [(i : Int)], s.best, s.least⟩ ⟨x.need, x.set ++ [(i : Int)], x.best, x.least, x.nodes + 1, x.budget, false⟩ := ⟨hnode.bud, hnode.full, hnode.n0, hnode.n1, hnode.b, hnode.go, by show s.some ++ [(i : Int)] = x.set ++ [(i : Int)]; rw [h.so], hnode.be, hnode.bl, hnode.le⟩
      obtain ⟨s2, x2, h1, h2, h3, h4, h5⟩ := ih (i + 1) (by omega) (wrap64 (g + rd hl (i : Int))) _ _ hrel (by show (x.set ++ [(i : Int)]).length ≤ i + 1; simp; omega)
      have t1 : s2.some.take (s2.some.length - 1) = s.some := by rw [h3]; simp
      have t2 : x2.set.take (x2.set.length - 1) = x.set := by rw [h4]; simp
      simp only [if_neg (show ¬ wrap64 (s.budget - 1) < 0 by omega), e1, if_true, e2]
      rcases h5 with ⟨f1, f2, f3⟩ | hrel2
      · have wb : wrap64 (s2.budget - 1) = s2.budget - 1 := by rw [w64] <;> omega
        have hnb : ∀ y : SVW, y.full = true → nodeWB y = false ∧ (nodeWS y).full = true := fun y hy => by
          unfold nodeWB nodeWS
          by_cases c : y.nodes = y.budget
          · rw [if_pos c, if_pos c]; exact ⟨rfl, rfl⟩
          · rw [if_neg c, if_neg c, if_pos hy, hy]; exact ⟨rfl, rfl⟩
        obtain ⟨n1, n2⟩ := hnb ⟨x2.need, x2.set.take (x2.set.length - 1), x2.best, x2.least, x2.nodes, x2.budget, x2.full⟩ f1
        refine ⟨⟨s2.goal, s2.budget - 1, s.some, s2.best, s2.least⟩, nodeWS ⟨x2.need, x2.set.take (x2.set.length - 1), x2.best, x2.least, x2.nodes, x2.budget, x2.full⟩, ?_, ?_, rfl, by rw [nodeWS_set]; exact t2, .inl ⟨n2, by show s2.budget - 1 < 0; omega, by show -1 - ((d + 1 : Nat) : Int) ≤ s2.budget - 1; omega⟩⟩
        · refine Ev.bind h1 ?_
          simp only [wb, if_pos (show s2.budget - 1 < 0 by omega), t1]; exact Ev.now _
        · refine Ev.bind (Ev.bind h2 (Ev.now _)) ?_
          simp only [n1, Bool.false_eq_true, if_false]; exact Ev.now _
      · have hrel3 : RelP B ⟨s2.goal, s2.budget, s2.some.take (s2.some.length - 1), s2.best, s2.least⟩ ⟨x2.need, x2.set.take (x2.set.length - 1), x2.best, x2.least, x2.nodes, x2.budget, x2.full⟩ := ⟨hrel2.bud, hrel2.full, hrel2.n0, hrel2.n1, hrel2.b, hrel2.go, by show s2.some.take (s2.some.length - 1) = x2.set.take (x2.set.length - 1); rw [t1, t2]; exact h.so, hrel2.be, hrel2.bl, hrel2.le⟩
        obtain ⟨s', x', k1, k2, k3, k4, k5⟩ := tl _ _ hrel3 (by show (x2.set.take (x2.set.length - 1)).length ≤ i; rw [t2]; exact hz)
        refine ⟨s', x', ?_, ?_, k3.trans t1, k4.trans t2, k5.up⟩
        · refine Ev.bind h1 ?_
          exact k1
        · refine Ev.bind (Ev.bind h2 (Ev.now _)) ?_
          exact k2
/-! the two programs -/
theorem sys_b (c q : Int) (h1 : 0 ≤ c) (h2 : c ≤ 100000000) (h3 : 0 ≤ q) (h4 : q ≤ 100000) : (0 ≤ c * q ∧ c * q ≤ 10000000000000) ∧ 0 ≤ c * q * q ∧ c * q * q ≤ 1000000000000000000 := by
  have a1 : 0 ≤ c * q := Int.mul_nonneg h1 h3
  have a2 : c * q ≤ 10000000000000 := Int.le_trans (Int.mul_le_mul h2 h4 h3 (by decide)) (by decide)
  exact ⟨⟨a1, a2⟩, Int.mul_nonneg a1 h3, Int.le_trans (Int.mul_le_mul a2 h4 h3 (by decide)) (by decide)⟩
def sysH (a c q : Int) : Int := wrap64 (a + rdiv (c * q * q) 10000000000)
theorem specSys (a c q : Int) (h1 : 0 ≤ c) (h2 : c ≤ 100000000) (h3 : 0 ≤ q) (h4 : q ≤ 100000) : spec_l08Needs.f a c q = some (sysH a c q) := by
  obtain ⟨⟨b1, b2⟩, b3, b4⟩ := sys_b c q h1 h2 h3 h4
  unfold spec_l08Needs.f sysH
  rw [w64 (x := c * q) (by omega) (by omega), w64 (x := c * q * q) (by omega) (by omega), l01Div_eq _ _ (by decide) (by omega) (by omega) (by decide) (by decide)]
  rfl
theorem implSys (a c q : Int) (h1 : 0 ≤ c) (h2 : c ≤ 100000000) (h3 : 0 ≤ q) (h4 : q ≤ 100000) : impl_systemHead.f a c q = some (sysH a c q) := by
  obtain ⟨⟨b1, b2⟩, b3, b4⟩ := sys_b c q h1 h2 h3 h4
  unfold impl_systemHead.f sysH
  rw [w64 (x := c * q) (by omega) (by omega), w64 (x := c * q * q) (by omega) (by omega), divRound_eq _ _ (by decide) (by omega) (by omega) (by decide) (by decide)]
  rfl
theorem bothP_ev (xs : List PU) (hs : smallPu xs) (a c q b : Int) : ∃ r : List Int × Int × Int, Ev (fun k => spec_CheapestPumps.f k xs a c q b) r ∧ Ev (fun k => impl_CheapestPumps.f k xs a c q b) r ∧ r.1.length ≤ 8 := by
  unfold spec_CheapestPumps.f impl_CheapestPumps.f
  have e1 := specP_ev xs hs
  have e2 := implP_ev xs hs
  by_cases v : validP xs = true
  · rw [v] at e1 e2
    have h8 := validP_len v
    have es : spec_l08System.f a c = some ((decide (0 ≤ a) && decide (a ≤ 2000000)) && (decide (0 ≤ c) && decide (c ≤ 100000000))) := by
      unfold spec_l08System.f
      rw [l00In_eq, l00In_eq]
      cases (decide (0 ≤ a) && decide (a ≤ 2000000)) <;> rfl
    have ef : spec_l02Flow.f q = some (decide (0 ≤ q) && decide (q ≤ 100000)) := by unfold spec_l02Flow.f; rw [l00In_eq]; rfl
    have eb : spec_l00In.f b 1 20000 = some (decide (1 ≤ b) && decide (b ≤ 20000)) := l00In_eq b 1 20000
    have ei : impl_systemOk.f a c q = some (((decide (0 ≤ a) && decide (a ≤ 2000000)) && (decide (0 ≤ c) && decide (c ≤ 100000000))) && (decide (0 ≤ q) && decide (q ≤ 100000))) := by
      unfold impl_systemOk.f impl_headOk.f
      rw [within_eq, within_eq, within_eq]
      cases (decide (0 ≤ a) && decide (a ≤ 2000000)) <;> cases (decide (0 ≤ c) && decide (c ≤ 100000000)) <;> rfl
    have ej : impl_budgetValid.f b = some (decide (1 ≤ b) && decide (b ≤ 20000)) := by unfold impl_budgetValid.f; rw [within_eq]; rfl
    cases m1 : ((decide (0 ≤ a) && decide (a ≤ 2000000)) && (decide (0 ≤ c) && decide (c ≤ 100000000)))
    · rw [m1] at es ei
      refine ⟨([], 0, 2), Ev.bind e1 ?_, Ev.bind e2 ?_, Nat.zero_le 8⟩
      · simp only [if_true, es, Option.bind_some, Bool.false_eq_true, if_false]; exact Ev.now _
      · simp only [if_true, ei, Option.bind_some, Bool.false_and, Bool.false_eq_true, if_false]; exact Ev.now _
    rw [m1] at es ei
    cases m2 : (decide (0 ≤ q) && decide (q ≤ 100000))
    · rw [m2] at ef ei
      refine ⟨([], 0, 2), Ev.bind e1 ?_, Ev.bind e2 ?_, Nat.zero_le 8⟩
      · simp only [if_true, es, ef, Option.bind_some, Bool.false_eq_true, if_false]; exact Ev.now _
      · simp only [if_true, ei, Option.bind_some, Bool.true_and, Bool.false_eq_true, if_false]; exact Ev.now _
    rw [m2] at ef ei
    cases m3 : (decide (1 ≤ b) && decide (b ≤ 20000))
    · rw [m3] at eb ej
      refine ⟨([], 0, 2), Ev.bind e1 ?_, Ev.bind e2 ?_, Nat.zero_le 8⟩
      · simp only [if_true, es, ef, eb, Option.bind_some, Bool.false_eq_true, if_false]; exact Ev.now _
      · simp only [if_true, ei, ej, Option.bind_some, Bool.and_self, if_true, Bool.false_eq_true, if_false]; exact Ev.now _
    rw [m3] at eb ej
    simp only [Bool.and_eq_true, decide_eq_true_eq] at m1 m2 m3
    have g1 := specSys a c q m1.2.1 m1.2.2 m2.1 m2.2
    have g2 := implSys a c q m1.2.1 m1.2.2 m2.1 m2.2
    have k1 := headsS_ev xs q v m2.1 xs.length [] (Nat.le_refl _)
    have k2 := headsL_ev xs q v m2.1 xs.length [] (Nat.le_refl _)
    rw [Nat.sub_self, List.drop_zero, List.nil_append] at k1 k2
    have hz : (hds xs q).length = xs.length := by simp [hds]
    obtain ⟨s', x', h1, h2, _, _, h5⟩ := searchP_ev (hds xs q) (by omega) b m3.2 (hds xs q).length 0 (Nat.zero_add _) 0 ⟨sysH a c q, b, [], [], -1⟩ ⟨sysH a c q, [], [], -1, 0, b, false⟩ ⟨rfl, rfl, Int.le_refl 0, by show 0 ≤ b; omega, by show b = b - 0; omega, rfl, rfl, rfl, Nat.zero_le 8, rfl⟩ (Nat.zero_le _)
    rcases h5 with ⟨f1, f2, _⟩ | hr
    · refine ⟨([], 0, 5), Ev.bind e1 ?_, Ev.bind e2 ?_, Nat.zero_le 8⟩
      · simp only [if_true, es, ef, eb, g1, Option.bind_some, if_pos h8]
        refine Ev.bind k1 (Ev.bind h2 ?_)
        simp only [if_pos f1]; exact Ev.now _
      · simp only [if_true, ei, ej, g2, Option.bind_some, Bool.and_self, if_pos h8]
        refine Ev.bind k2 (Ev.bind h1 ?_)
        simp only [if_pos f2]; exact Ev.now _
    · have hb := hr.b
      have hn := hr.n1
      have hle := hr.le
      by_cases ql : x'.least < 0
      · refine ⟨([], 0, 3), Ev.bind e1 ?_, Ev.bind e2 ?_, Nat.zero_le 8⟩
        · simp only [if_true, es, ef, eb, g1, Option.bind_some, if_pos h8]
          refine Ev.bind k1 (Ev.bind h2 ?_)
          simp only [hr.full, Bool.false_eq_true, if_false, if_pos ql]; exact Ev.now _
        · simp only [if_true, ei, ej, g2, Option.bind_some, Bool.and_self, if_pos h8]
          refine Ev.bind k2 (Ev.bind h1 ?_)
          simp only [if_neg (show ¬ s'.budget < 0 by omega), if_pos (show s'.least < 0 by omega)]; exact Ev.now _
      · refine ⟨(x'.best, x'.least, 0), Ev.bind e1 ?_, Ev.bind e2 ?_, hr.bl⟩
        · simp only [if_true, es, ef, eb, g1, Option.bind_some, if_pos h8]
          refine Ev.bind k1 (Ev.bind h2 ?_)
          simp only [hr.full, Bool.false_eq_true, if_false, if_neg ql]; exact Ev.now _
        · simp only [if_true, ei, ej, g2, Option.bind_some, Bool.and_self, if_pos h8]
          refine Ev.bind k2 (Ev.bind h1 ?_)
          simp only [if_neg (show ¬ s'.budget < 0 by omega), if_neg (show ¬ s'.least < 0 by omega), if_neg ql, hr.be, hr.le]; exact Ev.now _
  · rw [Bool.eq_false_iff.2 v] at e1 e2
    refine ⟨([], 0, 1), Ev.bind e1 ?_, Ev.bind e2 ?_, Nat.zero_le 8⟩
    · simp only [Bool.false_eq_true, if_false]; exact Ev.now _
    · simp only [Bool.false_eq_true, if_false]; exact Ev.now _

theorem FnExactCheapestPumps : PFnExactCheapestPumps.Pure := by
  intro xs a c q b hx _ _ _ _
  obtain ⟨_, hxl, hw⟩ := hx
  have hw2 : ∀ x ∈ xs, x.f0.size ≤ 140737488351232 ∧ x.f1.length * 24 ≤ 140737488351232 ∧ ∀ y ∈ x.f1, y.length * 8 ≤ 140737488351232 := fun x hx => by
    obtain ⟨h0, _, h2, h3⟩ := hw x hx
    exact ⟨h0, h2, fun y hy => (h3 y hy).2.1⟩
  have hcv : ∀ x ∈ xs.map cvPump, x.f0.size ≤ 140737488351232 ∧ x.f1.length * 24 ≤ 140737488351232 ∧ ∀ y ∈ x.f1, y.length * 8 ≤ 140737488351232 := fun x hx => by
    obtain ⟨y, hy, rfl⟩ := List.mem_map.1 hx
    exact hw2 y hy
  have hs : smallPu (xs.map cvPump) := ⟨by rw [List.length_map]; omega, fun x hx => by have := (hcv x hx).1; omega⟩
  have hall : (xs.map cvPump).all smallP = true := by
    rw [List.all_eq_true]
    intro x hx
    obtain ⟨_, h1, h2⟩ := hcv x hx
    unfold smallP
    simp only [Bool.and_eq_true, decide_eq_true_eq, List.all_eq_true]
    exact ⟨by omega, fun y hy => by have := h2 y hy; omega⟩
  obtain ⟨r, hr0, hz⟩ := szPump_b xs (by omega) (fun x hx => ⟨(hw2 x hx).1, by have := (hw2 x hx).2.1; omega, fun y hy => by have := (hw2 x hx).2.2 y hy; omega⟩)
  have ht := toPump_ev xs hxl (fun x hx => (hw2 x hx).2)
  obtain ⟨⟨q0, q1, q2⟩, h1, h2, hq⟩ := bothP_ev _ hs a c q b
  simp only at hq
  refine Ev.get ?_
  unfold laws_FnExactCheapestPumps.f
  refine Ev.bind hz ?_
  by_cases cz : r < 0
  · simp only [if_pos cz]; exact Ev.now _
  simp only [if_neg cz]
  have hns : (cntP S38.f1 (xs.map cvPump) : Int) = (cntP S77.f1 xs : Int) := by rw [cntP_cv]
  have hm := markPump_ev (xs.map cvPump) (by rw [List.length_map]; omega) hall
  rw [List.length_map] at hm
  generalize hN : 1 + (xs.length : Int) + (cntP S38.f1 (xs.map cvPump) : Int) = N at hm
  refine Ev.bind ht (Ev.bind h1 (Ev.bind ht (Ev.bind h2 (Ev.bind (eqInts_ev q0 (by omega)) ?_))))
  simp only [bne_self_eq_false, if_true]
  refine Ev.succ ?_
  simp only [laws_FnExactCheapestPumps.j0, Bool.false_eq_true, if_false]
  refine Ev.bind ht (Ev.bind (eqPump_ev _ hs.1 (fun x hx => ⟨by have := (hcv x hx).2.1; omega, fun y hy => by have := (hcv x hx).2.2 y hy; omega⟩)) ?_)
  simp only [if_true]
  refine Ev.bind hm ?_
  simp only [if_neg (show ¬ N < 0 by omega)]
  refine Ev.bind (eqInts_ev q0 (by omega)) ?_
  simp only [if_true, bne_self_eq_false]
  refine Ev.succ ?_
  simp only [laws_FnExactCheapestPumps.j1, Bool.false_eq_true, if_false]
  refine Ev.bind (markInts_ev q0 (by omega)) (Ev.bind (heldInts_ev q0 (by omega)) ?_)
  simp only [if_neg (show ¬ (q0.length : Int) + 1 < 0 by omega), if_true]
  refine Ev.bind ht (Ev.bind h2 (Ev.bind (eqInts_ev q0 (by omega)) ?_))
  simp only [if_true, bne_self_eq_false]
  refine Ev.succ ?_
  simp only [laws_FnExactCheapestPumps.j2, Bool.false_eq_true, if_false]
  refine Ev.bind (heldInts_ev q0 (by omega)) ?_
  simp only [if_neg (show ¬ (q0.length : Int) + 1 < 0 by omega), if_true]
  exact Ev.now _
end Go.Proofs.Ytndbgkcjccejdaa.Pure

