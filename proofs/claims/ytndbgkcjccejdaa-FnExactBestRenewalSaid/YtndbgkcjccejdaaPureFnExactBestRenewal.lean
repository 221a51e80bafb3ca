/- The law FnExactBestRenewal, in numbers and lists alone: the program's BestRenewal and the reference's give one answer, and what they are handed stays as it was. No condition. -/
import Derived.Test.YtndbgkcjccejdaaQFnExactBestRenewal
import Derived.Test.YtndbgkcjccejdaaVPLib
set_option linter.unusedVariables false
set_option linter.unusedSimpArgs false
namespace Go.Proofs.Ytndbgkcjccejdaa.PFnExactBestRenewal
open Go.RowKit Go.Proofs.YtndbgkcjccejdaaW.PrintWords Go.Proofs.YtndbgkcjccejdaaW.PLib
theorem l00In_eq (a b c : Int) : spec_l00In.f a b c = some (decide (b ≤ a) && decide (a ≤ c)) := by
 unfold spec_l00In.f; by_cases h : a ≥ b
 · rw [if_pos h]; simp [show b ≤ a from h]
 · rw [if_neg h]; simp [show ¬ b ≤ a from h]
theorem within_eq (a b c : Int) : impl_within.f a b c = some (decide (b ≤ a) && decide (a ≤ c)) := by
 unfold impl_within.f; by_cases h : a ≥ b
 · rw [if_pos h]; simp [show b ≤ a from h]
 · rw [if_neg h]; simp [show ¬ b ≤ a from h]
def smallB (c : Int) : Bool := decide (97 ≤ c) && decide (c ≤ 122)
def digitB (c : Int) : Bool := decide (48 ≤ c) && decide (c ≤ 57)
def nameB (s : ByteArray) : Bool := (decide (1 ≤ s.size) && decide (s.size ≤ 10)) && (smallB (bt s 0) && allB (fun i => smallB (bt s i) || digitB (bt s i)) s.size)
theorem small_eq (c : Int) : spec_l01Small.f c = some (smallB c) := by
 unfold spec_l01Small.f smallB; by_cases h : c ≥ 97
 · rw [if_pos h]; simp [show 97 ≤ c from h]
 · rw [if_neg h]; simp [show ¬ 97 ≤ c from h]
theorem digit_eq (c : Int) : spec_l01Digit.f c = some (digitB c) := by
 unfold spec_l01Digit.f digitB; by_cases h : c ≥ 48
 · rw [if_pos h]; simp [show 48 ≤ c from h]
 · rw [if_neg h]; simp [show ¬ 48 ≤ c from h]
theorem specName_loop (s : ByteArray) (hs : s.size < 9223372036854775807) : Ev (fun k => spec_l01Name.l0 k s 0) (allB (fun i => smallB (bt s i) || digitB (bt s i)) s.size && true) := by
 refine all_ev (fun k i => spec_l01Name.l0 k s i) s.size true _ (fun i hi => ⟨0, fun k _ => ?_⟩) ⟨0, fun k _ => ?_⟩
 · simp only [spec_l01Name.l0]
   rw [if_pos (by omega), if_pos (by omega)]
   simp only [small_eq, digit_eq, Option.bind_some, w64s (show i < 9223372036854775807 by omega)]
   by_cases c1 : smallB (bt s i) = true
   · simp [c1]
   · simp only [Bool.not_eq_true] at c1
     by_cases c2 : digitB (bt s i) = true
     · simp [c1, c2]
     · simp only [Bool.not_eq_true] at c2; simp [c1, c2]
 · simp only [spec_l01Name.l0]
   rw [if_neg (by omega)]
theorem specName_ev (s : ByteArray) (hs : s.size < 9223372036854775807) : Ev (fun k => spec_l01Name.f k s) (nameB s) := by
 obtain ⟨K, hK⟩ := specName_loop s hs
 refine ⟨K + 1, fun k hk => ?_⟩
 obtain ⟨k, rfl⟩ : ∃ m, k = m + 1 := ⟨k - 1, by omega⟩
 unfold spec_l01Name.f nameB
 simp only [spec_l01Name.j0, hK k (by omega), small_eq, Option.bind_some]
 by_cases c1 : s.toList = ([] : List UInt8)
 · rw [if_pos c1]
   have : s.size = 0 := by
    have := congrArg List.length c1
    simpa [ByteArray.toList_eq] using this
   simp [this]
 · rw [if_neg c1]
   have h0 : 1 ≤ s.size := by
    rcases Nat.eq_zero_or_pos s.size with h | h
    · exact absurd (by
       have : s.data.toList = [] := List.eq_nil_of_length_eq_zero (by rw [Array.length_toList]; exact h)
       simpa [ByteArray.toList_eq] using this) c1
    · exact h
   by_cases c2 : (s.size : Int) > 10
   · rw [if_pos c2, decide_eq_false (show ¬ s.size ≤ 10 by omega)]; simp
   · rw [if_neg c2, if_pos (by omega), decide_eq_true (show s.size ≤ 10 by omega), decide_eq_true h0]
     by_cases c3 : smallB (bt s 0) = true
     · simp [c3]
     · simp only [Bool.not_eq_true] at c3; simp [c3]
theorem implName_loop (s : ByteArray) (hs : s.size < 9223372036854775807) : Ev (fun k => impl_onlyNameBytes.f k s) (allB (fun i => smallB (bt s i) || digitB (bt s i)) s.size && true) := by
 unfold impl_onlyNameBytes.f
 refine all_ev (fun k i => impl_onlyNameBytes.l0 k s (s.size : Int) i) s.size true _ (fun i hi => ⟨0, fun k _ => ?_⟩) ⟨0, fun k _ => ?_⟩
 · simp only [impl_onlyNameBytes.l0]
   rw [if_pos (by omega), if_pos (by omega), if_pos (by omega)]
   simp only [w64s (show i < 9223372036854775807 by omega), smallB, digitB]
   by_cases a : bt s i < 97 <;> by_cases b : bt s i < 48 <;> by_cases c : bt s i > 57 <;> by_cases d : bt s i > 122 <;> simp [a, b, c, d] <;> omega
 · simp only [impl_onlyNameBytes.l0]
   rw [if_neg (by omega)]
theorem implName_ev (s : ByteArray) (hs : s.size < 9223372036854775807) : Ev (fun k => impl_IsName.f k s) (nameB s) := by
 obtain ⟨K, hK⟩ := implName_loop s hs
 refine ⟨K, fun k hk => ?_⟩
 unfold impl_IsName.f nameB
 simp only [hK k hk, Option.bind_some]
 by_cases c1 : (s.size : Int) < 1
 · rw [if_pos c1, decide_eq_false (show ¬ 1 ≤ s.size by omega)]; simp
 · rw [if_neg c1, decide_eq_true (show 1 ≤ s.size by omega)]
   by_cases c2 : (s.size : Int) > 10
   · rw [if_pos c2, decide_eq_false (show ¬ s.size ≤ 10 by omega)]; simp
   · rw [if_neg c2, if_pos (by omega), decide_eq_true (show s.size ≤ 10 by omega)]
     unfold smallB
     by_cases a : bt s 0 < 97
     · rw [if_pos a, decide_eq_false (show ¬ 97 ≤ bt s 0 by omega)]; simp
     · rw [if_neg a, decide_eq_true (show 97 ≤ bt s 0 by omega)]
       by_cases b : bt s 0 > 122
       · rw [if_pos b, decide_eq_false (show ¬ bt s 0 ≤ 122 by omega)]; simp
       · rw [if_neg b, decide_eq_true (show bt s 0 ≤ 122 by omega)]; simp
theorem rd_at (xs : List Int) (i : Nat) (h : i < xs.length) : rd xs (i : Int) = xs[i] := by unfold rd; exact getD_cast xs i h _
theorem toInts_ev (xs : List Int) (hl : xs.length * 8 ≤ 140737488351232) : Ev (fun k => laws_toInt64S.f k xs) xs := by
 refine ⟨xs.length + 1, fun k hk => ?_⟩
 simp only [laws_toInt64S.f]
 rw [if_pos (by omega), if_pos (by omega)]
 have h := to_loop (fun k ys i => laws_toInt64S.l0 k xs ys i) xs id (fun k ys i h hy => ?_) (fun k ys hy => ?_) (List.replicate ((xs.length : Int) : Int).toNat 0) (by simp) k (by omega)
 · rw [List.map_id] at h; exact h
 · simp only [laws_toInt64S.l0]
   rw [if_pos (by omega), if_pos (by omega), if_pos (by omega), w64s (by omega), rd_at xs i h]
   rfl
 · simp only [laws_toInt64S.l0]
   rw [if_neg (by omega)]
theorem eqInts_ev (xs : List Int) (hl : xs.length < 9223372036854775807) : Ev (fun k => laws_eqInt64S.f k xs xs) true := by
 unfold laws_eqInt64S.f
 simp only [if_true]
 have := all_ev (fun k i => laws_eqInt64S.l0 k xs xs i) xs.length true (fun _ => true) (fun i hi => ⟨0, fun k _ => ?_⟩) ⟨0, fun k _ => ?_⟩
 · rw [allB_const] at this; exact this
 · simp only [laws_eqInt64S.l0]
   rw [if_pos (by omega), if_pos (by omega), if_pos (by omega)]
   simp only [if_true, w64s (show i < 9223372036854775807 by omega)]
 · simp only [laws_eqInt64S.l0]
   rw [if_neg (by omega)]
theorem rdl_Pipe (xs : List S142) (i : Nat) (h : i < xs.length) : rd_T142 xs (i : Int) = xs[i] := by unfold rd_T142; exact getD_cast xs i h _
def cvPipe (x : S142) : S75 := ⟨x.f0, x.f1, x.f2, x.f3, x.f4, x.f5⟩
theorem toPipe_ev (xs : List S142) (hl : xs.length * 56 ≤ 140737488351232) : Ev (fun k => laws_toPipeS.f k xs) (xs.map cvPipe) := by
 refine ⟨xs.length + 1, fun k hk => ?_⟩
 simp only [laws_toPipeS.f]
 rw [if_pos (by omega), if_pos (by omega)]
 refine to_loop (fun k ys i => laws_toPipeS.l0 k xs ys i) xs cvPipe (fun k ys i h hy => ?_) (fun k ys hy => ?_) _ (by simp) k (by omega)
 · simp only [laws_toPipeS.l0]
   rw [if_pos (by omega), if_pos (by omega)]
   simp only [laws_toPipe.f, Option.bind_some, rdl_Pipe xs i h]
   rw [if_pos (by omega), w64s (by omega)]
   rfl
 · simp only [laws_toPipeS.l0]
   rw [if_neg (by omega)]
theorem eqPipe_ev (xs : List S75) (hl : xs.length < 9223372036854775807) : Ev (fun k => laws_eqPipeS.f k xs xs) true := by
 unfold laws_eqPipeS.f
 simp only [if_true]
 have := all_ev (fun k i => laws_eqPipeS.l0 k xs xs i) xs.length true (fun _ => true) (fun i hi => ⟨0, fun k _ => ?_⟩) ⟨0, fun k _ => ?_⟩
 · rw [allB_const] at this; exact this
 · simp only [laws_eqPipeS.l0]
   rw [if_pos (by omega), if_pos (by omega), if_pos (by omega)]
   simp only [laws_eqPipe.f, if_true, bne_self_eq_false, Bool.false_eq_true, if_false, Option.bind_some, w64s (show i < 9223372036854775807 by omega)]
 · simp only [laws_eqPipeS.l0]
   rw [if_neg (by omega)]
theorem szPipe_ev (xs : List S142) (a : Int) (hl : xs.length < 9223372036854775807) : ∃ r, Ev (fun k => laws_szPipeS.f k xs a) r := by
 unfold laws_szPipeS.f
 by_cases c : wrap64 (a - (xs.length : Int)) < 0
 · exact ⟨-1, by simp only [if_pos c]; exact Ev.now _⟩
 · simp only [if_neg c]
   refine tot_ev (fun k s i => laws_szPipeS.l0 k xs s i) xs.length (fun i s hi => ?_) (fun s => ⟨s, 0, fun k _ => ?_⟩) xs.length 0 _ (by omega)
   · obtain ⟨t, ht⟩ : ∃ t, laws_szPipe.f ((rd_T142 xs i).f0) ((rd_T142 xs i).f1) ((rd_T142 xs i).f2) ((rd_T142 xs i).f3) ((rd_T142 xs i).f4) ((rd_T142 xs i).f5) s = some t := by
      unfold laws_szPipe.f
      repeat' split
      all_goals exact ⟨_, rfl⟩
     by_cases c2 : t < 0
     · refine .inl ⟨-1, 0, fun k _ => ?_⟩
       simp only [laws_szPipeS.l0]
       rw [if_pos (by omega), if_pos (by omega), ht]
       simp only [Option.bind_some]
       rw [if_pos c2]
     · refine .inr ⟨t, 0, fun k _ => ?_⟩
       simp only [laws_szPipeS.l0]
       rw [if_pos (by omega), if_pos (by omega), ht]
       simp only [Option.bind_some]
       rw [if_neg c2, w64s (by omega)]
   · simp only [laws_szPipeS.l0]
     rw [if_neg (by omega)]
theorem toNet_ev (ns : List Int) (ps : List S142) (h1 : ns.length * 8 ≤ 140737488351232) (h2 : ps.length * 56 ≤ 140737488351232) : Ev (fun k => laws_toNetwork.f k ns ps) (ns, ps.map cvPipe) := by
 unfold laws_toNetwork.f
 exact Ev.bind (toInts_ev ns h1) (Ev.bind (toPipe_ev ps h2) (Ev.now _))
theorem eqNet_ev (ns : List Int) (ps : List S75) (h1 : ns.length < 9223372036854775807) (h2 : ps.length < 9223372036854775807) : Ev (fun k => laws_eqNetwork.f k ns ps ns ps) true := by
 unfold laws_eqNetwork.f
 refine Ev.bind (eqInts_ev ns h1) ?_
 simp only [if_true]
 refine Ev.bind (eqPipe_ev ps h2) ?_
 simp only [if_true]
 exact Ev.now _
theorem szNet_ev (ns : List Int) (ps : List S142) (a : Int) (h2 : ps.length < 9223372036854775807) : ∃ r, Ev (fun k => laws_szNetwork.f k ns ps a) r := by
 unfold laws_szNetwork.f laws_szInt64S.f
 by_cases c : wrap64 (a - (ns.length : Int)) < 0
 · simp only [if_pos c, Option.bind_some]
   exact ⟨-1, by simp only [show ((-1 : Int) < 0) = True from eq_true (by decide), if_true]; exact Ev.now _⟩
 · simp only [if_neg c, Option.bind_some]
   obtain ⟨r, hr⟩ := szPipe_ev ps (wrap64 (a - (ns.length : Int))) h2
   by_cases c2 : r < 0
   · exact ⟨-1, Ev.bind hr (by simp only [if_pos c2]; exact Ev.now _)⟩
   · exact ⟨r, Ev.bind hr (by simp only [if_neg c2]; exact Ev.now _)⟩
theorem markText_in : ∀ (n : Nat) (s : ByteArray), s.size + n ≤ 4611686018427387904 → ∃ t, Ev (fun k => laws_markText.l0 k (n : Int) s) t := by
 intro n
 induction n using Nat.strongRecOn with
 | ind n ih =>
  intro s hs
  by_cases c : n = 0
  · subst c
    refine ⟨(⟨#[109]⟩ : ByteArray) ++ s, Ev.succ ?_⟩
    · simp only [laws_markText.l0, if_neg (show ¬ ((0 : Nat) : Int) > 0 by omega), if_pos (show 1 + s.size ≤ 9223372036854775807 by omega)]; exact Ev.now _
  · obtain ⟨t, ht⟩ := ih (n / 10) (by omega) (strOfNums [(wrap64 (48 + (Int.tmod (n : Int) 10))) % 256] ++ s) (by rw [ByteArray.size_append, strOfNums_size]; simp only [List.length_cons, List.length_nil]; omega)
    refine ⟨t, Ev.succ ?_⟩
    have e : wrap64 (Int.tdiv (n : Int) 10) = ((n / 10 : Nat) : Int) := by
     rw [show Int.tdiv (n : Int) 10 = ((n / 10 : Nat) : Int) by rw [Int.tdiv_eq_ediv_of_nonneg (by omega)]; omega]
     exact w64 (by omega) (by omega)
    have hz : (strOfNums [(wrap64 (48 + (Int.tmod (n : Int) 10))) % 256]).size + s.size ≤ 9223372036854775807 := by
     rw [strOfNums_size]; simp only [List.length_cons, List.length_nil]; omega
    simp only [laws_markText.l0, if_pos (show (n : Int) > 0 by omega), Option.bind_some, if_pos hz, e]
    exact ht
theorem markText_ev (a : Int) (h : a ≤ 4611686018427387904) : ∃ t, Ev (fun k => laws_markText.f k a) t := by
 unfold laws_markText.f
 by_cases c : a ≤ 0
 · simp only [if_pos c]; exact ⟨_, Ev.now _⟩
 · simp only [if_neg c]
   obtain ⟨n, rfl⟩ := Int.eq_ofNat_of_zero_le (show 0 ≤ a by omega)
   exact markText_in n _ (by simp [ByteArray.size]; omega)
theorem markIntsFrom_ev (xs : List Int) (a : Int) (h0 : 0 ≤ a) (h9 : a ≤ 1152921504606846976) (hl : xs.length < 1152921504606846976) : ∃ xm, Ev (fun k => laws_markInt64S.f k xs a) (a + (xs.length : Int), xm) := by
 unfold laws_markInt64S.f
 have key := inv_evE (fun k (s : List Int × Int) i => laws_markInt64S.l0 k s.1 s.2 i) xs.length (fun i s => s.1.length = xs.length ∧ s.2 = a + (i : Int)) (fun r => r.1 = a + (xs.length : Int)) (fun i s hi h => .inr ?_) (fun s h => ?_) xs.length 0 (xs, a) (by omega) ⟨rfl, by simp⟩
 · obtain ⟨⟨r, xm⟩, hp, h⟩ := key
   simp only at hp
   subst hp
   exact ⟨xm, h⟩
 · obtain ⟨ys, n⟩ := s
   obtain ⟨h1, h2⟩ := h
   simp only at h1 h2
   subst h2
   refine ⟨(?ys, a + ((i + 1 : Nat) : Int)), ⟨?len, rfl⟩, fun r hr => Ev.succ ?step⟩
   case step =>
    simp only [laws_markInt64S.l0, h1, if_pos (show (i : Int) < (xs.length : Int) by omega), if_pos (show 0 ≤ (i : Int) by omega), Option.bind_some, w64s (show i < 9223372036854775807 by omega), show wrap64 (a + (i : Int) + 1) = a + ((i + 1 : Nat) : Int) from by rw [w64] <;> omega]
    exact hr
   case len => simp [h1]
 · obtain ⟨ys, n⟩ := s
   obtain ⟨h1, h2⟩ := h
   simp only at h1 h2
   subst h2
   exact ⟨(_, ys), rfl, Ev.succ (by simp only [laws_markInt64S.l0, h1, if_neg (show ¬ (xs.length : Int) < (xs.length : Int) by omega)]; exact Ev.now _)⟩
theorem markPipeFrom_ev (xs : List S75) (a : Int) (h0 : 0 ≤ a) (h9 : a ≤ 1152921504606846976) (hl : xs.length < 115292150460684697) : ∃ xm, Ev (fun k => laws_markPipeS.f k xs a) (a + 6 * (xs.length : Int), xm) := by
 unfold laws_markPipeS.f
 have key := inv_evE (fun k (s : List S75 × Int) i => laws_markPipeS.l0 k s.1 s.2 i) xs.length (fun i s => s.1.length = xs.length ∧ s.2 = a + 6 * (i : Int)) (fun r => r.1 = a + 6 * (xs.length : Int)) (fun i s hi h => .inr ?_) (fun s h => ?_) xs.length 0 (xs, a) (by omega) ⟨rfl, by simp⟩
 · obtain ⟨⟨r, xm⟩, hp, h⟩ := key
   simp only at hp
   subst hp
   exact ⟨xm, h⟩
 · obtain ⟨ys, n⟩ := s
   obtain ⟨h1, h2⟩ := h
   simp only at h1 h2
   subst h2
   obtain ⟨t, ht⟩ := markText_ev (a + 6 * (i : Int)) (by omega)
   refine ⟨(?ys, a + 6 * ((i + 1 : Nat) : Int)), ⟨?len, rfl⟩, fun r hr => Ev.succ ?step⟩
   case step =>
    simp only [laws_markPipeS.l0, h1, if_pos (show (i : Int) < (xs.length : Int) by omega)]
    refine Ev.bind ht ?_
    simp only [if_pos (show 0 ≤ (i : Int) by omega), Option.bind_some, w64s (show i < 9223372036854775807 by omega),
     show wrap64 (a + 6 * (i : Int) + 1) = a + 6 * (i : Int) + 1 from by rw [w64] <;> omega, show wrap64 (a + 6 * (i : Int) + 1 + 1) = a + 6 * (i : Int) + 1 + 1 from by rw [w64] <;> omega,
     show wrap64 (a + 6 * (i : Int) + 1 + 1 + 1) = a + 6 * (i : Int) + 1 + 1 + 1 from by rw [w64] <;> omega, show wrap64 (a + 6 * (i : Int) + 1 + 1 + 1 + 1) = a + 6 * (i : Int) + 1 + 1 + 1 + 1 from by rw [w64] <;> omega,
     show wrap64 (a + 6 * (i : Int) + 1 + 1 + 1 + 1 + 1) = a + 6 * (i : Int) + 1 + 1 + 1 + 1 + 1 from by rw [w64] <;> omega, show wrap64 (a + 6 * (i : Int) + 1 + 1 + 1 + 1 + 1 + 1) = a + 6 * ((i + 1 : Nat) : Int) from by rw [w64] <;> omega]
    exact hr
   case len => simp [h1]
 · obtain ⟨ys, n⟩ := s
   obtain ⟨h1, h2⟩ := h
   simp only at h1 h2
   subst h2
   exact ⟨(_, ys), rfl, Ev.succ (by simp only [laws_markPipeS.l0, h1, if_neg (show ¬ (xs.length : Int) < (xs.length : Int) by omega)]; exact Ev.now _)⟩
theorem markNet_ev (ns : List Int) (ps : List S75) (h1 : ns.length < 17592186044416) (h2 : ps.length < 17592186044416) : ∃ a b, Ev (fun k => laws_markNetwork.f k ns ps 1) (1 + (ns.length : Int) + 6 * (ps.length : Int), a, b) := by
 obtain ⟨a, ha⟩ := markIntsFrom_ev ns 1 (by omega) (by omega) (by omega)
 obtain ⟨b, hb⟩ := markPipeFrom_ev ps (1 + (ns.length : Int)) (by omega) (by omega) (by omega)
 refine ⟨a, b, ?_⟩
 unfold laws_markNetwork.f
 exact Ev.bind ha (Ev.bind hb (Ev.now _))
def mk1 (xs : List Int) (i : Nat) : List Int := (List.range i).map (fun j : Nat => (j : Int) + 1) ++ xs.drop i
theorem mk1_len (xs : List Int) (i : Nat) (h : i ≤ xs.length) : (mk1 xs i).length = xs.length := by simp [mk1]; omega
theorem mk1_set (xs : List Int) (i : Nat) (h : i < xs.length) : (mk1 xs i).set i ((i : Int) + 1) = mk1 xs (i + 1) := by
 unfold mk1
 rw [List.set_append_right _ _ (by simp)]
 simp only [List.length_map, List.length_range, Nat.sub_self]
 rw [List.range_succ, List.map_append, List.append_assoc]
 congr 1
 rw [List.drop_eq_getElem_cons h]
 rfl
theorem markInts_ev (xs : List Int) (hl : xs.length < 4611686018427387904) : Ev (fun k => laws_markInt64S.f k xs 1) ((xs.length : Int) + 1, mk1 xs xs.length) := by
 unfold laws_markInt64S.f
 have h := fold_ev (fun k (s : List Int × Int) i => laws_markInt64S.l0 k s.1 s.2 i) xs.length (fun i => (mk1 xs i, (i : Int) + 1)) ((xs.length : Int) + 1, mk1 xs xs.length) (fun i hi => ⟨0, fun k _ => ?_⟩) ⟨0, fun k _ => ?_⟩ 0 (by omega)
 · simpa [mk1] using h
 · simp only [laws_markInt64S.l0, mk1_len xs i (by omega)]
   rw [if_pos (by omega), if_pos (by omega), w64s (by omega)]
   rw [show ((i : Int)).toNat = i from by omega, mk1_set xs i hi, show wrap64 ((i : Int) + 1 + 1) = ((i + 1 : Nat) : Int) + 1 from by rw [w64] <;> omega]
 · simp only [laws_markInt64S.l0, mk1_len xs xs.length (Nat.le_refl _)]
   rw [if_neg (by omega)]
theorem heldInts_ev (xs : List Int) (hl : xs.length < 4611686018427387904) : Ev (fun k => laws_heldInt64S.f k (mk1 xs xs.length) 1) ((xs.length : Int) + 1) := by
 unfold laws_heldInt64S.f
 have e := mk1_len xs xs.length (Nat.le_refl _)
 have h := fold_ev (fun k (s : Int) i => laws_heldInt64S.l0 k (mk1 xs xs.length) s i) xs.length (fun i => (i : Int) + 1) ((xs.length : Int) + 1) (fun i hi => ⟨0, fun k _ => ?_⟩) ⟨0, fun k _ => ?_⟩ 0 (by omega)
 · simpa using h
 · simp only [laws_heldInt64S.l0, e]
   have hr : rd (mk1 xs xs.length) (i : Int) = (i : Int) + 1 := by
    rw [rd_at _ i (by rw [e]; exact hi)]
    simp [mk1, List.getElem_append, hi]
   rw [if_pos (by omega), if_pos (by omega), hr, if_pos rfl, w64s (by omega), show wrap64 ((i : Int) + 1 + 1) = ((i + 1 : Nat) : Int) + 1 from by rw [w64] <;> omega]
 · simp only [laws_heldInt64S.l0, e]
   rw [if_neg (by omega)]
theorem near (a b : Int) (ha : 0 ≤ a) (hb : 0 < b) : (2 * a + b) / (2 * b) = if a % b ≥ b - a % b then a / b + 1 else a / b := by
 have h1 : b * (a / b) + a % b = a := Int.mul_ediv_add_emod a b
 have h2 : 0 ≤ a % b := Int.emod_nonneg a (by omega)
 have h3 : a % b < b := Int.emod_lt_of_pos a hb
 generalize hq : a / b = q at *
 generalize hr : a % b = r at *
 have e : 2 * a + b = (2 * r + b) + (2 * b) * q := by
  rw [← h1, Int.mul_add, ← Int.mul_assoc]; omega
 rw [e, Int.add_mul_ediv_left _ _ (by omega)]
 by_cases c : r ≥ b - r
 · rw [if_pos c]
   have : (2 * r + b) / (2 * b) = 1 := by
    rw [Int.ediv_eq_iff_of_pos (by omega)]
    constructor <;> omega
   omega
 · rw [if_neg c]
   have : (2 * r + b) / (2 * b) = 0 := Int.ediv_eq_zero_of_lt (by omega) (by omega)
   omega
def rdiv (a b : Int) : Int := if b < 0 then (if a > 0 then -((2 * a + -b) / (2 * -b)) else (2 * -a + -b) / (2 * -b)) else if a < 0 then -((2 * -a + b) / (2 * b)) else (2 * a + b) / (2 * b)
theorem quo_le (x y B : Int) (hx : 0 ≤ x) (hy : 0 < y) (h : x ≤ B) : 0 ≤ x / y ∧ x / y ≤ B := ⟨Int.ediv_nonneg hx (by omega), Int.le_trans (Int.ediv_le_self _ hx) h⟩
theorem l01Div_eq (a b : Int) (hb : b ≠ 0) (h1 : -1152921504606846976 ≤ a) (h2 : a ≤ 1152921504606846976) (h3 : -1152921504606846976 ≤ b) (h4 : b ≤ 1152921504606846976) : spec_l01Div.f a b = some (rdiv a b) := by
 unfold spec_l01Div.f rdiv
 by_cases c1 : b < 0
 · rw [if_pos c1, if_pos c1, w64 (x := -a) (by omega) (by omega), w64 (x := -b) (by omega) (by omega), w64 (x := 2 * -b) (by omega) (by omega), w64 (x := 2 * -a) (by omega) (by omega)]
   by_cases c2 : a > 0
   · rw [if_pos c2, if_pos (by omega), if_neg (by omega)]
     have q := quo_le (2 * a + -b) (2 * -b) 4611686018427387904 (by omega) (by omega) (by omega)
     rw [w64 (x := -b - 2 * -a) (by omega) (by omega), show -b - 2 * -a = 2 * a + -b by omega, Int.tdiv_eq_ediv_of_nonneg (by omega), w64 (x := (2 * a + -b) / (2 * -b)) (by omega) (by omega), w64 (by omega) (by omega)]
   · rw [if_neg c2, if_neg (by omega), if_neg (by omega)]
     have q := quo_le (2 * -a + -b) (2 * -b) 4611686018427387904 (by omega) (by omega) (by omega)
     rw [w64 (x := 2 * -a + -b) (by omega) (by omega), Int.tdiv_eq_ediv_of_nonneg (by omega), w64 (by omega) (by omega)]
 · rw [if_neg c1, if_neg c1, w64 (x := 2 * b) (by omega) (by omega), w64 (x := 2 * a) (by omega) (by omega)]
   by_cases c2 : a < 0
   · rw [if_pos c2, if_pos c2, if_neg (by omega)]
     have q := quo_le (2 * -a + b) (2 * b) 4611686018427387904 (by omega) (by omega) (by omega)
     rw [w64 (x := b - 2 * a) (by omega) (by omega), show b - 2 * a = 2 * -a + b by omega, Int.tdiv_eq_ediv_of_nonneg (by omega), w64 (x := (2 * -a + b) / (2 * b)) (by omega) (by omega), w64 (by omega) (by omega)]
   · rw [if_neg c2, if_neg c2, if_neg (by omega)]
     have q := quo_le (2 * a + b) (2 * b) 4611686018427387904 (by omega) (by omega) (by omega)
     rw [w64 (x := 2 * a + b) (by omega) (by omega), Int.tdiv_eq_ediv_of_nonneg (by omega), w64 (by omega) (by omega)]
theorem abs_eq (n : Int) (h1 : -1152921504606846976 ≤ n) (h2 : n ≤ 1152921504606846976) : impl_abs.f n = some (if n < 0 then -n else n) := by
 unfold impl_abs.f mx
 rw [w64 (by omega) (by omega)]
 congr 1
 split <;> split <;> omega
theorem divRound_eq (a b : Int) (hb : b ≠ 0) (h1 : -1152921504606846976 ≤ a) (h2 : a ≤ 1152921504606846976) (h3 : -1152921504606846976 ≤ b) (h4 : b ≤ 1152921504606846976) : impl_divRound.f a b = some (rdiv a b) := by
 unfold impl_divRound.f
 rw [if_neg hb]
 -- the parts of a and b
 obtain ⟨m, hm, hma⟩ : ∃ m : Int, 0 ≤ m ∧ (a = m ∨ a = -m ∧ 0 < m) := by
  rcases Int.lt_or_le a 0 with h | h
  · exact ⟨-a, by omega, .inr ⟨by omega, by omega⟩⟩
  · exact ⟨a, h, .inl rfl⟩
 obtain ⟨n, hn, hnb⟩ : ∃ n : Int, 0 < n ∧ (b = n ∨ b = -n) := by
  rcases Int.lt_or_le b 0 with h | h
  · exact ⟨-b, by omega, .inr (by omega)⟩
  · exact ⟨b, by omega, .inl rfl⟩
 have N := near m n hm hn
 have q1 : 0 ≤ m / n := Int.ediv_nonneg hm (by omega)
 have q2 : m / n ≤ m := Int.ediv_le_self _ hm
 have r1 : 0 ≤ m % n := Int.emod_nonneg m (by omega)
 have r2 : m % n < n := Int.emod_lt_of_pos m hn
 have td : Int.tdiv m n = m / n := Int.tdiv_eq_ediv_of_nonneg hm
 have tm : Int.tmod m n = m % n := Int.tmod_eq_emod_of_nonneg hm
 rcases hma with rfl | ⟨rfl, hm0⟩ <;> rcases hnb with rfl | rfl
 · rw [td, tm, abs_eq _ (by omega) (by omega), abs_eq _ (by omega) (by omega)]
   simp only [Option.bind_some]
   rw [if_neg (show ¬ a % b < 0 by omega), if_neg (show ¬ b < 0 by omega), w64 (x := b - a % b) (by omega) (by omega), w64 (x := a / b) (by omega) (by omega)]
   unfold rdiv
   rw [if_neg (show ¬ b < 0 by omega), if_neg (show ¬ a < 0 by omega), N]
   by_cases c : a % b ≥ b - a % b
   · rw [if_pos c, if_pos c, if_pos (by rw [decide_eq_false (show ¬ a < 0 by omega), decide_eq_false (show ¬ b < 0 by omega)]; decide), w64 (by omega) (by omega)]
   · rw [if_neg c, if_neg c]
 · rw [Int.tdiv_neg, Int.tmod_neg, td, tm, abs_eq _ (by omega) (by omega), abs_eq _ (by omega) (by omega)]
   simp only [Option.bind_some]
   rw [if_neg (show ¬ a % n < 0 by omega), if_pos (show -n < 0 by omega), Int.neg_neg, w64 (x := n - a % n) (by omega) (by omega), w64 (x := -(a / n)) (by omega) (by omega)]
   unfold rdiv
   rw [if_pos (show -n < 0 by omega), Int.neg_neg]
   by_cases c : a % n ≥ n - a % n
   · rw [if_pos c] at N
     rw [if_pos c]
     by_cases z : a > 0
     · rw [if_pos z, if_neg (by rw [decide_eq_false (show ¬ a < 0 by omega), decide_eq_true (show -n < 0 by omega)]; decide), N, w64 (by omega) (by omega)]
       congr 1; omega
     · have : a = 0 := by omega
       subst this
       simp at c
       omega
   · rw [if_neg c] at N
     rw [if_neg c]
     by_cases z : a > 0
     · rw [if_pos z, N]
     · have : a = 0 := by omega
       subst this
       rw [if_neg z]
       simp only [Int.neg_zero, Int.mul_zero, Int.zero_add, Int.zero_ediv] at N ⊢
       congr 1; omega
 · rw [Int.neg_tdiv, Int.neg_tmod, td, tm, abs_eq _ (by omega) (by omega), abs_eq _ (by omega) (by omega)]
   simp only [Option.bind_some]
   have ab : (if -(m % b) < 0 then - -(m % b) else -(m % b)) = m % b := by split <;> omega
   rw [ab, if_neg (show ¬ b < 0 by omega), w64 (x := b - m % b) (by omega) (by omega), w64 (x := -(m / b)) (by omega) (by omega)]
   unfold rdiv
   rw [if_neg (show ¬ b < 0 by omega), if_pos (show -m < 0 by omega), Int.neg_neg, N]
   by_cases c : m % b ≥ b - m % b
   · rw [if_pos c, if_pos c, if_neg (by rw [decide_eq_false (show ¬ b < 0 by omega), decide_eq_true (show -m < 0 by omega)]; decide), w64 (by omega) (by omega)]
     congr 1; omega
   · rw [if_neg c, if_neg c]
 · rw [Int.neg_tdiv, Int.neg_tmod, Int.tdiv_neg, Int.tmod_neg, td, tm, abs_eq _ (by omega) (by omega), abs_eq _ (by omega) (by omega)]
   simp only [Option.bind_some]
   have ab : (if -(m % n) < 0 then - -(m % n) else -(m % n)) = m % n := by split <;> omega
   rw [ab, if_pos (show -n < 0 by omega), Int.neg_neg, Int.neg_neg, w64 (x := n - m % n) (by omega) (by omega), w64 (x := m / n) (by omega) (by omega)]
   unfold rdiv
   rw [if_pos (show -n < 0 by omega), if_neg (show ¬ -m > 0 by omega), Int.neg_neg, Int.neg_neg, N]
   by_cases c : m % n ≥ n - m % n
   · rw [if_pos c, if_pos c, if_pos (by rw [decide_eq_true (show -n < 0 by omega), decide_eq_true (show -m < 0 by omega)]; decide), w64 (by omega) (by omega)]
   · rw [if_neg c, if_neg c]
end Go.Proofs.Ytndbgkcjccejdaa.PFnExactBestRenewal
namespace Go.Proofs.Ytndbgkcjccejdaa.Pure
open Go.RowKit Go.Proofs.YtndbgkcjccejdaaW.PrintWords Go.Proofs.YtndbgkcjccejdaaW.PLib Go.Proofs.Ytndbgkcjccejdaa.PFnExactBestRenewal
def cmpT : List Int → List Int → Int
 | [], [] => 0
 | [], _ :: _ => -1
 | _ :: _, [] => 1
 | a :: l, b :: m => if a < b then -1 else if b < a then 1 else cmpT l m
theorem cmpE (a b : Int) : cmp_Compare_int64.f a b = some (if a < b then -1 else if b < a then 1 else 0) := by
 unfold cmp_Compare_int64.f cmp_isNaN_int64.f
 simp only [Option.bind_some, bne_self_eq_false, Bool.false_eq_true, if_false]
 by_cases c : a < b
 · simp only [if_pos c]
 · simp only [if_neg c]
   by_cases c2 : b < a
   · simp only [if_pos (show a > b from c2), if_pos c2]
   · simp only [if_neg (show ¬ a > b from c2), if_neg c2]
theorem rd_app (pre l : List Int) (a : Int) : rd (pre ++ a :: l) (pre.length : Int) = a := by
 rw [rd_at _ _ (by simp)]
 simp
theorem cmp_ev (A B : List Int) (hA : A.length < 4611686018427387904) (hB : B.length < 4611686018427387904) : Ev (fun k => slices_Compare_int64_int64.f k A B) (cmpT A B) := by
 unfold slices_Compare_int64_int64.f
 have key : ∀ (l m pre : List Int) (preb : List Int), pre.length = preb.length → pre ++ l = A → preb ++ m = B → Ev (fun k => slices_Compare_int64_int64.l0 k A B A (A.length : Int) (pre.length : Int)) (cmpT l m) := by
  intro l
  induction l with
  | nil =>
   intro m pre preb hl h1 h2
   have e1 : A.length = pre.length := by rw [← h1]; simp
   refine Ev.succ ?_
   simp only [slices_Compare_int64_int64.l0, if_neg (show ¬ (pre.length : Int) < (A.length : Int) by omega)]
   cases m with
   | nil =>
    have e2 : B.length = preb.length := by rw [← h2]; simp
    simp only [if_neg (show ¬ (A.length : Int) < (B.length : Int) by omega), cmpT]; exact Ev.now _
   | cons b m =>
    have e2 : B.length = preb.length + (m.length + 1) := by rw [← h2]; simp
    simp only [if_pos (show (A.length : Int) < (B.length : Int) by omega), cmpT]; exact Ev.now _
  | cons a l ih =>
   intro m pre preb hl h1 h2
   have e1 : A.length = pre.length + (l.length + 1) := by rw [← h1]; simp
   have ea : rd A (pre.length : Int) = a := by rw [← h1]; exact rd_app pre l a
   refine Ev.succ ?_
   simp only [slices_Compare_int64_int64.l0, if_pos (show (pre.length : Int) < (A.length : Int) by omega), if_pos (show 0 ≤ (pre.length : Int) by omega)]
   cases m with
   | nil =>
    have e2 : B.length = preb.length := by rw [← h2]; simp
    simp only [if_pos (show (pre.length : Int) ≥ (B.length : Int) by omega), cmpT]; exact Ev.now _
   | cons b m =>
    have e2 : B.length = preb.length + (m.length + 1) := by rw [← h2]; simp
    have eb : rd B (pre.length : Int) = b := by rw [← h2, hl]; exact rd_app preb m b
    simp only [if_neg (show ¬ (pre.length : Int) ≥ (B.length : Int) by omega), if_pos (show (pre.length : Int) < (B.length : Int) by omega), ea, eb, cmpE, Option.bind_some, w64s (show pre.length < 9223372036854775807 by omega), cmpT]
    by_cases c : a < b
    · simp only [if_pos c, if_neg (show ¬ (-1 : Int) = 0 by decide)]; exact Ev.now _
    · by_cases c2 : b < a
      · simp only [if_neg c, if_pos c2, if_neg (show ¬ (1 : Int) = 0 by decide)]; exact Ev.now _
      · simp only [if_neg c, if_neg c2, if_true]
        have := ih m (pre ++ [a]) (preb ++ [b]) (by simp [hl]) (by rw [← h1]; simp) (by rw [← h2]; simp)
        rw [List.length_append, List.length_singleton] at this
        exact this
 exact key A B [] [] rfl rfl rfl
theorem before_ev (A B : List Int) (hA : A.length < 4611686018427387904) (hB : B.length < 4611686018427387904) : Ev (fun k => spec_l08Before.f k A B) (decide (cmpT A B < 0)) := by
 unfold spec_l08Before.f
 have key : ∀ (l m pre : List Int) (preb : List Int), pre.length = preb.length → pre ++ l = A → preb ++ m = B → Ev (fun k => spec_l08Before.l0 k A B (pre.length : Int)) (decide (cmpT l m < 0)) := by
  intro l
  induction l with
  | nil =>
   intro m pre preb hl h1 h2
   have e1 : A.length = pre.length := by rw [← h1]; simp
   refine Ev.succ ?_
   simp only [spec_l08Before.l0, if_neg (show ¬ (pre.length : Int) < (A.length : Int) by omega)]
   refine Ev.succ ?_
   simp only [spec_l08Before.j1, Bool.false_eq_true, if_false]
   cases m with
   | nil =>
    have e2 : B.length = preb.length := by rw [← h2]; simp
    rw [decide_eq_false (show ¬ (A.length : Int) < (B.length : Int) by omega)]
    exact Ev.now _
   | cons b m =>
    have e2 : B.length = preb.length + (m.length + 1) := by rw [← h2]; simp
    rw [decide_eq_true (show (A.length : Int) < (B.length : Int) by omega)]
    exact Ev.now _
  | cons a l ih =>
   intro m pre preb hl h1 h2
   have e1 : A.length = pre.length + (l.length + 1) := by rw [← h1]; simp
   have ea : rd A (pre.length : Int) = a := by rw [← h1]; exact rd_app pre l a
   refine Ev.succ ?_
   simp only [spec_l08Before.l0, if_pos (show (pre.length : Int) < (A.length : Int) by omega)]
   refine Ev.succ ?_
   cases m with
   | nil =>
    have e2 : B.length = preb.length := by rw [← h2]; simp
    rw [decide_eq_false (show ¬ (pre.length : Int) < (B.length : Int) by omega)]
    simp only [spec_l08Before.j1, Bool.false_eq_true, if_false]
    rw [decide_eq_false (show ¬ (A.length : Int) < (B.length : Int) by omega)]
    exact Ev.now _
   | cons b m =>
    have e2 : B.length = preb.length + (m.length + 1) := by rw [← h2]; simp
    have eb : rd B (pre.length : Int) = b := by rw [← h2, hl]; exact rd_app preb m b
    rw [decide_eq_true (show (pre.length : Int) < (B.length : Int) by omega)]
    simp only [spec_l08Before.j1, if_true, if_pos (show 0 ≤ (pre.length : Int) by omega), if_pos (show (pre.length : Int) < (A.length : Int) by omega), if_pos (show (pre.length : Int) < (B.length : Int) by omega), ea, eb, w64s (show pre.length < 9223372036854775807 by omega), cmpT]
    by_cases c : a < b
    · simp only [if_neg (show ¬ a = b by omega), if_pos c, decide_eq_true c]; exact Ev.now _
    · by_cases c2 : b < a
      · simp only [if_neg (show ¬ a = b by omega), if_neg c, if_pos c2, decide_eq_false c]; exact Ev.now _
      · simp only [if_pos (show a = b by omega), if_neg c, if_neg c2]
        have := ih m (pre ++ [a]) (preb ++ [b]) (by simp [hl]) (by rw [← h1]; simp) (by rw [← h2]; simp)
        rw [List.length_append, List.length_singleton] at this
        exact this
 exact key A B [] [] rfl rfl rfl
def inB (lo hi : Int) (xs : List Int) (i : Nat) : Bool := decide (lo ≤ rd xs (i : Int)) && decide (rd xs (i : Int) ≤ hi)
theorem all_rd (p : Int → Bool) (xs : List Int) : xs.all p = allB (fun i => p (rd xs (i : Int))) xs.length := by
 rw [Bool.eq_iff_iff, allB_true, List.all_eq_true]
 constructor
 · intro h i hi
   rw [rd_at xs i hi]
   exact h _ (List.getElem_mem hi)
 · intro h x hx
   obtain ⟨i, hi, rfl⟩ := List.getElem_of_mem hx
   have := h i hi
   rw [rd_at xs i hi] at this
   exact this
theorem allWithin_eq (xs : List Int) (lo hi : Int) : impl_allWithin.f xs lo hi = some (allB (inB lo hi xs) xs.length) := by
 unfold impl_allWithin.f
 rw [all_rd]
 rfl
abbrev PI_ := S75
theorem rdp1 (x : PI_) : rd_T75 [x] 0 = x := id rfl
theorem rdn1 (x : S59) : rd_T59 [x] 0 = x := id rfl
def numsP (x : PI_) : Bool := (decide (1 ≤ x.f3) && decide (x.f3 ≤ 10000)) && ((decide (20 ≤ x.f4) && decide (x.f4 ≤ 1000)) && (decide (0 ≤ x.f5) && decide (x.f5 ≤ 5000)))
def onePipe (x : PI_) : Bool := nameB x.f0 && ((decide (0 ≤ x.f1) && decide (x.f1 ≤ 15)) && ((decide (0 ≤ x.f2) && decide (x.f2 ≤ 15)) && (!(x.f1 == x.f2) && numsP x)))
def okPipe (ns : List Int) (ps : List PI_) (i : Nat) : Bool := onePipe (rd_T75 ps (i : Int)) && ((decide ((rd_T75 ps (i : Int)).f1 < (ns.length : Int)) && decide ((rd_T75 ps (i : Int)).f2 < (ns.length : Int))) && (decide (i = 0) || Op.bytesLess ((rd_T75 ps ((i - 1 : Nat) : Int)).f0.toList) ((rd_T75 ps (i : Int)).f0.toList)))
def validNet (ns : List Int) (ps : List PI_) : Bool := allB (inB (-100000) 100000 ns) ns.length && ((decide (1 ≤ ns.length) && decide (ns.length ≤ 16)) && (decide (ps.length ≤ 20) && allB (okPipe ns ps) ps.length))
def smallNet (ns : List Int) (ps : List PI_) : Prop := ns.length < 9223372036854775807 ∧ ps.length < 9223372036854775807 ∧ ∀ i : Nat, (rd_T75 ps (i : Int)).f0.size < 9223372036854775807
theorem j03_ev (x : PI_) (b : Bool) : Ev (fun k => spec_l03Ok.j0 k [x] b) (!b && numsP x) := by
 refine Ev.succ ?_
 cases b
 · simp only [spec_l03Ok.j0, Bool.false_eq_true, if_false, List.length_singleton, rdp1, if_pos (show (0 : Int) < ((1 : Nat) : Int) by decide), l00In_eq, Option.bind_some, ifs, Bool.not_false, Bool.true_and, numsP]
   exact Ev.now _
 · simp only [spec_l03Ok.j0, if_true, Bool.not_true, Bool.false_and]
   exact Ev.now _
theorem spec03_ev (x : PI_) (hn : x.f0.size < 9223372036854775807) : Ev (fun k => spec_l03Ok.f k [x]) (onePipe x) := by
 unfold spec_l03Ok.f onePipe
 simp only [List.length_singleton, rdp1, if_pos (show (0 : Int) < ((1 : Nat) : Int) by decide)]
 refine Ev.bind (specName_ev x.f0 hn) ?_
 cases nameB x.f0
 · simp only [Bool.false_eq_true, if_false, Bool.false_and]; exact j03_ev x true
 simp only [if_true, Bool.true_and, l00In_eq, Option.bind_some]
 cases (decide (0 ≤ x.f1) && decide (x.f1 ≤ 15))
 · simp only [Bool.false_eq_true, if_false, Bool.false_and]; exact j03_ev x true
 simp only [if_true, Bool.true_and]
 cases (decide (0 ≤ x.f2) && decide (x.f2 ≤ 15))
 · simp only [Bool.false_eq_true, if_false, Bool.false_and]; exact j03_ev x true
 simp only [if_true, Bool.true_and]
 exact j03_ev x (x.f1 == x.f2)
theorem impl03_ev (x : PI_) (hn : x.f0.size < 9223372036854775807) : Ev (fun k => impl_ValidPipe.f k x.f0 x.f1 x.f2 x.f3 x.f4 x.f5) (onePipe x) := by
 unfold impl_ValidPipe.f onePipe impl_nodeOk.f
 refine Ev.bind (implName_ev x.f0 hn) ?_
 cases nameB x.f0
 · simp only [Bool.false_eq_true, if_false, Bool.false_and]; exact Ev.now _
 simp only [if_true, Bool.true_and, within_eq, Option.bind_some]
 cases (decide (0 ≤ x.f1) && decide (x.f1 ≤ 15))
 · simp only [Bool.false_eq_true, if_false, Bool.false_and]; exact Ev.now _
 simp only [if_true, Bool.true_and]
 cases (decide (0 ≤ x.f2) && decide (x.f2 ≤ 15))
 · simp only [Bool.false_eq_true, if_false, Bool.false_and]; exact Ev.now _
 simp only [if_true, Bool.true_and]
 by_cases c : x.f1 = x.f2
 · have e : (x.f1 == x.f2) = true := by simpa using c
   simp only [if_pos c, e, Bool.not_true, Bool.false_and]; exact Ev.now _
 · have e : (x.f1 == x.f2) = false := by simpa using c
   simp only [if_neg c, e, Bool.not_false, Bool.true_and, ifs, numsP]; exact Ev.now _
theorem onePipe_ge {x : PI_} (h : onePipe x = true) : 0 ≤ x.f1 ∧ 0 ≤ x.f2 := by
 unfold onePipe at h
 simp only [Bool.and_eq_true, decide_eq_true_eq] at h
 exact ⟨h.2.1.1, h.2.2.1.1⟩
theorem specFits_ev (ns : List Int) (ps : List PI_) (x : PI_) (hn : x.f0.size < 9223372036854775807) : Ev (fun k => spec_l04Fits.f k [⟨ns, ps⟩] [x]) (onePipe x && (decide (x.f1 < (ns.length : Int)) && decide (x.f2 < (ns.length : Int)))) := by
 unfold spec_l04Fits.f
 refine Ev.bind (spec03_ev x hn) ?_
 cases onePipe x
 · simp only [Bool.false_eq_true, if_false, Bool.false_and]; exact Ev.now _
 simp only [if_true, List.length_singleton, rdp1, rdn1, if_pos (show (0 : Int) < ((1 : Nat) : Int) by decide), Bool.true_and]
 by_cases c : x.f1 < (ns.length : Int)
 · simp only [if_pos c, decide_eq_true c, Bool.true_and]; exact Ev.now _
 · simp only [if_neg c, decide_eq_false c, Bool.false_and]; exact Ev.now _
theorem implEnds_eq (ns : List Int) (ps : List PI_) (x : PI_) (h1 : 1 ≤ ns.length) (h2 : ns.length ≤ 16) (hx : onePipe x = true) : impl_Network_hasEnds.f ns ps x.f0 x.f1 x.f2 x.f3 x.f4 x.f5 = some (decide (x.f1 < (ns.length : Int)) && decide (x.f2 < (ns.length : Int))) := by
 obtain ⟨g1, g2⟩ := onePipe_ge hx
 unfold impl_Network_hasEnds.f impl_Network_hasNode.f
 rw [show wrap64 ((ns.length : Int) - 1) = (ns.length : Int) - 1 by rw [w64] <;> omega]
 simp only [within_eq, Option.bind_some, ifs]
 rw [decide_eq_true g1, decide_eq_true g2, Bool.true_and, Bool.true_and]
 rw [decide_eq_decide.2 (show x.f1 ≤ (ns.length : Int) - 1 ↔ x.f1 < (ns.length : Int) by omega), decide_eq_decide.2 (show x.f2 ≤ (ns.length : Int) - 1 ↔ x.f2 < (ns.length : Int) by omega)]
theorem specPipes_ev (ns : List Int) (ps : List PI_) (hs : smallNet ns ps) : Ev (fun k => spec_l04Ok.l1 k [⟨ns, ps⟩] 0) (allB (okPipe ns ps) ps.length) := by
 obtain ⟨_, hl, hn⟩ := hs
 have key := all_evE (fun k i => spec_l04Ok.l1 k [⟨ns, ps⟩] i) ps.length true (okPipe ns ps) (fun i hi r hr => Ev.succ ?_) (Ev.succ ?_)
 · rw [Bool.and_true] at key; exact key
 · simp only [spec_l04Ok.l1, List.length_singleton, rdn1, if_pos (show (0 : Int) < ((1 : Nat) : Int) by decide), if_pos (show (i : Int) < (ps.length : Int) by omega), if_pos (show 0 ≤ (i : Int) by omega)]
   refine Ev.bind (specFits_ev ns ps _ (hn i)) ?_
   unfold okPipe
   cases onePipe (rd_T75 ps (i : Int))
   · simp only [Bool.false_and, Bool.false_eq_true, if_false]; exact Ev.now _
   simp only [Bool.true_and]
   cases (decide ((rd_T75 ps (i : Int)).f1 < (ns.length : Int)) && decide ((rd_T75 ps (i : Int)).f2 < (ns.length : Int)))
   · simp only [Bool.false_and, Bool.false_eq_true, if_false]; exact Ev.now _
   simp only [Bool.true_and, if_true, w64s (show i < 9223372036854775807 by omega)]
   by_cases z : i = 0
   · simp only [if_neg (show ¬ (i : Int) > 0 by omega), decide_eq_true z, Bool.true_or, if_true]; exact hr
   · have e1 : wrap64 ((i : Int) - 1) = ((i - 1 : Nat) : Int) := by rw [w64] <;> omega
     simp only [if_pos (show (i : Int) > 0 by omega), e1, if_pos (show 0 ≤ ((i - 1 : Nat) : Int) by omega), if_pos (show ((i - 1 : Nat) : Int) < (ps.length : Int) by omega), decide_eq_false z, Bool.false_or]
     cases (Op.bytesLess ((rd_T75 ps ((i - 1 : Nat) : Int)).f0.toList) ((rd_T75 ps (i : Int)).f0.toList))
     · simp only [Bool.false_eq_true, if_false]; exact Ev.now _
     · simp only [if_true]; exact hr
 · simp only [spec_l04Ok.l1, List.length_singleton, rdn1, if_pos (show (0 : Int) < ((1 : Nat) : Int) by decide), if_neg (show ¬ (ps.length : Int) < (ps.length : Int) by omega)]; exact Ev.now _
theorem specNet_ev (ns : List Int) (ps : List PI_) (hs : smallNet ns ps) : Ev (fun k => spec_l04Ok.f k [⟨ns, ps⟩]) (validNet ns ps) := by
 unfold spec_l04Ok.f validNet
 have hp := specPipes_ev ns ps hs
 obtain ⟨hl, _, _⟩ := hs
 have bad : Ev (fun k => spec_l04Ok.j1 k [⟨ns, ps⟩] true) false := Ev.succ (by simp only [spec_l04Ok.j1, if_true]; exact Ev.now _)
 refine all_evE (fun k i => spec_l04Ok.l0 k [⟨ns, ps⟩] i) ns.length _ (inB (-100000) 100000 ns) (fun i hi r hr => Ev.succ ?_) (Ev.succ ?_)
 · simp only [spec_l04Ok.l0, List.length_singleton, rdn1, if_pos (show (0 : Int) < ((1 : Nat) : Int) by decide), if_pos (show (i : Int) < (ns.length : Int) by omega), if_pos (show 0 ≤ (i : Int) by omega), l00In_eq, Option.bind_some, w64s (show i < 9223372036854775807 by omega)]
   by_cases c : inB (-100000) 100000 ns i = true
   · rw [if_pos c]
     simp only [if_pos (show (decide (-100000 ≤ rd ns (i : Int)) && decide (rd ns (i : Int) ≤ 100000)) = true from c)]; exact hr
   · rw [if_neg c]
     simp only [if_neg (show ¬ (decide (-100000 ≤ rd ns (i : Int)) && decide (rd ns (i : Int) ≤ 100000)) = true from c)]; exact Ev.now _
 · simp only [spec_l04Ok.l0, List.length_singleton, rdn1, if_pos (show (0 : Int) < ((1 : Nat) : Int) by decide), if_neg (show ¬ (ns.length : Int) < (ns.length : Int) by omega)]
   by_cases c1 : (ns.length : Int) < 1
   · simp only [if_pos c1, decide_eq_false (show ¬ 1 ≤ ns.length by omega), Bool.false_and]; exact bad
   simp only [if_neg c1, decide_eq_true (show 1 ≤ ns.length by omega), Bool.true_and]
   by_cases c2 : (ns.length : Int) > 16
   · simp only [if_pos c2, decide_eq_false (show ¬ ns.length ≤ 16 by omega), Bool.false_and]; exact bad
   simp only [if_neg c2, decide_eq_true (show ns.length ≤ 16 by omega), Bool.true_and]
   by_cases c3 : (ps.length : Int) > 20
   · simp only [decide_eq_true c3, decide_eq_false (show ¬ ps.length ≤ 20 by omega), Bool.false_and]; exact bad
   simp only [decide_eq_false c3, decide_eq_true (show ps.length ≤ 20 by omega), Bool.true_and]
   refine Ev.succ ?_
   simp only [spec_l04Ok.j1, Bool.false_eq_true, if_false]
   exact hp
theorem implNet_ev (ns : List Int) (ps : List PI_) (hs : smallNet ns ps) : Ev (fun k => impl_ValidNetwork.f k ns ps) (validNet ns ps) := by
 obtain ⟨_, hl, hn⟩ := hs
 unfold impl_ValidNetwork.f validNet
 have bad : Ev (fun k => impl_ValidNetwork.j0 k true ns ps) false := Ev.succ (by simp only [impl_ValidNetwork.j0, if_true]; exact Ev.now _)
 by_cases c1 : (ns.length : Int) < 1
 · simp only [if_pos c1, decide_eq_false (show ¬ 1 ≤ ns.length by omega), Bool.false_and, Bool.and_false]; exact bad
 simp only [if_neg c1, decide_eq_true (show 1 ≤ ns.length by omega), Bool.true_and]
 by_cases c2 : (ns.length : Int) > 16
 · simp only [if_pos c2, decide_eq_false (show ¬ ns.length ≤ 16 by omega), Bool.false_and, Bool.and_false]; exact bad
 simp only [if_neg c2, decide_eq_true (show ns.length ≤ 16 by omega), Bool.true_and, allWithin_eq, Option.bind_some]
 cases allB (inB (-100000) 100000 ns) ns.length
 · simp only [Bool.false_eq_true, if_false, Bool.false_and]; exact bad
 simp only [if_true, Bool.true_and]
 by_cases c3 : (ps.length : Int) > 20
 · simp only [decide_eq_true c3, decide_eq_false (show ¬ ps.length ≤ 20 by omega), Bool.false_and]; exact bad
 simp only [decide_eq_false c3, decide_eq_true (show ps.length ≤ 20 by omega), Bool.true_and]
 refine Ev.succ ?_
 simp only [impl_ValidNetwork.j0, Bool.false_eq_true, if_false]
 have key := all_evE (fun k i => impl_ValidNetwork.l0 k ps (ps.length : Int) i ns ps) ps.length true (okPipe ns ps) (fun i hi r hr => Ev.succ ?_) (Ev.succ ?_)
 · rw [Bool.and_true] at key; exact key
 · simp only [impl_ValidNetwork.l0, if_pos (show (i : Int) < (ps.length : Int) by omega), if_pos (show 0 ≤ (i : Int) by omega)]
   refine Ev.bind (impl03_ev _ (hn i)) ?_
   unfold okPipe
   cases hv : onePipe (rd_T75 ps (i : Int))
   · simp only [Bool.false_and, Bool.false_eq_true, if_false]; exact Ev.now _
   simp only [Bool.true_and, if_true, implEnds_eq ns ps _ (show 1 ≤ ns.length by omega) (show ns.length ≤ 16 by omega) hv, Option.bind_some]
   cases (decide ((rd_T75 ps (i : Int)).f1 < (ns.length : Int)) && decide ((rd_T75 ps (i : Int)).f2 < (ns.length : Int)))
   · simp only [Bool.false_and, Bool.false_eq_true, if_false]; exact Ev.now _
   simp only [Bool.true_and, if_true, w64s (show i < 9223372036854775807 by omega)]
   by_cases z : i = 0
   · simp only [if_neg (show ¬ (i : Int) > 0 by omega), decide_eq_true z, Bool.true_or, if_true]; exact hr
   · have e1 : wrap64 ((i : Int) - 1) = ((i - 1 : Nat) : Int) := by rw [w64] <;> omega
     simp only [if_pos (show (i : Int) > 0 by omega), e1, if_pos (show 0 ≤ ((i - 1 : Nat) : Int) by omega), if_pos (show ((i - 1 : Nat) : Int) < (ps.length : Int) by omega), decide_eq_false z, Bool.false_or]
     cases (Op.bytesLess ((rd_T75 ps ((i - 1 : Nat) : Int)).f0.toList) ((rd_T75 ps (i : Int)).f0.toList))
     · simp only [Bool.false_eq_true, if_false]; exact Ev.now _
     · simp only [if_true]; exact hr
 · simp only [impl_ValidNetwork.l0, if_neg (show ¬ (ps.length : Int) < (ps.length : Int) by omega)]; exact Ev.now _
theorem validNet_len {ns : List Int} {ps : List PI_} (h : validNet ns ps = true) : 1 ≤ ns.length ∧ ns.length ≤ 16 ∧ ps.length ≤ 20 := by
 unfold validNet at h
 simp only [Bool.and_eq_true, decide_eq_true_eq] at h
 exact ⟨h.2.1.1, h.2.1.2, h.2.2.1⟩
theorem validNet_at {ns : List Int} {ps : List PI_} (h : validNet ns ps = true) (i : Nat) (hi : i < ps.length) : (1 ≤ (rd_T75 ps (i : Int)).f3 ∧ (rd_T75 ps (i : Int)).f3 ≤ 10000) ∧ 0 ≤ (rd_T75 ps (i : Int)).f5 ∧ (rd_T75 ps (i : Int)).f5 ≤ 5000 := by
 unfold validNet at h
 simp only [Bool.and_eq_true, decide_eq_true_eq] at h
 have h1 := allB_true.1 h.2.2.2 i hi
 unfold okPipe onePipe numsP at h1
 simp only [Bool.and_eq_true, decide_eq_true_eq] at h1
 exact ⟨h1.1.2.2.2.2.1, h1.1.2.2.2.2.2.2⟩
theorem mulb (x d A D : Int) (h0 : 0 ≤ x) (h1 : x ≤ A) (h2 : -D ≤ d) (h3 : d ≤ D) : -(A * D) ≤ x * d ∧ x * d ≤ A * D := by
 have hD : 0 ≤ D := by omega
 have a1 : x * d ≤ x * D := Int.mul_le_mul_of_nonneg_left h3 h0
 have a2 : x * -D ≤ x * d := Int.mul_le_mul_of_nonneg_left h2 h0
 have a3 : x * D ≤ A * D := Int.mul_le_mul_of_nonneg_right h1 hD
 rw [Int.mul_neg] at a2
 omega
def lossT (f5 f3 wa gr : Int) : Int := rdiv (f5 * f3 * (wa - gr)) 100000
theorem loss_b (f5 f3 wa gr : Int) (h5 : 0 ≤ f5 ∧ f5 ≤ 5000) (h3 : 1 ≤ f3 ∧ f3 ≤ 10000) (hw : -5000 ≤ wa ∧ wa ≤ 20000) (hg : -5000 ≤ gr ∧ gr ≤ 20000) : (0 ≤ f5 * f3 ∧ f5 * f3 ≤ 50000000) ∧ -1250000000000 ≤ f5 * f3 * (wa - gr) ∧ f5 * f3 * (wa - gr) ≤ 1250000000000 := by
 have a1 : 0 ≤ f5 * f3 := Int.mul_nonneg h5.1 (by omega)
 have a2 : f5 * f3 ≤ 50000000 := Int.le_trans (Int.mul_le_mul h5.2 h3.2 (by omega) (by decide)) (by decide)
 obtain ⟨b1, b2⟩ := mulb (f5 * f3) (wa - gr) 50000000 25000 a1 a2 (by omega) (by omega)
 exact ⟨⟨a1, a2⟩, Int.le_trans (by decide) b1, Int.le_trans b2 (by decide)⟩
theorem specLoses_eq (f5 f3 wa gr : Int) (h5 : 0 ≤ f5 ∧ f5 ≤ 5000) (h3 : 1 ≤ f3 ∧ f3 ≤ 10000) (hw : -5000 ≤ wa ∧ wa ≤ 20000) (hg : -5000 ≤ gr ∧ gr ≤ 20000) : spec_l10Loses.f f5 f3 wa gr = some (lossT f5 f3 wa gr) := by
 obtain ⟨⟨a1, a2⟩, b1, b2⟩ := loss_b f5 f3 wa gr h5 h3 hw hg
 unfold spec_l10Loses.f lossT
 rw [w64 (x := f5 * f3) (by omega) (by omega), w64 (x := wa - gr) (by omega) (by omega), w64 (x := f5 * f3 * (wa - gr)) (by omega) (by omega), l01Div_eq _ _ (by decide) (by omega) (by omega) (by decide) (by decide)]
 rfl
theorem implLoss_eq (a : ByteArray) (f1 f2 f4 f5 f3 wa gr : Int) (h5 : 0 ≤ f5 ∧ f5 ≤ 5000) (h3 : 1 ≤ f3 ∧ f3 ≤ 10000) (hw : -5000 ≤ wa ∧ wa ≤ 20000) (hg : -5000 ≤ gr ∧ gr ≤ 20000) : impl_Pipe_loss.f a f1 f2 f3 f4 f5 wa gr = some (lossT f5 f3 wa gr) := by
 obtain ⟨⟨a1, a2⟩, b1, b2⟩ := loss_b f5 f3 wa gr h5 h3 hw hg
 unfold impl_Pipe_loss.f lossT
 rw [w64 (x := f5 * f3) (by omega) (by omega), w64 (x := wa - gr) (by omega) (by omega), w64 (x := f5 * f3 * (wa - gr)) (by omega) (by omega), divRound_eq _ _ (by decide) (by omega) (by omega) (by decide) (by decide)]
 rfl
def accS (g : Nat → Int) : Nat → Int
 | 0 => 0
 | i + 1 => wrap64 (accS g i + g i)
theorem accS_congr {g g' : Nat → Int} : ∀ {i : Nat}, (∀ j, j < i → g j = g' j) → accS g i = accS g' i
 | 0, _ => rfl
 | i + 1, h => by
  unfold accS
  rw [accS_congr (fun j hj => h j (by omega)), h i (by omega)]
def mnL (lo x : Int) : Int := if lo < x then lo else x
theorem mnL_idem (lo x : Int) : mnL lo (mnL lo x) = mnL lo x := by unfold mnL; split <;> simp_all
theorem mnL_b {lo x : Int} (h : 0 ≤ lo) (hx : 0 ≤ x ∧ x ≤ 5000) : 0 ≤ mnL lo x ∧ mnL lo x ≤ 5000 := by unfold mnL; split <;> omega
theorem specMin_eq (x lo : Int) : spec_l00Min.f x lo = some (mnL lo x) := by
 unfold spec_l00Min.f mnL
 by_cases c : x < lo
 · rw [if_pos c, if_neg (by omega)]
 · rw [if_neg c]
   by_cases c2 : lo < x
   · rw [if_pos c2]
   · rw [if_neg c2, show lo = x by omega]
def putL (lo : Int) (q : List PI_) (a : Int) : List PI_ := q.set a.toNat ⟨(rd_T75 q a).f0, (rd_T75 q a).f1, (rd_T75 q a).f2, (rd_T75 q a).f3, (rd_T75 q a).f4, mnL lo (rd_T75 q a).f5⟩
def renL (lo : Int) : List PI_ → List Int → List PI_
 | q, [] => q
 | q, a :: s => renL lo (putL lo q a) s
theorem rdp_at (xs : List PI_) (i : Nat) (h : i < xs.length) : rd_T75 xs (i : Int) = xs[i] := by unfold rd_T75; exact getD_cast xs i h _
theorem renL_len (lo : Int) : ∀ (s : List Int) (q : List PI_), (renL lo q s).length = q.length
 | [], _ => rfl
 | a :: s, q => by
  show (renL lo (putL lo q a) s).length = q.length
  rw [renL_len lo s]
  simp [putL]
theorem renL_at (lo : Int) : ∀ (s : List Int) (q : List PI_), (∀ a ∈ s, 0 ≤ a ∧ a < (q.length : Int)) → ∀ (j : Nat) (hj : j < q.length), (rd_T75 (renL lo q s) (j : Int)).f3 = (rd_T75 q (j : Int)).f3 ∧ (rd_T75 (renL lo q s) (j : Int)).f5 = (if (j : Int) ∈ s then mnL lo (rd_T75 q (j : Int)).f5 else (rd_T75 q (j : Int)).f5)
 | [], q, _, j, hj => ⟨rfl, by rw [if_neg (by simp)]; rfl⟩
 | a :: s, q, h, j, hj => by
  have ha := h a (by simp)
  have hlp : (putL lo q a).length = q.length := by simp [putL]
  obtain ⟨e1, e2⟩ := renL_at lo s (putL lo q a) (fun b hb => by rw [hlp]; exact h b (by simp [hb])) j (by rw [hlp]; exact hj)
  have hr : rd_T75 (putL lo q a) (j : Int) = if (j : Int) = a then (⟨(rd_T75 q a).f0, (rd_T75 q a).f1, (rd_T75 q a).f2, (rd_T75 q a).f3, (rd_T75 q a).f4, mnL lo (rd_T75 q a).f5⟩ : PI_) else rd_T75 q (j : Int) := by
   rw [rdp_at _ j (by rw [hlp]; exact hj)]
   by_cases c : (j : Int) = a
   · rw [if_pos c]
     subst c
     simp [putL]
   · rw [if_neg c, rdp_at q j hj]
     unfold putL
     rw [List.getElem_set_ne (by omega)]
  rw [hr] at e1 e2
  show (rd_T75 (renL lo (putL lo q a) s) (j : Int)).f3 = _ ∧ (rd_T75 (renL lo (putL lo q a) s) (j : Int)).f5 = _
  rw [e1, e2]
  by_cases c : (j : Int) = a
  · subst c
    simp only [if_true, List.mem_cons, true_or, mnL_idem, ite_self]
    exact ⟨by first | trivial | rfl, by first | trivial | rfl⟩
  · simp only [if_neg c, List.mem_cons, c, false_or]
    exact ⟨by first | trivial | rfl, by first | trivial | rfl⟩
theorem renew_ev (ns : List Int) (ps : List PI_) (s : List Int) (lo : Int) (hn : ns.length ≤ 1000) (hp : ps.length ≤ 1000) (hl : s.length ≤ 1000) (hs : ∀ a ∈ s, 0 ≤ a ∧ a < (ps.length : Int)) : Ev (fun k => spec_l10Renew.f k [⟨ns, ps⟩] s lo) (ns, renL lo ps s) := by
 unfold spec_l10Renew.f spec_l04Own.f spec_l00Own.f
 simp only [List.length_singleton, rdn1, if_pos (show (0 : Int) < ((1 : Nat) : Int) by decide), Option.bind_some, List.length_nil, List.nil_append, if_pos (show 0 + ns.length < 17592186044416 by omega), if_pos (show 0 + ps.length < 2513169434916 by omega)]
 have key : ∀ (r pre : List Int) (q : List PI_), pre ++ r = s → q.length = ps.length → Ev (fun k => spec_l10Renew.l0 k s lo (pre.length : Int) ns q) (ns, renL lo q r) := by
  intro r
  induction r with
  | nil =>
   intro pre q h1 h2
   have e : pre.length = s.length := by rw [← h1]; simp
   refine Ev.succ ?_
   simp only [spec_l10Renew.l0, e, if_neg (show ¬ (s.length : Int) < (s.length : Int) by omega)]
   exact Ev.now _
  | cons a r ih =>
   intro pre q h1 h2
   have e : s.length = pre.length + (r.length + 1) := by rw [← h1]; simp
   have ea : rd s (pre.length : Int) = a := by rw [← h1]; exact rd_app pre r a
   have ha := hs a (by rw [← h1]; simp)
   refine Ev.succ ?_
   simp only [spec_l10Renew.l0, if_pos (show (pre.length : Int) < (s.length : Int) by omega), if_pos (show 0 ≤ (pre.length : Int) by omega), ea, if_pos ha.1, if_pos (show a < (q.length : Int) by omega), specMin_eq, Option.bind_some, w64s (show pre.length < 9223372036854775807 by omega)]
   have := ih (pre ++ [a]) (putL lo q a) (by rw [← h1]; simp) (by simp [putL, h2])
   rw [List.length_append, List.length_singleton] at this
   exact this
 exact key s [] ps rfl rfl
def glS (lo wa gr : Int) (ps : List PI_) (s : List Int) (j : Nat) : Int := lossT (if (j : Int) ∈ s then mnL lo (rd_T75 ps (j : Int)).f5 else (rd_T75 ps (j : Int)).f5) (rd_T75 ps (j : Int)).f3 wa gr
structure OkN (ns : List Int) (ps : List PI_) (lo wa gr : Int) : Prop where
 hn : ns.length ≤ 16
 hp : ps.length ≤ 20
 h3 : ∀ i : Nat, i < ps.length → 1 ≤ (rd_T75 ps (i : Int)).f3 ∧ (rd_T75 ps (i : Int)).f3 ≤ 10000
 h5 : ∀ i : Nat, i < ps.length → 0 ≤ (rd_T75 ps (i : Int)).f5 ∧ (rd_T75 ps (i : Int)).f5 ≤ 5000
 lo0 : 0 ≤ lo
 wa : -5000 ≤ wa ∧ wa ≤ 20000
 gr : -5000 ≤ gr ∧ gr ≤ 20000
theorem sum_ev {ns : List Int} {ps : List PI_} {lo wa gr : Int} (h : OkN ns ps lo wa gr) (s : List Int) (hs : ∀ a ∈ s, 0 ≤ a ∧ a < (ps.length : Int)) : Ev (fun k => spec_l10Sum.f k [⟨ns, renL lo ps s⟩] wa gr) (accS (glS lo wa gr ps s) ps.length) := by
 have hp := h.hp
 unfold spec_l10Sum.f
 have key := fold_from (fun k (x : Int) i => spec_l10Sum.l0 k [⟨ns, renL lo ps s⟩] wa gr x i) 0 ps.length (fun i => accS (glS lo wa gr ps s) i) (accS (glS lo wa gr ps s) ps.length) (Nat.zero_le _) (fun i _ hi r hr => Ev.succ ?_) (Ev.succ ?_)
 · exact key
 · obtain ⟨e3, e5⟩ := renL_at lo s ps hs i hi
   have b5 : 0 ≤ (rd_T75 (renL lo ps s) (i : Int)).f5 ∧ (rd_T75 (renL lo ps s) (i : Int)).f5 ≤ 5000 := by
    rw [e5]
    split
    · exact mnL_b h.lo0 (h.h5 i hi)
    · exact h.h5 i hi
   simp only [spec_l10Sum.l0, List.length_singleton, rdn1, if_pos (show (0 : Int) < ((1 : Nat) : Int) by decide), renL_len, if_pos (show (i : Int) < (ps.length : Int) by omega), if_pos (show 0 ≤ (i : Int) by omega)]
   rw [specLoses_eq _ _ _ _ b5 (by rw [e3]; exact h.h3 i hi) h.wa h.gr]
   simp only [Option.bind_some, w64s (show i < 9223372036854775807 by omega)]
   rw [e3, e5]
   exact hr
 · simp only [spec_l10Sum.l0, List.length_singleton, rdn1, if_pos (show (0 : Int) < ((1 : Nat) : Int) by decide), renL_len, if_neg (show ¬ (ps.length : Int) < (ps.length : Int) by omega)]
   exact Ev.now _
structure RelN (B : Int) (s : SVN) (x : SVQ) : Prop where
 bud : x.budget = B
 full : x.full = false
 n0 : 0 ≤ x.nodes
 n1 : x.nodes ≤ B
 b : s.budget = B - x.nodes
 so : s.some = x.set
 be : s.best = x.best
 bl : x.best.length ≤ 20
 le : s.least = x.least
 fo : s.found = x.found
def OutN (d : Nat) (B : Int) (s' : SVN) (x' : SVQ) : Prop := (x'.full = true ∧ s'.budget < 0 ∧ -1 - (d : Int) ≤ s'.budget) ∨ RelN B s' x'
theorem leafN_ev {ns : List Int} {ps : List PI_} {lo wa gr : Int} (hk : OkN ns ps lo wa gr) (cs : List Int) (B m : Int) (s : SVN) (x : SVQ) (h : RelN B s x) (hz : x.set.length ≤ 20) (hs : ∀ a ∈ x.set, 0 ≤ a ∧ a < (ps.length : Int)) :
 ∃ s' x', Ev (fun k => visitN k ps cs lo wa gr 0 m (accS (glS lo wa gr ps x.set) ps.length) s) s' ∧ Ev (fun k => runQ k ⟨ns, ps⟩ cs lo wa gr 0 m x) x' ∧ s'.some = s.some ∧ x'.set = x.set ∧ RelN B s' x' := by
 have hn := hk.hn
 have hp := hk.hp
 have e1 := renew_ev ns ps x.set lo (by omega) (by omega) (by omega) hs
 have e2 := sum_ev hk x.set hs
 generalize accS (glS lo wa gr ps x.set) ps.length = l at e2 ⊢
 have hup : RelN B ⟨s.budget, s.some, s.some, l, true⟩ ⟨x.set, x.set, l, true, x.nodes, x.budget, x.full⟩ := ⟨h.bud, h.full, h.n0, h.n1, h.b, h.so, h.so, hz, rfl, rfl⟩
 have hfo := h.fo
 cases q1 : x.found
 · rw [q1] at hfo
   refine ⟨⟨s.budget, s.some, s.some, l, true⟩, ⟨x.set, x.set, l, true, x.nodes, x.budget, x.full⟩, ?_, ?_, rfl, rfl, hup⟩
   · simp only [visitN, hfo, Bool.false_eq_true, if_false]; exact Ev.now _
   · simp only [runQ]
     refine Ev.bind e1 (Ev.bind e2 ?_)
     simp only [q1, Bool.false_eq_true, if_false]; exact Ev.now _
 · rw [q1] at hfo
   by_cases q3 : l < x.least
   · refine ⟨⟨s.budget, s.some, s.some, l, true⟩, ⟨x.set, x.set, l, true, x.nodes, x.budget, x.full⟩, ?_, ?_, rfl, rfl, hup⟩
     · simp only [visitN, hfo, if_true, if_pos (show l < s.least by rw [h.le]; exact q3)]; exact Ev.now _
     · simp only [runQ]
       refine Ev.bind e1 (Ev.bind e2 ?_)
       simp only [q1, if_true, if_pos q3]; exact Ev.now _
   · by_cases q4 : l = x.least
     · have ec := cmp_ev x.set x.best (by omega) (by have := h.bl; omega)
       have eb := before_ev x.set x.best (by omega) (by have := h.bl; omega)
       by_cases qc : cmpT x.set x.best < 0
       · rw [decide_eq_true qc] at eb
         refine ⟨⟨s.budget, s.some, s.some, l, true⟩, ⟨x.set, x.set, l, true, x.nodes, x.budget, x.full⟩, ?_, ?_, rfl, rfl, hup⟩
         · simp only [visitN, hfo, if_true, if_neg (show ¬ l < s.least by rw [h.le]; exact q3), if_pos (show l = s.least by rw [h.le]; exact q4)]
           rw [h.so, h.be]
           refine Ev.bind ec ?_
           simp only [if_pos qc]; exact Ev.now _
         · simp only [runQ]
           refine Ev.bind e1 (Ev.bind e2 ?_)
           simp only [q1, if_true, if_neg q3, if_pos q4]
           refine Ev.bind eb ?_
           simp only [if_true]; exact Ev.now _
       · rw [decide_eq_false qc] at eb
         refine ⟨s, x, ?_, ?_, rfl, rfl, h⟩
         · simp only [visitN, hfo, if_true, if_neg (show ¬ l < s.least by rw [h.le]; exact q3), if_pos (show l = s.least by rw [h.le]; exact q4)]
           rw [h.so, h.be]
           refine Ev.bind ec ?_
           simp only [if_neg qc]; exact Ev.now _
         · simp only [runQ]
           refine Ev.bind e1 (Ev.bind e2 ?_)
           simp only [q1, if_true, if_neg q3, if_pos q4]
           refine Ev.bind eb ?_
           simp only [Bool.false_eq_true, if_false]; exact Ev.now _
     · refine ⟨s, x, ?_, ?_, rfl, rfl, h⟩
       · simp only [visitN, hfo, if_true, if_neg (show ¬ l < s.least by rw [h.le]; exact q3), if_neg (show ¬ l = s.least by rw [h.le]; exact q4)]; exact Ev.now _
       · simp only [runQ]
         refine Ev.bind e1 (Ev.bind e2 ?_)
         simp only [q1, if_true, if_neg q3, if_neg q4]; exact Ev.now _
theorem nodeN_no {B : Int} {s : SVN} {x : SVQ} (h : RelN B s x) (e : x.nodes = B) : nodeQB x = false ∧ (nodeQS x).full = true ∧ (nodeQS x).set = x.set ∧ wrap64 (s.budget - 1) = -1 := by
 unfold nodeQB nodeQS
 rw [if_pos (by rw [h.bud]; exact e), if_pos (by rw [h.bud]; exact e)]
 exact ⟨rfl, rfl, rfl, by rw [h.b, e, w64] <;> omega⟩
theorem nodeN_yes {B : Int} {s : SVN} {x : SVQ} (h : RelN B s x) (hB : B ≤ 20000) (e : ¬ x.nodes = B) : nodeQB x = true ∧ nodeQS x = ⟨x.set, x.best, x.least, x.found, x.nodes + 1, x.budget, false⟩ ∧ wrap64 (s.budget - 1) = B - (x.nodes + 1) ∧ 0 ≤ B - (x.nodes + 1) := by
 have n0 := h.n0
 have n1 := h.n1
 unfold nodeQB nodeQS
 rw [if_neg (by rw [h.bud]; exact e), if_neg (by rw [h.bud]; exact e), if_neg (by rw [h.full]; decide), h.full]
 refine ⟨rfl, ?_, ?_, by omega⟩
 · rw [show wrap64 (x.nodes + 1) = x.nodes + 1 by rw [w64] <;> omega]
 · rw [h.b, w64] <;> omega
theorem RelN.node {B : Int} {s : SVN} {x : SVQ} (h : RelN B s x) (hB : B ≤ 20000) (e : ¬ x.nodes = B) : RelN B ⟨wrap64 (s.budget - 1), s.some, s.best, s.least, s.found⟩ ⟨x.set, x.best, x.least, x.found, x.nodes + 1, x.budget, false⟩ := by
 obtain ⟨_, _, hw, h0⟩ := nodeN_yes h hB e
 exact ⟨h.bud, rfl, by have := h.n0; show 0 ≤ x.nodes + 1; omega, by show x.nodes + 1 ≤ B; omega, hw, h.so, h.be, h.bl, h.le, h.fo⟩
theorem OutN.up {d : Nat} {B : Int} {s : SVN} {x : SVQ} (h : OutN d B s x) : OutN (d + 1) B s x := by
 rcases h with ⟨a, b, c⟩ | h
 · exact .inl ⟨a, b, by omega⟩
 · exact .inr h
theorem tailN_ev {ns : List Int} {ps : List PI_} {lo wa gr : Int} (hk : OkN ns ps lo wa gr) (cs : List Int) (d i : Nat) (hi : i + (d + 1) = ps.length) (B m : Int) (hB : B ≤ 20000)
 (ih : ∀ s x, RelN B s x → (∀ a ∈ x.set, 0 ≤ a ∧ a < ((i + 1 : Nat) : Int)) → x.set.length ≤ i + 1 → ∃ s' x', Ev (fun k => visitN k ps cs lo wa gr d m (accS (glS lo wa gr ps x.set) (i + 1)) s) s' ∧ Ev (fun k => runQ k ⟨ns, ps⟩ cs lo wa gr d m x) x' ∧ s'.some = s.some ∧ x'.set = x.set ∧ OutN d B s' x')
 (s : SVN) (x : SVQ) (h : RelN B s x) (hs : ∀ a ∈ x.set, 0 ≤ a ∧ a < (i : Int)) (hz : x.set.length ≤ i) :
 ∃ s' x', Ev (fun k => tailN (fun l s => visitN k ps cs lo wa gr d m l s) (plossN ps (i : Int) (rd_T75 ps (i : Int)).f5 wa gr) (accS (glS lo wa gr ps x.set) i) s) s' ∧ Ev (fun k => if nodeQB x = true then runQ k ⟨ns, ps⟩ cs lo wa gr d m (nodeQS x) else some (nodeQS x)) x' ∧ s'.some = s.some ∧ x'.set = x.set ∧ OutN d B s' x' := by
 unfold tailN plossN
 by_cases e : x.nodes = B
 · obtain ⟨e1, e2, e3, e4⟩ := nodeN_no h e
   refine ⟨⟨-1, s.some, s.best, s.least, s.found⟩, nodeQS x, ?_, ?_, rfl, e3, .inl ⟨e2, by show (-1 : Int) < 0; decide, by show -1 - (d : Int) ≤ -1; omega⟩⟩
   · rw [e4]
     simp only [show ((-1 : Int) < 0) = True from eq_true (by decide), if_true]; exact Ev.now _
   · simp only [e1, Bool.false_eq_true, if_false]; exact Ev.now _
 · obtain ⟨e1, e2, e3, e4⟩ := nodeN_yes h hB e
   obtain ⟨s', x', h1, h2, h3, h4, h5⟩ := ih _ _ (h.node hB e) (fun a ha => by have := hs a ha; omega) (by show x.set.length ≤ i + 1; omega)
   refine ⟨s', x', ?_, ?_, h3, h4, h5⟩
   · simp only [if_neg (show ¬ wrap64 (s.budget - 1) < 0 by omega), implLoss_eq _ _ _ _ _ _ _ _ (hk.h5 i (by omega)) (hk.h3 i (by omega)) hk.wa hk.gr, Option.bind_some]
     have e5 : accS (glS lo wa gr ps x.set) (i + 1) = wrap64 (accS (glS lo wa gr ps x.set) i + lossT (rd_T75 ps (i : Int)).f5 (rd_T75 ps (i : Int)).f3 wa gr) := by
      show wrap64 (accS (glS lo wa gr ps x.set) i + glS lo wa gr ps x.set i) = _
      unfold glS
      rw [if_neg (fun hm => by have := hs _ hm; omega)]
     rw [← e5]
     exact h1
   · simp only [if_pos e1, e2]; exact h2
theorem searchN_ev {ns : List Int} {ps : List PI_} {lo wa gr : Int} (hk : OkN ns ps lo wa gr) (cs : List Int) (hcs : cs.length = ps.length) (B : Int) (hB : B ≤ 20000) : ∀ (d i : Nat), i + d = ps.length → ∀ (m : Int) (s : SVN) (x : SVQ), RelN B s x → (∀ a ∈ x.set, 0 ≤ a ∧ a < (i : Int)) → x.set.length ≤ i →
 ∃ s' x', Ev (fun k => visitN k ps cs lo wa gr d m (accS (glS lo wa gr ps x.set) i) s) s' ∧ Ev (fun k => runQ k ⟨ns, ps⟩ cs lo wa gr d m x) x' ∧ s'.some = s.some ∧ x'.set = x.set ∧ OutN d B s' x' := by
 have hp := hk.hp
 intro d
 induction d with
 | zero =>
  intro i hi m s x h hs hz
  have e : i = ps.length := by omega
  subst e
  obtain ⟨s', x', h1, h2, h3, h4, h5⟩ := leafN_ev hk cs B m s x h (by omega) hs
  exact ⟨s', x', h1, h2, h3, h4, .inr h5⟩
 | succ d ih =>
  intro i hi m s x h hs hz
  have ei : ps.length - (d + 1) = i := by omega
  have ec : cs.length - (d + 1) = i := by omega
  have tl := tailN_ev hk cs d i hi B m hB (fun s x hr hs hz => ih (i + 1) (by omega) m s x hr hs hz)
  unfold visitN runQ
  simp only [ei, ec]
  by_cases qm : rd cs (i : Int) ≤ m
  · simp only [if_pos qm]
    by_cases e : x.nodes = B
    · obtain ⟨e1, e2, e3, e4⟩ := nodeN_no h e
      have hn : (nodeQS x).nodes = (nodeQS x).budget := by unfold nodeQS; rw [if_pos (by rw [h.bud]; exact e)]; show x.nodes = x.budget; rw [h.bud]; exact e
      have e5 : nodeQB (nodeQS x) = false := by unfold nodeQB; rw [if_pos hn]
      have e6 : (nodeQS (nodeQS x)).full = true := by rw [nodeQS, if_pos hn]
      refine ⟨⟨-1, s.some, s.best, s.least, s.found⟩, nodeQS (nodeQS x), ?_, ?_, rfl, by rw [nodeQS_set]; exact e3, .inl ⟨e6, by show (-1 : Int) < 0; decide, by show -1 - ((d + 1 : Nat) : Int) ≤ -1; omega⟩⟩
      · rw [e4]
        simp only [show ((-1 : Int) < 0) = True from eq_true (by decide), if_true]; exact Ev.now _
      · simp only [e1, Bool.false_eq_true, if_false, Option.bind_some, e5]; exact Ev.now _
    · obtain ⟨e1, e2, e3, e4⟩ := nodeN_yes h hB e
      have hnode := h.node hB e
      have hrel : RelN B ⟨wrap64 (s.budget - 1), s.some ++ [(i : Int)], s.best, s.least, s.found⟩ ⟨x.set ++ [(i : Int)], x.best, x.least, x.found, x.nodes + 1, x.budget, false⟩ := ⟨hnode.bud, hnode.full, hnode.n0, hnode.n1, hnode.b, by show s.some ++ [(i : Int)] = x.set ++ [(i : Int)]; rw [h.so], hnode.be, hnode.bl, hnode.le, hnode.fo⟩
      obtain ⟨s2, x2, h1, h2, h3, h4, h5⟩ := ih (i + 1) (by omega) (wrap64 (m - rd cs (i : Int))) _ _ hrel (fun a ha => by
       rcases List.mem_append.1 ha with ha | ha
       · have := hs a ha; omega
       · have : a = (i : Int) := by simpa using ha
         omega) (by show (x.set ++ [(i : Int)]).length ≤ i + 1; simp; omega)
      have e5 : accS (glS lo wa gr ps (x.set ++ [(i : Int)])) (i + 1) = wrap64 (accS (glS lo wa gr ps x.set) i + lossT (mnL lo (rd_T75 ps (i : Int)).f5) (rd_T75 ps (i : Int)).f3 wa gr) := by
       show wrap64 (accS (glS lo wa gr ps (x.set ++ [(i : Int)])) i + glS lo wa gr ps (x.set ++ [(i : Int)]) i) = _
       rw [accS_congr (g' := glS lo wa gr ps x.set) (fun j hj => ?_)]
       · congr 2
         unfold glS
         rw [if_pos (by simp)]
       · unfold glS
         have hm : ((j : Int) ∈ x.set ++ [(i : Int)]) = ((j : Int) ∈ x.set) := by
          apply propext
          rw [List.mem_append]
          constructor
          · rintro (h | h)
            · exact h
            · have : (j : Int) = (i : Int) := by simpa using h
              omega
          · exact .inl
         simp only [hm]
      have t1 : s2.some.take (s2.some.length - 1) = s.some := by rw [h3]; simp
      have t2 : x2.set.take (x2.set.length - 1) = x.set := by rw [h4]; simp
      have el := implLoss_eq (rd_T75 ps (i : Int)).f0 (rd_T75 ps (i : Int)).f1 (rd_T75 ps (i : Int)).f2 (rd_T75 ps (i : Int)).f4 _ _ wa gr (mnL_b hk.lo0 (hk.h5 i (by omega))) (hk.h3 i (by omega)) hk.wa hk.gr
      have hpl : plossN ps (i : Int) (if lo < (rd_T75 ps (i : Int)).f5 then lo else (rd_T75 ps (i : Int)).f5) wa gr = some (lossT (mnL lo (rd_T75 ps (i : Int)).f5) (rd_T75 ps (i : Int)).f3 wa gr) := el
      simp only [if_neg (show ¬ wrap64 (s.budget - 1) < 0 by omega), e1, if_true, e2, hpl, Option.bind_some]
      rw [← e5]
      rcases h5 with ⟨f1, f2, f3⟩ | hrel2
      · have wb : wrap64 (s2.budget - 1) = s2.budget - 1 := by rw [w64] <;> omega
        have hnb : ∀ y : SVQ, y.full = true → nodeQB y = false ∧ (nodeQS y).full = true := fun y hy => by
         unfold nodeQB nodeQS
         by_cases c : y.nodes = y.budget
         · rw [if_pos c, if_pos c]; exact ⟨rfl, rfl⟩
         · rw [if_neg c, if_neg c, if_pos hy, hy]; exact ⟨rfl, rfl⟩
        obtain ⟨n1, n2⟩ := hnb ⟨x2.set.take (x2.set.length - 1), x2.best, x2.least, x2.found, x2.nodes, x2.budget, x2.full⟩ f1
        refine ⟨⟨s2.budget - 1, s.some, s2.best, s2.least, s2.found⟩, nodeQS ⟨x2.set.take (x2.set.length - 1), x2.best, x2.least, x2.found, x2.nodes, x2.budget, x2.full⟩, ?_, ?_, rfl, by rw [nodeQS_set]; exact t2, .inl ⟨n2, by show s2.budget - 1 < 0; omega, by show -1 - ((d + 1 : Nat) : Int) ≤ s2.budget - 1; omega⟩⟩
        · refine Ev.bind h1 ?_
          unfold tailN
          simp only [wb, if_pos (show s2.budget - 1 < 0 by omega), t1]; exact Ev.now _
        · refine Ev.bind (Ev.bind h2 (Ev.now _)) ?_
          simp only [n1, Bool.false_eq_true, if_false]; exact Ev.now _
      · have hrel3 : RelN B ⟨s2.budget, s2.some.take (s2.some.length - 1), s2.best, s2.least, s2.found⟩ ⟨x2.set.take (x2.set.length - 1), x2.best, x2.least, x2.found, x2.nodes, x2.budget, x2.full⟩ := ⟨hrel2.bud, hrel2.full, hrel2.n0, hrel2.n1, hrel2.b, by show s2.some.take (s2.some.length - 1) = x2.set.take (x2.set.length - 1); rw [t1, t2]; exact h.so, hrel2.be, hrel2.bl, hrel2.le, hrel2.fo⟩
        obtain ⟨s', x', k1, k2, k3, k4, k5⟩ := tl _ _ hrel3 (by show ∀ a ∈ x2.set.take (x2.set.length - 1), 0 ≤ a ∧ a < (i : Int); rw [t2]; exact hs) (by show (x2.set.take (x2.set.length - 1)).length ≤ i; rw [t2]; exact hz)
        refine ⟨s', x', ?_, ?_, k3.trans t1, k4.trans t2, k5.up⟩
        · refine Ev.bind h1 ?_
          have e6 : x.set = (⟨x2.set.take (x2.set.length - 1), x2.best, x2.least, x2.found, x2.nodes, x2.budget, x2.full⟩ : SVQ).set := t2.symm
          rw [e6]
          exact k1
        · refine Ev.bind (Ev.bind h2 (Ev.now _)) ?_
          exact k2
  · simp only [if_neg qm, Option.bind_some]
    obtain ⟨s', x', k1, k2, k3, k4, k5⟩ := tl s x h hs hz
    exact ⟨s', x', k1, k2, k3, k4, k5.up⟩
theorem okL_eq (cs : List Int) : ∀ (d : Nat) (ok : Bool), d ≤ cs.length → okL cs d ok = some (ok && (List.range' (cs.length - d) d).all (inB 0 1000000000 cs))
 | 0, ok, _ => by simp [okL]
 | d + 1, ok, h => by
  unfold okL
  cases ok
  · simp
  · rw [if_pos rfl, l00In_eq, Option.bind_some, okL_eq cs d _ (by omega), List.range'_succ, List.all_cons, Bool.true_and, show cs.length - (d + 1) + 1 = cs.length - d by omega]
    rfl
theorem ifand {α : Type} (a b : Bool) (X Y : α) : (if a = true then (if b = true then X else Y) else Y) = if (a && b) = true then X else Y := by cases a <;> simp
theorem bothN_ev (ns : List Int) (ps : List PI_) (hs : smallNet ns ps) (cs : List Int) (hc : cs.length ≤ 1048576) (lo mo wa gr b : Int) : ∃ r : List Int × Int × Int, Ev (fun k => spec_BestRenewal.f k ns ps cs lo mo wa gr b) r ∧ Ev (fun k => impl_BestRenewal.f k ns ps cs lo mo wa gr b) r ∧ r.1.length ≤ 20 := by
 unfold spec_BestRenewal.f impl_BestRenewal.f
 have e1 := specNet_ev ns ps hs
 have e2 := implNet_ev ns ps hs
 cases v : validNet ns ps
 · rw [v] at e1 e2
   refine ⟨([], 0, 1), Ev.bind e1 ?_, Ev.bind e2 ?_, Nat.zero_le 20⟩
   · simp only [Bool.false_eq_true, if_false]; exact Ev.now _
   · simp only [Bool.false_eq_true, if_false]; exact Ev.now _
 rw [v] at e1 e2
 obtain ⟨v1, v2, v3⟩ := validNet_len v
 by_cases hln0 : ¬ cs.length = ps.length
 · have hln := hln0
   refine ⟨([], 0, 2), Ev.bind e1 ?_, Ev.bind e2 ?_, Nat.zero_le 20⟩
   · simp only [if_true, if_pos hc, okS, if_neg hln, Option.bind_some]
     rw [okL_eq cs cs.length false (Nat.le_refl _)]
     simp only [Bool.false_and, Option.bind_some, Bool.false_eq_true, if_false]; exact Ev.now _
   · simp only [if_true, if_neg hln]; exact Ev.now _
 have hln : cs.length = ps.length := Decidable.not_not.1 hln0
 have os : okS ps cs lo mo wa gr b = some ((decide (0 ≤ lo) && decide (lo ≤ 5000)) && ((decide (0 ≤ mo) && decide (mo ≤ 1000000000)) && ((decide (-5000 ≤ wa) && decide (wa ≤ 20000)) && ((decide (-5000 ≤ gr) && decide (gr ≤ 20000)) && (decide (1 ≤ b) && decide (b ≤ 20000)))))) := by
  unfold okS spec_l03Degrees.f
  rw [if_pos hln]
  simp only [l00In_eq, Option.bind_some]
  cases (decide (0 ≤ lo) && decide (lo ≤ 5000))
  · rfl
  cases (decide (0 ≤ mo) && decide (mo ≤ 1000000000))
  · rfl
  cases (decide (-5000 ≤ wa) && decide (wa ≤ 20000))
  · rfl
  cases (decide (-5000 ≤ gr) && decide (gr ≤ 20000))
  · rfl
  rfl
 have ol := okL_eq cs cs.length ((decide (0 ≤ lo) && decide (lo ≤ 5000)) && ((decide (0 ≤ mo) && decide (mo ≤ 1000000000)) && ((decide (-5000 ≤ wa) && decide (wa ≤ 20000)) && ((decide (-5000 ≤ gr) && decide (gr ≤ 20000)) && (decide (1 ≤ b) && decide (b ≤ 20000)))))) (Nat.le_refl _)
 rw [Nat.sub_self, ← List.range_eq_range'] at ol
 have ai := allWithin_eq cs 0 1000000000
 unfold allB at ai
 have bi : impl_budgetValid.f b = some (decide (1 ≤ b) && decide (b ≤ 20000)) := by unfold impl_budgetValid.f; rw [within_eq]; rfl
 have wi : impl_degreesOk.f wa = some (decide (-5000 ≤ wa) && decide (wa ≤ 20000)) := by unfold impl_degreesOk.f; rw [within_eq]; rfl
 have gi : impl_degreesOk.f gr = some (decide (-5000 ≤ gr) && decide (gr ≤ 20000)) := by unfold impl_degreesOk.f; rw [within_eq]; rfl
 have hS : ∀ (X : Nat → Option (List Int × Int × Int)), (fun k => if cs.length ≤ 1048576 then (okS ps cs lo mo wa gr b).bind fun ok => (okL cs cs.length ok).bind fun ok2 => if ok2 = true then X k else some ([], 0, 2) else none) = fun k => if (((decide (0 ≤ lo) && decide (lo ≤ 5000)) && ((decide (0 ≤ mo) && decide (mo ≤ 1000000000)) && ((decide (-5000 ≤ wa) && decide (wa ≤ 20000)) && ((decide (-5000 ≤ gr) && decide (gr ≤ 20000)) && (decide (1 ≤ b) && decide (b ≤ 20000)))))) && (List.range cs.length).all (inB 0 1000000000 cs)) = true then X k else some ([], 0, 2) := by
  intro X
  funext k
  rw [if_pos hc, os, Option.bind_some, ol, Option.bind_some]
 have hI : ∀ (X : Nat → Option (List Int × Int × Int)), (fun k => if cs.length = ps.length then ((impl_allWithin.f cs 0 1000000000).bind fun q0 => if q0 = true then ((impl_within.f lo 0 5000).bind fun q1 => if q1 = true then ((impl_within.f mo 0 1000000000).bind fun q2 => if q2 = true then ((impl_degreesOk.f wa).bind fun q3 => if q3 = true then ((impl_degreesOk.f gr).bind fun q4 => if q4 = true then ((impl_budgetValid.f b).bind fun q5 => if q5 = true then X k else some ([], 0, 2)) else some ([], 0, 2)) else some ([], 0, 2)) else some ([], 0, 2)) else some ([], 0, 2)) else some ([], 0, 2)) else some ([], 0, 2)) = fun k => if (((decide (0 ≤ lo) && decide (lo ≤ 5000)) && ((decide (0 ≤ mo) && decide (mo ≤ 1000000000)) && ((decide (-5000 ≤ wa) && decide (wa ≤ 20000)) && ((decide (-5000 ≤ gr) && decide (gr ≤ 20000)) && (decide (1 ≤ b) && decide (b ≤ 20000)))))) && (List.range cs.length).all (inB 0 1000000000 cs)) = true then X k else some ([], 0, 2) := by
  intro X
  funext k
  rw [if_pos hln, ai, wi, gi, bi]
  simp only [within_eq, Option.bind_some, ifand]
  congr 1
  rw [Bool.and_comm]
 cases g : (((decide (0 ≤ lo) && decide (lo ≤ 5000)) && ((decide (0 ≤ mo) && decide (mo ≤ 1000000000)) && ((decide (-5000 ≤ wa) && decide (wa ≤ 20000)) && ((decide (-5000 ≤ gr) && decide (gr ≤ 20000)) && (decide (1 ≤ b) && decide (b ≤ 20000)))))) && (List.range cs.length).all (inB 0 1000000000 cs))
 · refine ⟨([], 0, 2), Ev.bind e1 ?_, Ev.bind e2 ?_, Nat.zero_le 20⟩
   · simp only [if_true]
     rw [hS, g]
     simp only [Bool.false_eq_true, if_false]; exact Ev.now _
   · simp only [if_true]
     rw [hI, g]
     simp only [Bool.false_eq_true, if_false]; exact Ev.now _
 have g' := g
 simp only [Bool.and_eq_true, decide_eq_true_eq] at g'
 obtain ⟨⟨⟨l0, l1⟩, ⟨m0, m1⟩, ⟨w0, w1⟩, ⟨g0, g1⟩, b0, b1⟩, _⟩ := g'
 have hk : OkN ns ps lo wa gr := ⟨v2, v3, fun i hi => (validNet_at v i hi).1, fun i hi => (validNet_at v i hi).2, l0, ⟨w0, w1⟩, ⟨g0, g1⟩⟩
 obtain ⟨s', x', h1, h2, _, _, h5⟩ := searchN_ev hk cs hln b b1 ps.length 0 (Nat.zero_add _) mo ⟨b, [], [], 0, false⟩ ⟨[], [], 0, false, 0, b, false⟩ ⟨rfl, rfl, Int.le_refl 0, by show 0 ≤ b; omega, by show b = b - 0; omega, rfl, rfl, Nat.zero_le 20, rfl, rfl⟩ (fun a ha => by cases ha) (Nat.zero_le _)
 have h2' : Ev (fun k => runQ k ⟨ns, ps⟩ cs lo wa gr cs.length mo ⟨[], [], 0, false, 0, b, false⟩) x' := by rw [hln]; exact h2
 rcases h5 with ⟨f1, f2, _⟩ | hr
 · refine ⟨([], 0, 5), Ev.bind e1 ?_, Ev.bind e2 ?_, Nat.zero_le 20⟩
   · simp only [if_true]
     rw [hS, g]
     simp only [if_true, if_pos (show cs.length ≤ 1000 by omega)]
     refine Ev.bind h2' ?_
     simp only [if_pos f1]; exact Ev.now _
   · simp only [if_true]
     rw [hI, g]
     simp only [if_true, if_pos (show ps.length ≤ 1000 by omega)]
     refine Ev.bind h1 ?_
     simp only [if_pos f2]; exact Ev.now _
 · have hb := hr.b
   have hn := hr.n1
   refine ⟨(x'.best, x'.least, 0), Ev.bind e1 ?_, Ev.bind e2 ?_, hr.bl⟩
   · simp only [if_true]
     rw [hS, g]
     simp only [if_true, if_pos (show cs.length ≤ 1000 by omega)]
     refine Ev.bind h2' ?_
     simp only [hr.full, Bool.false_eq_true, if_false]; exact Ev.now _
   · simp only [if_true]
     rw [hI, g]
     simp only [if_true, if_pos (show ps.length ≤ 1000 by omega)]
     refine Ev.bind h1 ?_
     simp only [if_neg (show ¬ s'.budget < 0 by omega), hr.be, hr.le]; exact Ev.now _
theorem FnExactBestRenewal : PFnExactBestRenewal.Pure := by
 intro x0 cs lo mo wa gr b hx hc _ _ _ _ _
 obtain ⟨⟨_, hn, _⟩, _, hp, hw⟩ := hx
 obtain ⟨_, hcl, _⟩ := hc
 have hs : smallNet x0.f0 (x0.f1.map cvPipe) := ⟨by omega, by rw [List.length_map]; omega, fun i => by
  by_cases hi : i < (x0.f1.map cvPipe).length
  · rw [rdp_at _ i hi]
    simp only [List.getElem_map, cvPipe]
    have := (hw _ (List.getElem_mem (by simpa using hi))).1
    omega
  · unfold rd_T75
    rw [Int.toNat_natCast, List.getD_eq_getElem?_getD, List.getElem?_eq_none (by omega)]
    decide⟩
 obtain ⟨r, hz⟩ := szNet_ev x0.f0 x0.f1 1048576 (by omega)
 have ht := toNet_ev x0.f0 x0.f1 hn hp
 have hcs := toInts_ev cs hcl
 refine Ev.get ?_
 unfold laws_FnExactBestRenewal.f
 by_cases cl : (cs.length : Int) > 1048576
 · simp only [if_pos cl]; exact Ev.now _
 simp only [if_neg cl]
 refine Ev.bind hz ?_
 by_cases cz : r < 0
 · simp only [if_pos cz]; exact Ev.now _
 simp only [if_neg cz]
 obtain ⟨⟨q0, q1, q2⟩, h1, h2, hq⟩ := bothN_ev _ _ hs cs (by omega) lo mo wa gr b
 simp only at hq
 obtain ⟨ma, mb, hm⟩ := markNet_ev x0.f0 (x0.f1.map cvPipe) (by omega) (by rw [List.length_map]; omega)
 obtain ⟨mc, hm2⟩ := markIntsFrom_ev cs (1 + (x0.f0.length : Int) + 6 * ((x0.f1.map cvPipe).length : Int)) (by omega) (by rw [List.length_map]; omega) (by omega)
 refine Ev.bind ht (Ev.bind hcs (Ev.bind h1 (Ev.bind ht (Ev.bind hcs (Ev.bind h2 (Ev.bind (eqInts_ev q0 (by omega)) ?_))))))
 simp only [bne_self_eq_false, if_true]
 refine Ev.succ ?_
 simp only [laws_FnExactBestRenewal.j0, Bool.false_eq_true, if_false]
 refine Ev.bind ht (Ev.bind (eqNet_ev _ _ (by omega) (by rw [List.length_map]; omega)) ?_)
 simp only [if_true]
 refine Ev.bind hcs (Ev.bind (eqInts_ev cs (by omega)) ?_)
 simp only [if_true]
 refine Ev.bind hm (Ev.bind hm2 ?_)
 simp only [if_neg (show ¬ 1 + (x0.f0.length : Int) + 6 * ((x0.f1.map cvPipe).length : Int) + (cs.length : Int) < 0 by omega)]
 refine Ev.bind (eqInts_ev q0 (by omega)) ?_
 simp only [if_true, bne_self_eq_false]
 refine Ev.succ ?_
 simp only [laws_FnExactBestRenewal.j1, Bool.false_eq_true, if_false]
 refine Ev.bind (markInts_ev q0 (by omega)) (Ev.bind (heldInts_ev q0 (by omega)) ?_)
 simp only [if_neg (show ¬ (q0.length : Int) + 1 < 0 by omega), if_true]
 refine Ev.bind ht (Ev.bind hcs (Ev.bind h2 (Ev.bind (eqInts_ev q0 (by omega)) ?_)))
 simp only [if_true, bne_self_eq_false]
 refine Ev.succ ?_
 simp only [laws_FnExactBestRenewal.j2, Bool.false_eq_true, if_false]
 refine Ev.bind (heldInts_ev q0 (by omega)) ?_
 simp only [if_neg (show ¬ (q0.length : Int) + 1 < 0 by omega), if_true]
 exact Ev.now _
end Go.Proofs.Ytndbgkcjccejdaa.Pure
