/- The law FnSwitching, in numbers, texts and lists alone: orders that are found lead to the states without breaking a rule on the way, are no fewer than the switches that differ, and can be undone. No condition. -/
import Derived.Lib.LazyBuf
import Derived.Lib.ItoaNum
import Derived.Lib.Join
import Derived.Lib.Strings
import Derived.Lib.Split
import Derived.Test.YtffodlggihmonaaDoorQFnSwitching
import Derived.Test.YtffodlggihmonaaDoorVPLib
set_option linter.unusedVariables false
set_option linter.unusedSimpArgs false
namespace Go.Proofs.YtffodlggihmonaaDoor.PFnSwitching
open Go.RowKit Go.Proofs.YtffodlggihmonaaDoorW.PrintWords Go.Proofs.YtffodlggihmonaaDoorW.PLib
theorem within_eq (a b c : Int) : impl_within.f a b c = some (decide (b ≤ a) && decide (a ≤ c)) := by
 unfold impl_within.f; by_cases h : a ≥ b
 · rw [if_pos h]; simp [show b ≤ a from h]
 · rw [if_neg h]; simp [show ¬ b ≤ a from h]
theorem rd_at (xs : List Int) (i : Nat) (h : i < xs.length) : rd xs (i : Int) = xs[i] := by unfold rd; exact getD_cast xs i h _
theorem rdi_Rule (xs : List S51) (i : Nat) (h : i < xs.length) : rd_T51 xs (i : Int) = xs[i] := by unfold rd_T51; exact getD_cast xs i h _
abbrev RU := S51
def okR (m : Int) (r : RU) : Bool := (decide (1 ≤ r.f0) && decide (r.f0 ≤ 3)) && ((decide (0 ≤ r.f1) && decide (r.f1 ≤ m)) && ((decide (0 ≤ r.f2) && decide (r.f2 ≤ m)) && !decide (r.f1 = r.f2)))
def okRs (n : Int) (xs : List RU) (i : Nat) : Bool := if h : i < xs.length then okR (wrap64 (n - 1)) xs[i] else false
def validRules (n : Int) (xs : List RU) : Bool := allB (okRs n xs) xs.length && ((decide (1 ≤ n) && decide (n ≤ 8)) && decide ((xs.length : Int) ≤ 12))
theorem implRules_loop (n : Int) (xs : List RU) (hl : xs.length < 9223372036854775807) : Ev (fun k => impl_ValidRules.l0 k n xs xs.length 0) (allB (okRs n xs) xs.length && true) := by
 refine all_ev (fun k i => impl_ValidRules.l0 k n xs xs.length i) xs.length _ (okRs n xs) (fun i h => ⟨0, fun k _ => ?_⟩) ⟨0, fun k _ => ?_⟩
 · simp only [impl_ValidRules.l0]
   rw [if_pos (by omega), if_pos (by omega), if_pos (by omega)]
   rw [show okRs n xs i = okR (wrap64 (n - 1)) xs[i] from by unfold okRs; rw [dif_pos h]]
   simp only [within_eq, rdi_Rule xs i h, Option.bind_some, w64s (show i < 9223372036854775807 by omega), okR]
   by_cases c1 : (decide (1 ≤ xs[i].f0) && decide (xs[i].f0 ≤ 3)) = true
   · rw [if_pos c1]
     by_cases c2 : (decide (0 ≤ xs[i].f1) && decide (xs[i].f1 ≤ wrap64 (n - 1))) = true
     · rw [if_pos c2]
       by_cases c3 : (decide (0 ≤ xs[i].f2) && decide (xs[i].f2 ≤ wrap64 (n - 1))) = true
       · rw [if_pos c3]
         by_cases c4 : xs[i].f1 = xs[i].f2
         · rw [if_pos c4]; simp [c4]
         · rw [if_neg c4]; simp only [c1, c2, c3]; simp [c4]
       · rw [if_neg c3]; simp only [Bool.not_eq_true] at c3; simp only [c3]; simp
     · rw [if_neg c2]; simp only [Bool.not_eq_true] at c2; simp only [c2]; simp
   · rw [if_neg c1]; simp only [Bool.not_eq_true] at c1; simp only [c1]; simp
 · simp only [impl_ValidRules.l0]
   rw [if_neg (by omega)]
theorem implRules_ev (n : Int) (xs : List RU) (hl : xs.length < 9223372036854775807) : Ev (fun k => impl_ValidRules.f k n xs) (validRules n xs) := by
 obtain ⟨k0, h0⟩ := implRules_loop n xs hl
 refine ⟨k0 + 2, fun k hk => ?_⟩
 obtain ⟨k, rfl⟩ : ∃ m, k = m + 1 := ⟨k - 1, by omega⟩
 simp only [impl_ValidRules.f, within_eq, Option.bind_some]
 unfold validRules
 by_cases c : (decide (1 ≤ n) && decide (n ≤ 8)) = true
 · rw [if_pos c]
   simp only [impl_ValidRules.j0]
   by_cases c2 : (xs.length : Int) > 12
   · rw [if_pos (decide_eq_true c2)]
     rw [decide_eq_false (show ¬ (xs.length : Int) ≤ 12 by omega)]; simp
   · rw [if_neg (by simpa using c2), show impl_ValidRules.l0 k n xs (xs.length : Int) 0 = _ from h0 k (by omega)]
     rw [decide_eq_true (show (xs.length : Int) ≤ 12 by omega), c]; simp
 · rw [if_neg c]
   simp only [impl_ValidRules.j0]
   simp only [Bool.not_eq_true] at c
   simp [c]
theorem validRules_n {n : Int} {xs : List RU} (h : validRules n xs = true) : 1 ≤ n ∧ n ≤ 8 ∧ xs.length ≤ 12 := by
 unfold validRules at h
 simp only [Bool.and_eq_true, decide_eq_true_eq] at h
 exact ⟨h.2.1.1, h.2.1.2, by omega⟩
theorem validRules_at {n : Int} {xs : List RU} (h : validRules n xs = true) (i : Nat) (hi : i < xs.length) :
 (1 ≤ xs[i].f0 ∧ xs[i].f0 ≤ 3) ∧ (0 ≤ xs[i].f1 ∧ xs[i].f1 < n) ∧ (0 ≤ xs[i].f2 ∧ xs[i].f2 < n) ∧ xs[i].f1 ≠ xs[i].f2 := by
 have hn := validRules_n h
 unfold validRules at h
 simp only [Bool.and_eq_true] at h
 have := allB_true.1 h.1 i hi
 unfold okRs at this
 rw [dif_pos hi, w64 (by omega) (by omega)] at this
 unfold okR at this
 simp only [Bool.and_eq_true, decide_eq_true_eq, Bool.not_eq_true', decide_eq_false_iff_not] at this
 exact ⟨this.1, ⟨this.2.1.1, by omega⟩, ⟨this.2.2.1.1, by omega⟩, this.2.2.2⟩
theorem wr62 (n : Int) (h0 : 0 ≤ n) (h1 : n < 2 ^ 62) : IntKind.i64.wrap n = n := by rw [IntKind.wrap_i64]; omega
theorem tb (a i : Nat) (ha : a < 2 ^ 62) (hi : i ≤ 61) : Go.bits .and .i64 (shr .i64 (a : Int) (i : Int)) 1 = if a.testBit i = true then 1 else 0 := by
 have e : shr .i64 (a : Int) (i : Int) = ((a / 2 ^ i : Nat) : Int) := by
  unfold shr
  rw [show ((i : Int)).toNat = i by omega, show min i IntKind.i64.bits = i from Nat.min_eq_left (show i ≤ 64 by omega)]
  simp
 have h := (bits_nat .i64 62 (by decide) wr62 (a / 2 ^ i) 1 (Nat.lt_of_le_of_lt (Nat.div_le_self _ _) ha) (by decide)).1
 rw [e, show (1 : Int) = ((1 : Nat) : Int) from rfl, h, Nat.and_one_is_mod, Nat.testBit_eq_decide_div_mod_eq]
 by_cases c : a / 2 ^ i % 2 = 1
 · rw [if_pos (by simpa using c), c]
 · rw [if_neg (by simpa using c)]
   omega
theorem shl1 (i : Nat) (hi : i ≤ 61) : shl .i64 1 (i : Int) = ((2 ^ i : Nat) : Int) := by
 unfold shl
 rw [show ((i : Int)).toNat = i by omega, show min i IntKind.i64.bits = i from Nat.min_eq_left (show i ≤ 64 by omega), Int.one_mul]
 have h : (2 : Nat) ^ i < 2 ^ 62 := Nat.pow_lt_pow_right (by omega) (by omega)
 have h2 : ((2 ^ i : Nat) : Int) < 2 ^ 62 := by exact_mod_cast h
 rw [show (2 : Int) ^ i = ((2 ^ i : Nat) : Int) by simp]
 exact wr62 _ (Int.natCast_nonneg _) h2
def setN (xs : List Bool) : Nat → Nat
 | 0 => 0
 | i + 1 => if rdOf false xs (i : Int) = true then setN xs i ||| 2 ^ i else setN xs i
theorem setN_lt (xs : List Bool) : ∀ i, setN xs i < 2 ^ i
 | 0 => by simp [setN]
 | i + 1 => by
  have h := setN_lt xs i
  have h2 : (2 : Nat) ^ (i + 1) = 2 ^ i * 2 := Nat.pow_succ 2 i
  unfold setN
  split
  · exact Nat.or_lt_two_pow (by omega) (by have := Nat.two_pow_pos i; omega)
  · omega
theorem setN_bit (xs : List Bool) (j : Nat) : ∀ i, (setN xs i).testBit j = (decide (j < i) && rdOf false xs (j : Int))
 | 0 => by simp [setN]
 | i + 1 => by
  have h := setN_bit xs j i
  unfold setN
  by_cases e : j = i
  · subst e
    split
    · rename_i c; rw [Nat.testBit_or, Nat.testBit_two_pow_self, Bool.or_true, decide_eq_true (by omega), c]; rfl
    · rename_i c; rw [h, decide_eq_false (by omega)]; simp only [Bool.not_eq_true] at c; rw [c]; simp
  · split
    · rw [Nat.testBit_or, h, Nat.testBit_two_pow_of_ne (by omega), Bool.or_false]
      by_cases c : j < i
      · rw [decide_eq_true c, decide_eq_true (by omega)]
      · rw [decide_eq_false c, decide_eq_false (by omega)]
    · rw [h]
      by_cases c : j < i
      · rw [decide_eq_true c, decide_eq_true (by omega)]
      · rw [decide_eq_false c, decide_eq_false (by omega)]
theorem setN_lt62 (xs : List Bool) (i : Nat) (h : i ≤ 61) : setN xs i < 2 ^ 62 := Nat.lt_of_lt_of_le (setN_lt xs i) (Nat.pow_le_pow_right (by omega) (by omega))
theorem switchSet_ev (xs : List Bool) (hl : xs.length ≤ 61) : Ev (fun k => impl_switchSet.f k xs) ((setN xs xs.length : Nat) : Int) := by
 unfold impl_switchSet.f
 refine fold_from (fun k s i => impl_switchSet.l0 k s xs (xs.length : Int) i) 0 xs.length (fun i => ((setN xs i : Nat) : Int)) _ (Nat.zero_le _) (fun i _ hi r hr => Ev.succ ?_) (Ev.succ ?_)
 · simp only [impl_switchSet.l0, if_pos (show (i : Int) < (xs.length : Int) by omega), if_pos (show 0 ≤ (i : Int) by omega), w64s (show i < 9223372036854775807 by omega)]
   simp only [setN] at hr
   by_cases c : rdOf false xs (i : Int) = true
   · simp only [if_pos c] at hr ⊢
     have e := (bits_nat .i64 62 (by decide) wr62 (setN xs i) (2 ^ i) (setN_lt62 xs i (by omega)) (Nat.pow_lt_pow_right (by omega) (by omega))).2
     rw [shl1 i (by omega), e]
     exact hr
   · simp only [if_neg c] at hr ⊢
     exact hr
 · simp only [impl_switchSet.l0, if_neg (show ¬ (xs.length : Int) < (xs.length : Int) by omega)]; exact Ev.now _
def brk (kind : Int) (a b : Bool) : Bool := if kind = 1 then a && b else if kind = 2 then !a && !b else a && !b
theorem setN_at (xs : List Bool) (i : Int) (h1 : 0 ≤ i) (h2 : i < (xs.length : Int)) (hl : xs.length ≤ 61) :
 Go.bits .and .i64 (shr .i64 ((setN xs xs.length : Nat) : Int) i) 1 = if rdOf false xs i = true then 1 else 0 := by
 obtain ⟨n, rfl⟩ := Int.eq_ofNat_of_zero_le h1
 rw [tb _ n (setN_lt62 xs _ hl) (by omega), setN_bit, decide_eq_true (show n < xs.length by omega), Bool.true_and]
theorem implBreaks_eq (xs : List Bool) (kind i j : Int) (h1 : 0 ≤ i) (h2 : i < (xs.length : Int)) (h3 : 0 ≤ j) (h4 : j < (xs.length : Int)) (hl : xs.length ≤ 61) :
 impl_switches_breaks.f ((setN xs xs.length : Nat) : Int) kind i j = some (brk kind (rdOf false xs i) (rdOf false xs j)) := by
 unfold impl_switches_breaks.f brk
 rw [if_pos h1, if_pos h3, setN_at xs i h1 h2 hl, setN_at xs j h3 h4 hl]
 by_cases c1 : kind = 1
 · rw [if_pos c1, if_pos c1]; cases rdOf false xs i <;> cases rdOf false xs j <;> rfl
 · rw [if_neg c1, if_neg c1]
   by_cases c2 : kind = 2
   · rw [if_pos c2, if_pos c2]; cases rdOf false xs i <;> cases rdOf false xs j <;> rfl
   · rw [if_neg c2, if_neg c2]; cases rdOf false xs i <;> cases rdOf false xs j <;> rfl
theorem implBreaksN (m : Nat) (hm : m < 2 ^ 62) (kind i j : Int) (h1 : 0 ≤ i) (h2 : i ≤ 61) (h3 : 0 ≤ j) (h4 : j ≤ 61) :
 impl_switches_breaks.f (m : Int) kind i j = some (brk kind (m.testBit i.toNat) (m.testBit j.toNat)) := by
 obtain ⟨a, rfl⟩ := Int.eq_ofNat_of_zero_le h1
 obtain ⟨b, rfl⟩ := Int.eq_ofNat_of_zero_le h3
 unfold impl_switches_breaks.f brk
 rw [if_pos h1, if_pos h3, tb m a hm (by omega), tb m b hm (by omega)]
 simp only [Int.toNat_natCast]
 by_cases c1 : kind = 1
 · rw [if_pos c1, if_pos c1]; cases m.testBit a <;> cases m.testBit b <;> rfl
 · rw [if_neg c1, if_neg c1]
   by_cases c2 : kind = 2
   · rw [if_pos c2, if_pos c2]; cases m.testBit a <;> cases m.testBit b <;> rfl
   · rw [if_neg c2, if_neg c2]; cases m.testBit a <;> cases m.testBit b <;> rfl
def stN (n m : Nat) : List Bool := (List.range n).map fun j => m.testBit j
def badM (m : Nat) (rs : List RU) (i : Nat) : Bool := brk (rd_T51 rs (i : Int)).f0 (m.testBit (rd_T51 rs (i : Int)).f1.toNat) (m.testBit (rd_T51 rs (i : Int)).f2.toNat)
def okM (rs : List RU) (m : Nat) : Bool := allB (fun i => !(badM m rs i)) rs.length
theorem allowed_eq (rs : List RU) (n m : Nat) (h : validRules (n : Int) rs = true) (hm : m < 2 ^ 62) : impl_switches_allowed.f (m : Int) rs = some (okM rs m) := by
 have hn := validRules_n h
 have hb : ∀ i (hi : i < rs.length), impl_switches_breaks.f (m : Int) rs[i].f0 rs[i].f1 rs[i].f2 = some (badM m rs i) := fun i hi => by
  have ha := validRules_at h i hi
  rw [implBreaksN m hm _ _ _ ha.2.1.1 (by omega) ha.2.2.1.1 (by omega)]
  unfold badM
  rw [rdi_Rule rs i hi]
 unfold impl_switches_allowed.f
 rw [if_pos (by
  rw [List.all_eq_true]
  intro x hx
  obtain ⟨i, hi, rfl⟩ := List.getElem_of_mem hx
  rw [hb i hi]; rfl)]
 congr 1
 unfold okM
 rw [Bool.eq_iff_iff, allB_true]
 simp only [Bool.not_eq_true', List.any_eq_false]
 constructor
 · intro h2 i hi
   have := h2 rs[i] (List.getElem_mem hi)
   rw [hb i hi] at this
   simpa using this
 · intro h2 x hx
   obtain ⟨i, hi, rfl⟩ := List.getElem_of_mem hx
   rw [hb i hi]
   have := h2 i hi
   simpa using this
theorem bits_xorN (a b : Nat) (ha : a < 2 ^ 62) (hb : b < 2 ^ 62) : Go.bits .xor .i64 (a : Int) (b : Int) = ((a ^^^ b : Nat) : Int) := by
 have hp : (2 : Nat) ^ 62 ≤ 2 ^ IntKind.i64.bits := Nat.pow_le_pow_right (by decide) (show 62 ≤ 64 by omega)
 have ha' : a % 2 ^ IntKind.i64.bits = a := Nat.mod_eq_of_lt (Nat.lt_of_lt_of_le ha hp)
 have hb' : b % 2 ^ IntKind.i64.bits = b := Nat.mod_eq_of_lt (Nat.lt_of_lt_of_le hb hp)
 simp only [Go.bits, BitVec.ofInt_natCast, BitVec.toNat_xor, BitVec.toNat_ofNat, ha', hb']
 exact wr62 _ (Int.natCast_nonneg _) (by exact_mod_cast Nat.xor_lt_two_pow ha hb)
theorem pow62 {i : Nat} (hi : i ≤ 61) : (2 : Nat) ^ i < 2 ^ 62 := Nat.pow_lt_pow_right (by omega) (by omega)
theorem turn_eq (m i : Nat) (hm : m < 2 ^ 62) (hi : i ≤ 61) : Go.bits .xor .i64 (m : Int) (shl .i64 1 (i : Int)) = ((m ^^^ 2 ^ i : Nat) : Int) := by
 rw [shl1 i hi, bits_xorN m _ hm (pow62 hi)]
theorem turn_lt {m i : Nat} (hm : m < 2 ^ 62) (hi : i ≤ 61) : m ^^^ 2 ^ i < 2 ^ 62 := Nat.xor_lt_two_pow hm (pow62 hi)
theorem turn_bit (m i j : Nat) : (m ^^^ 2 ^ i).testBit j = if j = i then !m.testBit j else m.testBit j := by
 rw [Nat.testBit_xor]
 by_cases e : j = i
 · subst e; rw [if_pos rfl, Nat.testBit_two_pow_self]; cases m.testBit j <;> rfl
 · rw [if_neg e, Nat.testBit_two_pow_of_ne (by omega)]; cases m.testBit j <;> rfl
theorem stN_setN (xs : List Bool) : stN xs.length (setN xs xs.length) = xs := by
 apply List.ext_getElem
 · simp [stN]
 · intro j h1 h2
   simp only [stN, List.getElem_map, List.getElem_range]
   rw [setN_bit, decide_eq_true h2, rdOf_cast xs j h2]; rfl
def stI (n m i : Nat) : List Bool := (List.range n).map fun j => if j < i then m.testBit j else false
theorem stI_len (n m i : Nat) : (stI n m i).length = n := by simp [stI]
theorem stI_0 (n m : Nat) : stI n m 0 = List.replicate n false := by
 apply List.ext_getElem
 · simp [stI]
 · intro j h1 h2; simp [stI]
theorem stI_n (n m : Nat) : stI n m n = stN n m := by
 apply List.ext_getElem
 · simp [stI, stN]
 · intro j h1 h2
   have : j < n := by simpa [stI] using h1
   simp [stI, stN, this]
theorem stI_set (n m i : Nat) (h : i < n) : (stI n m i).set i (m.testBit i) = stI n m (i + 1) := by
 apply List.ext_getElem
 · simp [stI]
 · intro j h1 h2
   by_cases e : j = i
   · subst e
     rw [List.getElem_set_self]
     simp [stI]
   · rw [List.getElem_set_ne (by omega)]
     simp only [stI, List.getElem_map, List.getElem_range]
     by_cases d : j < i
     · rw [if_pos d, if_pos (by omega)]
     · rw [if_neg d, if_neg (by omega)]
def ordM (m i : Nat) : Int := if m.testBit i = true then -(i : Int) - 1 else (i : Int) + 1
theorem implOrder_eq (m i : Nat) (hm : m < 2 ^ 62) (hi : i ≤ 60) : impl_switches_order.f (m : Int) (i : Int) = some (ordM m i) := by
 unfold impl_switches_order.f ordM
 rw [if_pos (by omega), tb m i hm (by omega), w64 (x := -(i : Int)) (by omega) (by omega), w64 (x := -(i : Int) - 1) (by omega) (by omega), w64 (x := (i : Int) + 1) (by omega) (by omega)]
 cases m.testBit i <;> rfl
def inB (lo hi : Int) (xs : List Int) (i : Nat) : Bool := decide (lo ≤ rd xs (i : Int)) && decide (rd xs (i : Int) ≤ hi)
theorem all_rd (p : Int → Bool) (xs : List Int) : xs.all p = allB (fun i => p (rd xs (i : Int))) xs.length := by
 rw [Bool.eq_iff_iff, allB_true, List.all_eq_true]
 constructor
 · intro h i hi
   rw [rd_at xs i hi]
   exact h _ (List.getElem_mem hi)
 · intro h x hx
   obtain ⟨i, hi, rfl⟩ := List.getElem_of_mem hx
   have := h i hi
   rw [rd_at xs i hi] at this
   exact this
theorem allWithin_eq (xs : List Int) (lo hi : Int) : impl_allWithin.f xs lo hi = some (allB (inB lo hi xs) xs.length) := by
 unfold impl_allWithin.f
 rw [all_rd]
 rfl
def okO (xs : List Int) (i : Nat) : Bool := !decide (rd xs (i : Int) = 0) && (decide (-8 ≤ rd xs (i : Int)) && decide (rd xs (i : Int) ≤ 8))
def validOrders (xs : List Int) : Bool := allB (okO xs) xs.length && decide ((xs.length : Int) ≤ 24)
def noneOf (xs : List Int) (a : Int) : Bool := allB (fun i => !decide (a = rd xs (i : Int))) xs.length
theorem contains_ev (xs : List Int) (a : Int) (hl : xs.length < 9223372036854775807) : Ev (fun k => slices_Contains_int64_int64.f k xs a) (!(noneOf xs a)) := by
 unfold slices_Contains_int64_int64.f slices_Index_int64_int64.f
 have key := inv_evE (fun k (s : Unit) i => slices_Index_int64_int64.l0 k xs a (xs.length : Int) i) xs.length (fun i _ => ∀ j, j < i → ¬ a = rd xs (j : Int)) (fun r => decide (r ≥ 0) = !(noneOf xs a)) (fun i s hi h => ?_) (fun s h => ?_) xs.length 0 () (by omega) (fun j hj => absurd hj (Nat.not_lt_zero _))
 · obtain ⟨r, hp, h⟩ := key
   refine Ev.bind h ?_
   rw [← hp]
   exact Ev.now _
 · by_cases c : a = rd xs (i : Int)
   · refine .inl ⟨(i : Int), ?_, Ev.succ ?_⟩
     · rw [decide_eq_true (show (i : Int) ≥ 0 by omega)]
       have : ¬ noneOf xs a = true := fun h2 => by
        have := allB_true.1 h2 i hi
        simp [← c] at this
       simp only [Bool.not_eq_true] at this
       rw [this]; rfl
     · simp only [slices_Index_int64_int64.l0, if_pos (show (i : Int) < (xs.length : Int) by omega), if_pos (show 0 ≤ (i : Int) by omega), if_pos c]; exact Ev.now _
   · refine .inr ⟨(), fun j hj => ?_, fun r hr => Ev.succ ?_⟩
     · by_cases e : j = i
       · subst e; exact c
       · exact h j (by omega)
     · simp only [slices_Index_int64_int64.l0, if_pos (show (i : Int) < (xs.length : Int) by omega), if_pos (show 0 ≤ (i : Int) by omega), if_neg c, w64s (show i < 9223372036854775807 by omega)]; exact hr
 · refine ⟨-1, ?_, Ev.succ ?_⟩
   · have : noneOf xs a = true := by
      unfold noneOf
      rw [allB_true]
      intro i hi
      rw [decide_eq_false (h i hi)]; rfl
     rw [this]; rfl
   · simp only [slices_Index_int64_int64.l0, if_neg (show ¬ (xs.length : Int) < (xs.length : Int) by omega)]; exact Ev.now _
theorem validOrders_eq (xs : List Int) : validOrders xs = (decide ((xs.length : Int) ≤ 24) && (allB (inB (-8) 8 xs) xs.length && noneOf xs 0)) := by
 unfold validOrders noneOf
 rw [Bool.eq_iff_iff]
 simp only [Bool.and_eq_true, allB_true, okO, inB]
 constructor
 · rintro ⟨h1, h2⟩
   refine ⟨h2, fun i hi => (h1 i hi).2, fun i hi => ?_⟩
   have := (h1 i hi).1
   simp only [Bool.not_eq_true', decide_eq_false_iff_not] at this ⊢
   exact fun e => this e.symm
 · rintro ⟨h1, h2, h3⟩
   refine ⟨fun i hi => ⟨?_, h2 i hi⟩, h1⟩
   have := h3 i hi
   simp only [Bool.not_eq_true', decide_eq_false_iff_not] at this ⊢
   exact fun e => this e.symm
theorem implOrders_ev (xs : List Int) (hl : xs.length < 9223372036854775807) : Ev (fun k => impl_ordersOk.f k xs) (validOrders xs) := by
 unfold impl_ordersOk.f
 rw [validOrders_eq]
 by_cases c : (xs.length : Int) ≤ 24
 · simp only [if_pos c, allWithin_eq, Option.bind_some, decide_eq_true c, Bool.true_and]
   by_cases c2 : allB (inB (-8) 8 xs) xs.length = true
   · simp only [if_pos c2]
     refine Ev.bind (contains_ev xs 0 hl) ?_
     rw [c2, Bool.true_and, Bool.not_not]
     exact Ev.now _
   · simp only [if_neg c2]
     simp only [Bool.not_eq_true] at c2
     rw [c2]
     exact Ev.now _
 · simp only [if_neg c]
   rw [decide_eq_false c]
   exact Ev.now _
theorem validOrders_len {xs : List Int} (h : validOrders xs = true) : xs.length ≤ 24 := by
 unfold validOrders at h
 simp only [Bool.and_eq_true, decide_eq_true_eq] at h
 omega
def nat2 (L : List Nat) : List Int := L.map fun x : Nat => (x : Int)
theorem nat2_len (L : List Nat) : (nat2 L).length = L.length := by simp [nat2]
theorem nat2_snoc (L : List Nat) (x : Nat) : nat2 (L ++ [x]) = nat2 L ++ [(x : Int)] := by simp [nat2]
theorem nat2_rd (L : List Nat) (i : Nat) (h : i < L.length) : rd (nat2 L) (i : Int) = (L[i] : Int) := by
 unfold rd
 rw [getD_cast (nat2 L) i (by rw [nat2_len]; exact h)]
 simp [nat2]
theorem nodup_lenN : ∀ {l m : List Nat}, l.Nodup → (∀ x ∈ l, x ∈ m) → l.length ≤ m.length
 | [], m, _, _ => Nat.zero_le _
 | a :: l, m, h, hs => by
  have h1 := (List.nodup_cons.1 h)
  have ha := hs a List.mem_cons_self
  have := nodup_lenN (m := m.erase a) h1.2 (fun x hx => by
   have hne : x ≠ a := fun e => h1.1 (e ▸ hx)
   exact (List.mem_erase_of_ne hne).2 (hs x (List.mem_cons_of_mem _ hx)))
  rw [List.length_erase_of_mem ha] at this
  have hp : 0 < m.length := List.length_pos_of_mem ha
  simp only [List.length_cons]
  omega
theorem pow_le_256 {n : Nat} (hn : n ≤ 8) : 2 ^ n ≤ 256 := Nat.pow_le_pow_right (n := 2) (by omega) hn
theorem rd_set (F : List Int) (t x : Nat) (v : Int) (h : t < F.length) : rd (F.set t v) (x : Int) = if x = t then v else rd F (x : Int) := by
 unfold rd
 simp only [Int.toNat_natCast, List.getD_eq_getElem?_getD, List.getElem?_set]
 by_cases e : x = t
 · subst e; simp [h]
 · rw [if_neg (fun h => e h.symm), if_neg e]
theorem turn_turn (m i : Nat) : (m ^^^ 2 ^ i) ^^^ 2 ^ i = m := by rw [Nat.xor_assoc, Nat.xor_self, Nat.xor_zero]
structure FI (rs : List RU) (n g : Nat) (F : List Int) (L : List Nat) : Prop where
 len : F.length = 2 ^ n
 nodup : L.Nodup
 lt : ∀ x ∈ L, x < 2 ^ n
 mem : ∀ x : Nat, x < 2 ^ n → (0 ≤ rd F (x : Int) ↔ x ∈ L)
 zero : ∀ x ∈ L, rd F (x : Int) = 0 → x = g
 gmem : g ∈ L
 gzero : rd F (g : Int) = 0
 back : ∀ x ∈ L, x ≠ g → ∃ i, i < n ∧ okM rs (x ^^^ 2 ^ i) = true ∧ (x ^^^ 2 ^ i) ∈ L ∧ rd F ((x ^^^ 2 ^ i : Nat) : Int) = rd F (x : Int) - 1
 sorted : L.Pairwise fun a b : Nat => rd F (a : Int) ≤ rd F (b : Int)
 small : ∀ x ∈ L, rd F (x : Int) < (L.length : Int)
def Top (F : List Int) (L : List Nat) (top : Int) : Prop := ∀ x ∈ L, rd F (x : Int) ≤ top
def Clo (F : List Int) (L : List Nat) (m i : Nat) : Prop := (m ^^^ 2 ^ i) ∈ L ∧ rd F ((m ^^^ 2 ^ i : Nat) : Int) ≤ rd F (m : Int) + 1
structure Ext (F : List Int) (L : List Nat) (F' : List Int) (L' : List Nat) : Prop where
 pre : ∃ t, L' = L ++ t
 same : ∀ x ∈ L, rd F' (x : Int) = rd F (x : Int)
theorem Ext.mem {F F' : List Int} {L L' : List Nat} (h : Ext F L F' L') {x : Nat} (hx : x ∈ L) : x ∈ L' := by
 obtain ⟨t, rfl⟩ := h.pre
 exact List.mem_append_left _ hx
theorem Ext.clo {F F' : List Int} {L L' : List Nat} (h : Ext F L F' L') {m i : Nat} (hm : m ∈ L) (hc : Clo F L m i) : Clo F' L' m i :=
 ⟨h.mem hc.1, by rw [h.same _ hc.1, h.same _ hm]; exact hc.2⟩
theorem Ext.trans {F F' F2 : List Int} {L L' L2 : List Nat} (h : Ext F L F' L') (h2 : Ext F' L' F2 L2) : Ext F L F2 L2 := by
 obtain ⟨t, rfl⟩ := h.pre
 obtain ⟨t2, rfl⟩ := h2.pre
 exact ⟨⟨t ++ t2, by simp⟩, fun x hx => (h2.same x (List.mem_append_left _ hx)).trans (h.same x hx)⟩
theorem Ext.refl (F : List Int) (L : List Nat) : Ext F L F L := ⟨⟨[], by simp⟩, fun _ _ => rfl⟩
theorem Ext.at_ {F F' : List Int} {L L' : List Nat} (h : Ext F L F' L') (k : Nat) (hk : k < L.length) : ∃ hk' : k < L'.length, L'[k] = L[k] := by
 obtain ⟨t, rfl⟩ := h.pre
 exact ⟨by simp; omega, List.getElem_append_left hk⟩
def stepF (m : Nat) (s : List Int × List Nat) (i : Nat) : List Int × List Nat :=
 if rd s.1 ((m ^^^ 2 ^ i : Nat) : Int) < 0 then (s.1.set (m ^^^ 2 ^ i) (rd s.1 (m : Int) + 1), s.2 ++ [m ^^^ 2 ^ i]) else s
def rowF (m : Nat) (s : List Int × List Nat) : Nat → List Int × List Nat
 | 0 => s
 | i + 1 => stepF m (rowF m s i) i
theorem FI.ge {rs : List RU} {n g : Nat} {F : List Int} {L : List Nat} (h : FI rs n g F L) {x : Nat} (hx : x ∈ L) : 0 ≤ rd F (x : Int) := (h.mem x (h.lt x hx)).2 hx
theorem FI.leng {rs : List RU} {n g : Nat} {F : List Int} {L : List Nat} (h : FI rs n g F L) : L.length ≤ 2 ^ n := by
 have := nodup_lenN (m := List.range (2 ^ n)) h.nodup (fun x hx => List.mem_range.2 (h.lt x hx))
 rwa [List.length_range] at this
theorem stepF_ok {rs : List RU} {n g m i : Nat} {F : List Int} {L : List Nat} (h : FI rs n g F L) (ht : Top F L (rd F (m : Int) + 1)) (hm : m ∈ L) (hok : okM rs m = true) (hi : i < n) :
 FI rs n g (stepF m (F, L) i).1 (stepF m (F, L) i).2 ∧ Top (stepF m (F, L) i).1 (stepF m (F, L) i).2 (rd (stepF m (F, L) i).1 (m : Int) + 1) ∧ Ext F L (stepF m (F, L) i).1 (stepF m (F, L) i).2 ∧ Clo (stepF m (F, L) i).1 (stepF m (F, L) i).2 m i := by
 have htl : m ^^^ 2 ^ i < 2 ^ n := Nat.xor_lt_two_pow (h.lt m hm) (Nat.pow_lt_pow_right (by omega) hi)
 have htt := turn_turn m i
 unfold stepF
 by_cases c : rd F ((m ^^^ 2 ^ i : Nat) : Int) < 0
 · simp only [if_pos c]
   have htL : (m ^^^ 2 ^ i) ∉ L := fun e => by have := h.ge e; omega
   generalize hq : m ^^^ 2 ^ i = t at htl htt htL c
   have hset : ∀ x : Nat, rd (F.set t (rd F (m : Int) + 1)) (x : Int) = if x = t then rd F (m : Int) + 1 else rd F (x : Int) := fun x => rd_set F t x _ (by rw [h.len]; exact htl)
   have hsame : ∀ x ∈ L, rd (F.set t (rd F (m : Int) + 1)) (x : Int) = rd F (x : Int) := fun x hx => by rw [hset, if_neg (fun e : x = t => htL (e ▸ hx))]
   have hself : rd (F.set t (rd F (m : Int) + 1)) (t : Int) = rd F (m : Int) + 1 := by rw [hset, if_pos rfl]
   have hge := h.ge hm
   have hsm := h.small m hm
   refine ⟨⟨?_, ?_, ?_, ?_, ?_, ?_, ?_, ?_, ?_, ?_⟩, ?_, ⟨⟨[t], rfl⟩, hsame⟩, ?_⟩
   · rw [List.length_set]; exact h.len
   · rw [List.nodup_append]
     exact ⟨h.nodup, List.nodup_cons.2 ⟨by simp, List.nodup_nil⟩, fun a ha b hb => by
      rw [List.mem_singleton] at hb; subst hb
      exact fun e => htL (e ▸ ha)⟩
   · intro x hx
     rcases List.mem_append.1 hx with hx | hx
     · exact h.lt x hx
     · rw [List.mem_singleton] at hx; subst hx; exact htl
   · intro x hx
     rw [hset, List.mem_append, List.mem_singleton]
     by_cases e : x = t
     · rw [if_pos e]
       exact ⟨fun _ => .inr e, fun _ => by omega⟩
     · rw [if_neg e, h.mem x hx]
       exact ⟨.inl, fun h => h.resolve_right e⟩
   · intro x hx hz
     rcases List.mem_append.1 hx with hx | hx
     · rw [hsame x hx] at hz; exact h.zero x hx hz
     · rw [List.mem_singleton] at hx; subst hx
       rw [hself] at hz; omega
   · exact List.mem_append_left _ h.gmem
   · rw [hsame g h.gmem]; exact h.gzero
   · intro x hx hne
     rcases List.mem_append.1 hx with hx | hx
     · obtain ⟨j, h1, h2, h3, h4⟩ := h.back x hx hne
       exact ⟨j, h1, h2, List.mem_append_left _ h3, by rw [hsame _ h3, hsame x hx]; exact h4⟩
     · rw [List.mem_singleton] at hx; subst hx
       refine ⟨i, hi, ?_, ?_, ?_⟩
       · rw [htt]; exact hok
       · rw [htt]; exact List.mem_append_left _ hm
       · rw [htt, hself, hsame m hm]; omega
   · rw [List.pairwise_append]
     refine ⟨h.sorted.imp_of_mem (fun ha hb hab => by rw [hsame _ ha, hsame _ hb]; exact hab), List.pairwise_singleton _ _, fun a ha b hb => ?_⟩
     rw [List.mem_singleton] at hb; subst hb
     rw [hself, hsame a ha]; exact ht a ha
   · intro x hx
     rw [List.length_append, List.length_singleton]
     rcases List.mem_append.1 hx with hx | hx
     · have := h.small x hx
       rw [hsame x hx]; omega
     · rw [List.mem_singleton] at hx; subst hx
       rw [hself]; omega
   · intro x hx
     rw [hsame m hm]
     rcases List.mem_append.1 hx with hx | hx
     · rw [hsame x hx]; exact ht x hx
     · rw [List.mem_singleton] at hx; subst hx
       rw [hself]; exact Int.le_refl _
   · unfold Clo
     rw [hq]
     exact ⟨List.mem_append_right _ (by simp), by rw [hself, hsame m hm]; exact Int.le_refl _⟩
 · simp only [if_neg c]
   have hin := (h.mem _ htl).1 (by omega)
   exact ⟨h, ht, Ext.refl F L, hin, ht _ hin⟩
theorem rowF_ok {rs : List RU} {n g m : Nat} {F : List Int} {L : List Nat} (h : FI rs n g F L) (ht : Top F L (rd F (m : Int) + 1)) (hm : m ∈ L) (hok : okM rs m = true) :
 ∀ i, i ≤ n → FI rs n g (rowF m (F, L) i).1 (rowF m (F, L) i).2 ∧ Top (rowF m (F, L) i).1 (rowF m (F, L) i).2 (rd (rowF m (F, L) i).1 (m : Int) + 1) ∧ Ext F L (rowF m (F, L) i).1 (rowF m (F, L) i).2 ∧ ∀ j, j < i → Clo (rowF m (F, L) i).1 (rowF m (F, L) i).2 m j
 | 0, _ => ⟨h, ht, Ext.refl F L, fun j hj => absurd hj (Nat.not_lt_zero _)⟩
 | i + 1, hi => by
  obtain ⟨h1, h2, h3, h4⟩ := rowF_ok h ht hm hok i (by omega)
  obtain ⟨k1, k2, k3, k4⟩ := stepF_ok (i := i) h1 h2 (h3.mem hm) hok (by omega)
  refine ⟨k1, k2, h3.trans k3, fun j hj => ?_⟩
  by_cases e : j = i
  · subst e; exact k4
  · exact k3.clo (h3.mem hm) (h4 j (by omega))
def DI (rs : List RU) (n g : Nat) (F : List Int) (L : List Nat) (a : Nat) : Prop :=
 FI rs n g F L ∧ (∀ h : a < L.length, Top F L (rd F (L[a] : Int) + 1)) ∧ ∀ k (hk : k < L.length), k < a → okM rs L[k] = true → ∀ i, i < n → Clo F L L[k] i
def Dist (rs : List RU) (n g : Nat) (F : List Int) : Prop := ∃ L, FI rs n g F L ∧ ∀ x ∈ L, okM rs x = true → ∀ i, i < n → Clo F L x i
theorem DI.next {rs : List RU} {n g : Nat} {F F' : List Int} {L L' : List Nat} {a : Nat} (ha : a < L.length) (h : DI rs n g F L a) (hf : FI rs n g F' L') (ht : Top F' L' (rd F' (L[a] : Int) + 1)) (he : Ext F L F' L')
 (hc : okM rs L[a] = true → ∀ i, i < n → Clo F' L' L[a] i) : DI rs n g F' L' (a + 1) := by
 obtain ⟨ha', hea⟩ := he.at_ a ha
 refine ⟨hf, fun hn x hx => ?_, fun k hk hlt => ?_⟩
 · have h1 := ht x hx
   have h2 : rd F' ((L'[a] : Nat) : Int) ≤ rd F' ((L'[a + 1] : Nat) : Int) := List.pairwise_iff_getElem.1 hf.sorted a (a + 1) ha' hn (by omega)
   rw [hea] at h2
   omega
 · by_cases e : k = a
   · subst e
     intro h1 i hi
     rw [hea] at h1 ⊢
     exact hc h1 i hi
   · have hkL : k < L.length := by omega
     obtain ⟨_, hek⟩ := he.at_ k hkL
     intro h1 i hi
     rw [hek] at h1 ⊢
     exact he.clo (List.getElem_mem hkL) (h.2.2 k hkL (by omega) h1 i hi)
theorem DI.done {rs : List RU} {n g : Nat} {F : List Int} {L : List Nat} {a : Nat} (h : DI rs n g F L a) (ha : L.length ≤ a) : Dist rs n g F :=
 ⟨L, h.1, fun x hx hok i hi => by
  obtain ⟨k, hk, rfl⟩ := List.getElem_of_mem hx
  exact h.2.2 k hk (by omega) hok i hi⟩
def maj (a b c : Nat) : Nat := ((a &&& b) ||| (a &&& c)) ||| (b &&& c)
theorem maj_bit (a b c j : Nat) : (maj a b c).testBit j = ((a.testBit j && b.testBit j || a.testBit j && c.testBit j) || b.testBit j && c.testBit j) := by
 unfold maj
 rw [Nat.testBit_or, Nat.testBit_or, Nat.testBit_and, Nat.testBit_and, Nat.testBit_and]
theorem maj_aab (a b : Nat) : maj a a b = a := by
 apply Nat.eq_of_testBit_eq
 intro j
 rw [maj_bit]
 cases a.testBit j <;> cases b.testBit j <;> rfl
theorem maj_abb (a b : Nat) : maj a b b = b := by
 apply Nat.eq_of_testBit_eq
 intro j
 rw [maj_bit]
 cases a.testBit j <;> cases b.testBit j <;> rfl
theorem brk_maj (k : Int) (a1 a2 b1 b2 c1 c2 : Bool) (ha : brk k a1 a2 = false) (hb : brk k b1 b2 = false) (hc : brk k c1 c2 = false) :
 brk k ((a1 && b1 || a1 && c1) || b1 && c1) ((a2 && b2 || a2 && c2) || b2 && c2) = false := by
 unfold brk at *
 by_cases k1 : k = 1
 · simp only [if_pos k1] at *
   revert ha hb hc
   cases a1 <;> cases a2 <;> cases b1 <;> cases b2 <;> cases c1 <;> cases c2 <;> decide
 · by_cases k2 : k = 2
   · simp only [if_neg k1, if_pos k2] at *
     revert ha hb hc
     cases a1 <;> cases a2 <;> cases b1 <;> cases b2 <;> cases c1 <;> cases c2 <;> decide
   · simp only [if_neg k1, if_neg k2] at *
     revert ha hb hc
     cases a1 <;> cases a2 <;> cases b1 <;> cases b2 <;> cases c1 <;> cases c2 <;> decide
theorem ok_maj {rs : List RU} {a b c : Nat} (ha : okM rs a = true) (hb : okM rs b = true) (hc : okM rs c = true) : okM rs (maj a b c) = true := by
 unfold okM at *
 rw [allB_true] at *
 intro i hi
 have h1 := ha i hi
 have h2 := hb i hi
 have h3 := hc i hi
 unfold badM at *
 rw [Bool.not_eq_true'] at *
 rw [maj_bit, maj_bit]
 exact brk_maj _ _ _ _ _ _ _ h1 h2 h3
theorem maj_turn (y q g i : Nat) : maj y (q ^^^ 2 ^ i) g = maj y q g ∨ maj y (q ^^^ 2 ^ i) g = maj y q g ^^^ 2 ^ i := by
 by_cases c : (maj y (q ^^^ 2 ^ i) g).testBit i = (maj y q g).testBit i
 · left
   apply Nat.eq_of_testBit_eq
   intro j
   by_cases e : j = i
   · subst e; exact c
   · rw [maj_bit, maj_bit, turn_bit, if_neg e]
 · right
   apply Nat.eq_of_testBit_eq
   intro j
   rw [turn_bit]
   by_cases e : j = i
   · subst e
     rw [if_pos rfl]
     revert c
     cases (maj y (q ^^^ 2 ^ j) g).testBit j <;> cases (maj y q g).testBit j <;> simp
   · rw [if_neg e, maj_bit, maj_bit, turn_bit, if_neg e]
theorem Dist.maj_in {rs : List RU} {n g y : Nat} {F : List Int} {L : List Nat} (h : FI rs n g F L) (hcl : ∀ x ∈ L, okM rs x = true → ∀ i, i < n → Clo F L x i) (hg : okM rs g = true) (hy : okM rs y = true) :
 ∀ (d : Nat) (q : Nat), q ∈ L → rd F (q : Int) = (d : Int) → okM rs q = true → maj y q g ∈ L ∧ okM rs (maj y q g) = true := by
 intro d
 induction d with
 | zero =>
  intro q hq hd hok
  have := h.zero q hq (by omega)
  subst this
  rw [maj_abb]
  exact ⟨hq, hok⟩
 | succ d ih =>
  intro q hq hd hok
  have hne : q ≠ g := fun e => by rw [e, h.gzero] at hd; omega
  obtain ⟨i, hi, ho, hm, hr⟩ := h.back q hq hne
  obtain ⟨h1, h2⟩ := ih _ hm (by omega) ho
  have ho2 := ok_maj hy hok hg
  refine ⟨?_, ho2⟩
  rcases maj_turn y q g i with e | e
  · rw [← e]; exact h1
  · have := (hcl _ h1 h2 i hi).1
    rw [e, turn_turn] at this
    exact this
theorem Dist.nearer {rs : List RU} {n g y : Nat} {F : List Int} {L : List Nat} (h : FI rs n g F L) (hcl : ∀ x ∈ L, okM rs x = true → ∀ i, i < n → Clo F L x i) (hg : okM rs g = true) (hy : okM rs y = true) (hyg : y ≠ g) :
 ∀ (d : Nat) (q : Nat), q ∈ L → rd F (q : Int) = (d : Int) → okM rs q = true → maj y q g = y → ∃ i, i < n ∧ y.testBit i ≠ g.testBit i ∧ okM rs (y ^^^ 2 ^ i) = true ∧ (y ^^^ 2 ^ i) ∈ L := by
 intro d
 induction d with
 | zero =>
  intro q hq hd hok hm
  have := h.zero q hq (by omega)
  subst this
  rw [maj_abb] at hm
  exact absurd hm.symm hyg
 | succ d ih =>
  intro q hq hd hok hmq
  have hne : q ≠ g := fun e => by rw [e, h.gzero] at hd; omega
  obtain ⟨i, hi, ho, hm, hr⟩ := h.back q hq hne
  rcases maj_turn y q g i with e | e
  · exact ih _ hm (by omega) ho (e.trans hmq)
  · obtain ⟨h1, h2⟩ := Dist.maj_in h hcl hg hy d _ hm (by omega) ho
    rw [e, hmq] at h1 h2
    refine ⟨i, hi, fun eq => ?_, h2, h1⟩
    have hb : (maj y (q ^^^ 2 ^ i) g).testBit i = (y ^^^ 2 ^ i).testBit i := by rw [e, hmq]
    rw [maj_bit, turn_bit, if_pos rfl, turn_bit, if_pos rfl, ← eq] at hb
    revert hb
    cases y.testBit i <;> cases q.testBit i <;> simp
def ham (a b : Nat) : Nat → Nat
 | 0 => 0
 | i + 1 => ham a b i + if a.testBit i = b.testBit i then 0 else 1
theorem ham_le (a b : Nat) : ∀ i, ham a b i ≤ i
 | 0 => Nat.le_refl _
 | i + 1 => by
  have := ham_le a b i
  unfold ham
  split <;> omega
theorem ham_turn (a b j : Nat) (h : a.testBit j ≠ b.testBit j) : ∀ i, ham a b i = ham (a ^^^ 2 ^ j) b i + if j < i then 1 else 0
 | 0 => by simp [ham]
 | i + 1 => by
  have ih := ham_turn a b j h i
  unfold ham
  rw [turn_bit, ih]
  by_cases e : i = j
  · subst e
    rw [if_pos rfl, if_neg h, if_neg (Nat.lt_irrefl _), if_pos (Nat.lt_succ_self _), if_pos]
    revert h
    cases a.testBit i <;> cases b.testBit i <;> simp
  · rw [if_neg e]
    by_cases c : j < i
    · rw [if_pos c, if_pos (show j < i + 1 by omega)]; exact Nat.add_right_comm _ _ _
    · rw [if_neg c, if_neg (show ¬ j < i + 1 by omega)]; simp
theorem Dist.ham_ {rs : List RU} {n g : Nat} {F : List Int} {L : List Nat} (h : FI rs n g F L) (hcl : ∀ x ∈ L, okM rs x = true → ∀ i, i < n → Clo F L x i) (hg : okM rs g = true) :
 ∀ (d : Nat) (y : Nat), y ∈ L → okM rs y = true → ham y g n = d → rd F (y : Int) ≤ (d : Int) := by
 intro d
 induction d with
 | zero =>
  intro y hy hok hd
  by_cases e : y = g
  · subst e; rw [h.gzero]; exact Int.le_refl _
  · have hge := h.ge hy
    obtain ⟨i, hi, hb, _, _⟩ := Dist.nearer h hcl hg hok e (rd F (y : Int)).toNat y hy (by omega) hok (maj_aab y g)
    have := ham_turn y g i hb n
    rw [if_pos hi] at this
    omega
 | succ d ih =>
  intro y hy hok hd
  by_cases e : y = g
  · subst e; rw [h.gzero]; omega
  · have hge := h.ge hy
    obtain ⟨i, hi, hb, ho, hz⟩ := Dist.nearer h hcl hg hok e (rd F (y : Int)).toNat y hy (by omega) hok (maj_aab y g)
    have h1 := ham_turn y g i hb n
    rw [if_pos hi] at h1
    have h2 := ih _ hz ho (by omega)
    have h3 := (hcl _ hz ho i hi).2
    rw [turn_turn] at h3
    omega
theorem Dist.bound {rs : List RU} {n g x : Nat} {F : List Int} (h : Dist rs n g F) (hx : x < 2 ^ n) (h0 : 0 ≤ rd F (x : Int)) : rd F (x : Int) ≤ (n : Int) + 1 := by
 obtain ⟨L, hf, hcl⟩ := h
 have hxL := (hf.mem x hx).1 h0
 by_cases e : x = g
 · subst e; rw [hf.gzero]; omega
 · obtain ⟨i, hi, ho, hm, hr⟩ := hf.back x hxL e
   -- the end is allowed, or else the step before is the end
   by_cases hg : okM rs g = true
   · have h1 := Dist.ham_ hf hcl hg _ _ hm ho rfl
     have h2 := ham_le (x ^^^ 2 ^ i) g n
     omega
   · by_cases e2 : x ^^^ 2 ^ i = g
     · rw [e2] at ho; exact absurd ho hg
     · -- an allowed state's chain ends in an allowed one
       have key : ∀ (d : Nat) (q : Nat), q ∈ L → rd F (q : Int) = (d : Int) → okM rs q = true → okM rs g = true := by
        intro d
        induction d with
        | zero =>
         intro q hq hd hok
         have := hf.zero q hq (by omega)
         rwa [← this]
        | succ d ih =>
         intro q hq hd hok
         have hne : q ≠ g := fun e => by rw [e, hf.gzero] at hd; omega
         obtain ⟨j, hj, ho', hm', hr'⟩ := hf.back q hq hne
         exact ih _ hm' (by omega) ho'
       have hge := hf.ge hm
       exact absurd (key (rd F ((x ^^^ 2 ^ i : Nat) : Int)).toNat _ hm (by omega) ho) hg
def farF (rs : List RU) (n : Nat) (F : List Int) (L : List Nat) (a : Nat) : Nat → List Int
 | 0 => F
 | d + 1 => if h : a < L.length then (if okM rs L[a] = true then farF rs n (rowF L[a] (F, L) n).1 (rowF L[a] (F, L) n).2 (a + 1) d else farF rs n F L (a + 1) d) else F
theorem farF_dist (rs : List RU) (n g : Nat) : ∀ d a F L, DI rs n g F L a → a ≤ L.length → 2 ^ n < a + d → Dist rs n g (farF rs n F L a d) := by
 intro d
 induction d with
 | zero => intro a F L hg hat hd; have := hg.1.leng; omega
 | succ d ih =>
  intro a F L hg hat hd
  unfold farF
  by_cases ca : a < L.length
  · simp only [dif_pos ca]
    have hmL := List.getElem_mem ca
    by_cases ho : okM rs L[a] = true
    · simp only [if_pos ho]
      obtain ⟨r1, r2, r3, r4⟩ := rowF_ok hg.1 (hg.2.1 ca) hmL ho n (Nat.le_refl _)
      have := (r3.at_ a ca).1
      exact ih (a + 1) _ _ (DI.next ca hg r1 r2 r3 (fun _ => r4)) (by omega) (by omega)
    · simp only [if_neg ho]
      exact ih (a + 1) F L (DI.next ca hg hg.1 (hg.2.1 ca) (Ext.refl F L) (fun h => absurd h ho)) (by omega) (by omega)
  · simp only [dif_neg ca]
    exact hg.done (by omega)
theorem far_impl (rs : List RU) (n g : Nat) (c : validRules (n : Int) rs = true) :
 ∀ d a F L, DI rs n g F L a → a ≤ L.length → 2 ^ n < a + d → Ev (fun k => impl_distancesTo.l0 k (n : Int) rs F (nat2 (L.drop a))) (farF rs n F L a d) := by
 have hn := validRules_n c
 have hp := pow_le_256 (n := n) (by omega)
 intro d
 induction d with
 | zero => intro a F L hg hat hd; have := hg.1.leng; omega
 | succ d ih =>
  intro a F L hg hat hd
  have hlen := hg.1.leng
  unfold farF
  have hdl : (nat2 (L.drop a)).length = L.length - a := by rw [nat2_len, List.length_drop]
  by_cases ca : a < L.length
  · simp only [dif_pos ca]
    have hm := hg.1.lt _ (List.getElem_mem ca)
    have hmL := List.getElem_mem ca
    have ht := hg.2.1 ca
    have hnx := fun (F' : List Int) (L' : List Nat) => DI.next (rs := rs) (n := n) (g := g) (F' := F') (L' := L') ca hg
    have hrd : ∀ M : List Nat, (∃ h : a < M.length, M[a] = L[a]) → rd (nat2 (M.drop a)) 0 = (L[a] : Int) := fun M ⟨h, e⟩ => by
     have := nat2_rd (M.drop a) 0 (by rw [List.length_drop]; omega)
     rw [show ((0 : Nat) : Int) = 0 from rfl] at this
     rw [this, List.getElem_drop]
     simp only [Nat.add_zero, e]
    have hdr : ∀ M : List Nat, (nat2 (M.drop a)).drop (1 : Int).toNat = nat2 (M.drop (a + 1)) := fun M => by
     unfold nat2
     rw [show (1 : Int).toNat = 1 from rfl, ← List.map_drop, List.drop_drop]
    generalize hmm : L[a] = m at hm hmL ht hnx hrd
    have hm62 : m < 2 ^ 62 := Nat.lt_of_lt_of_le hm (Nat.pow_le_pow_right (by omega) (by omega))
    have h0 := hrd L ⟨ca, hmm⟩
    refine Ev.succ ?_
    simp only [impl_distancesTo.l0, hdl, if_pos (show ((L.length - a : Nat) : Int) > 0 by omega)]
    by_cases ho : okM rs m = true
    · simp only [if_pos ho]
      obtain ⟨r1, r2, r3, r4⟩ := rowF_ok hg.1 ht hmL ho n (Nat.le_refl _)
      have hnx' := hnx _ _ r1 r2 r3 (fun _ => r4)
      have hlt' : a < (rowF m (F, L) n).2.length := (r3.at_ a ca).1
      have ih' := ih (a + 1) _ _ hnx' (by omega) (by omega)
      refine fold_from (fun k (s : List Int × List Nat) i => impl_distancesTo.l1 k (n : Int) rs s.1 (nat2 (s.2.drop a)) i) 0 n (fun i => rowF m (F, L) i) _ (Nat.zero_le _) (fun i _ hi q hq => Ev.succ ?_) (Ev.succ ?_)
      · obtain ⟨q1, q2, q3, q4⟩ := rowF_ok hg.1 ht hmL ho i (by omega)
        have hat_ := q3.at_ a ca
        have hti : m ^^^ 2 ^ i < 2 ^ n := Nat.xor_lt_two_pow hm (Nat.pow_lt_pow_right (by omega) hi)
        have hq : Ev (fun k => impl_distancesTo.l1 k (n : Int) rs (stepF m (rowF m (F, L) i) i).1 (nat2 ((stepF m (rowF m (F, L) i) i).2.drop a)) ((i + 1 : Nat) : Int)) q := hq
        generalize rowF m (F, L) i = M at q1 q2 q3 q4 hat_ hq ⊢
        have hrd2 := hrd M.2 ⟨hat_.1, hat_.2.trans hmm⟩
        have hal := hat_.1
        have hmM : m ∈ M.2 := q3.mem hmL
        have hge := q1.ge hmM
        have hsm := q1.small m hmM
        have hlg := q1.leng
        have hFl := q1.len
        have hMl : (nat2 (M.2.drop a)).length = M.2.length - a := by rw [nat2_len, List.length_drop]
        simp only [impl_distancesTo.l1, if_pos (show (i : Int) < (n : Int) by omega), hMl, if_pos (show 0 < ((M.2.length - a : Nat) : Int) by omega), hrd2, allowed_eq rs n m c hm62, ho, Option.bind_some]
        refine Ev.succ ?_
        simp only [impl_distancesTo.j2, if_true, hMl, if_pos (show 0 < ((M.2.length - a : Nat) : Int) by omega), hrd2, if_pos (show 0 ≤ (i : Int) by omega), turn_eq m i hm62 (by omega), if_pos (show 0 ≤ ((m ^^^ 2 ^ i : Nat) : Int) by omega), hFl, if_pos (show ((m ^^^ 2 ^ i : Nat) : Int) < ((2 ^ n : Nat) : Int) by omega), w64s (show i < 9223372036854775807 by omega)]
        unfold stepF at hq
        by_cases c2 : rd M.1 ((m ^^^ 2 ^ i : Nat) : Int) < 0
        · simp only [if_pos c2, List.drop_append_of_le_length (Nat.le_of_lt hal), nat2_snoc] at hq
          simp only [if_pos c2, if_pos (show 0 ≤ (m : Int) by omega), if_pos (show (m : Int) < ((2 ^ n : Nat) : Int) by omega), if_pos (show M.2.length - a < 17592186044416 by omega), Int.toNat_natCast, w64 (x := rd M.1 (m : Int) + 1) (by omega) (by omega)]
          exact hq
        · simp only [if_neg c2] at hq ⊢
          exact hq
      · have hMl : (nat2 ((rowF m (F, L) n).2.drop a)).length = (rowF m (F, L) n).2.length - a := by rw [nat2_len, List.length_drop]
        simp only [impl_distancesTo.l1, if_neg (show ¬ (n : Int) < (n : Int) by omega)]
        refine Ev.succ ?_
        simp only [impl_distancesTo.j2, Bool.false_eq_true, if_false, hMl, if_pos (show 1 ≤ (((rowF m (F, L) n).2.length - a : Nat) : Int) by omega), hdr]
        exact ih'
    · simp only [if_neg ho]
      refine Ev.succ ?_
      have hof : okM rs m = false := by simpa using ho
      simp only [impl_distancesTo.l1, if_pos (show (0 : Int) < (n : Int) by omega), hdl, if_pos (show 0 < ((L.length - a : Nat) : Int) by omega), h0, allowed_eq rs n m c hm62, hof, Option.bind_some]
      refine Ev.succ ?_
      simp only [impl_distancesTo.j2, Bool.false_eq_true, if_false, hdl, if_pos (show 1 ≤ ((L.length - a : Nat) : Int) by omega), hdr]
      exact ih (a + 1) F L (hnx _ _ hg.1 ht (Ext.refl F L) (fun h => absurd h ho)) (by omega) (by omega)
  · simp only [dif_neg ca]
    refine Ev.succ ?_
    simp only [impl_distancesTo.l0, hdl, if_neg (show ¬ ((L.length - a : Nat) : Int) > 0 by omega)]
    exact Ev.now _
theorem DI.begin {rs : List RU} {n g : Nat} (hg : g < 2 ^ n) : DI rs n g ((List.replicate (2 ^ n) (-1 : Int)).set g 0) [g] 0 := by
 have hr : ∀ x : Nat, x < 2 ^ n → rd ((List.replicate (2 ^ n) (-1 : Int)).set g 0) (x : Int) = if x = g then 0 else -1 := fun x hx => by
  rw [rd_set _ _ _ _ (by simpa using hg)]
  by_cases e : x = g
  · rw [if_pos e, if_pos e]
  · rw [if_neg e, if_neg e]
    unfold rd
    simp [List.getD_eq_getElem?_getD, hx]
 have hgg := hr g hg
 rw [if_pos rfl] at hgg
 refine ⟨⟨by simp, by simp, fun x hx => ?_, fun x hx => ?_, fun x hx _ => by simpa using hx, by simp, hgg, fun x hx hne => absurd (by simpa using hx) hne, List.pairwise_singleton _ _, fun x hx => ?_⟩, fun h x hx => ?_, fun k hk hlt => absurd hlt (Nat.not_lt_zero _)⟩
 · rw [List.mem_singleton] at hx; subst hx; exact hg
 · rw [hr x hx, List.mem_singleton]
   by_cases e : x = g
   · rw [if_pos e]; exact ⟨fun _ => e, fun _ => Int.le_refl _⟩
   · rw [if_neg e]; exact ⟨fun h => absurd h (by omega), fun h => absurd h e⟩
 · rw [List.mem_singleton] at hx; subst hx
   rw [hgg]; simp
 · rw [List.mem_singleton] at hx; subst hx
   show rd _ (x : Int) ≤ rd _ (x : Int) + 1
   omega
def farOf (rs : List RU) (n g : Nat) : List Int := farF rs n ((List.replicate (2 ^ n) (-1 : Int)).set g 0) [g] 0 (2 ^ n + 1)
theorem farOf_dist (rs : List RU) (n g : Nat) (hg : g < 2 ^ n) : Dist rs n g (farOf rs n g) := farF_dist rs n g _ _ _ _ (DI.begin hg) (Nat.zero_le _) (by omega)
theorem mul_pow (n : Nat) (hn : n ≤ 8) : bits_Mul.f 1 ((2 ^ n : Nat) : Int) = some (0, ((2 ^ n : Nat) : Int)) := by
 have : n = 0 ∨ n = 1 ∨ n = 2 ∨ n = 3 ∨ n = 4 ∨ n = 5 ∨ n = 6 ∨ n = 7 ∨ n = 8 := by omega
 rcases this with rfl | rfl | rfl | rfl | rfl | rfl | rfl | rfl | rfl <;> decide
theorem repeat_eq (n : Nat) (hn : n ≤ 8) : slices_Repeat_int_int.f ([(-1)] : List Int) ((2 ^ n : Nat) : Int) = some (List.replicate (2 ^ n) (-1)) := by
 have hp := pow_le_256 (n := n) (by omega)
 have hp0 := Nat.two_pow_pos n
 unfold slices_Repeat_int_int.f
 rw [if_pos ⟨rfl, by omega, by omega, mul_pow n hn⟩, Int.toNat_natCast]
 rfl
theorem distancesTo_ev (rs : List RU) (n g : Nat) (c : validRules (n : Int) rs = true) (hg : g < 2 ^ n) : Ev (fun k => impl_distancesTo.f k (g : Int) (n : Int) rs) (farOf rs n g) := by
 have hn := validRules_n c
 have hp := pow_le_256 (n := n) (by omega)
 unfold impl_distancesTo.f
 simp only [shl1 n (by omega), if_pos (show 0 ≤ (n : Int) by omega), repeat_eq n (by omega), Option.bind_some, Int.toNat_natCast, if_pos (show 0 ≤ (g : Int) by omega), List.length_replicate, if_pos (show (g : Int) < ((2 ^ n : Nat) : Int) by omega)]
 exact far_impl rs n g c (2 ^ n + 1) 0 _ [g] (DI.begin hg) (Nat.zero_le _) (by omega)
theorem ordM_ne (m i : Nat) : ordM m i ≠ 0 := by unfold ordM; split <;> omega
theorem ordM_abs (m i : Nat) : (ordM m i).natAbs = i + 1 := by unfold ordM; split <;> omega
theorem ordM_le (m i n : Nat) (hi : i < n) : ordM m i ≤ (n : Int) := by unfold ordM; split <;> omega
def cond (rs : List RU) (F : List Int) (m i : Nat) : Bool := decide (rd F ((m ^^^ 2 ^ i : Nat) : Int) = rd F (m : Int) - 1) && okM rs (m ^^^ 2 ^ i)
def pick (rs : List RU) (F : List Int) (m : Nat) : Nat → Int
 | 0 => 0
 | i + 1 => if cond rs F m i = true then (if pick rs F m i = 0 then ordM m i else if ordM m i < pick rs F m i then ordM m i else pick rs F m i) else pick rs F m i
theorem pick_ok (rs : List RU) (F : List Int) (m : Nat) : ∀ i, (pick rs F m i = 0 ∧ ∀ j, j < i → cond rs F m j = false) ∨ ∃ j, j < i ∧ cond rs F m j = true ∧ pick rs F m i = ordM m j
 | 0 => .inl ⟨rfl, fun j hj => absurd hj (Nat.not_lt_zero _)⟩
 | i + 1 => by
  have ih := pick_ok rs F m i
  unfold pick
  by_cases c : cond rs F m i = true
  · rw [if_pos c]
    right
    rcases ih with ⟨h1, h2⟩ | ⟨j, h1, h2, h3⟩
    · rw [if_pos h1]; exact ⟨i, Nat.lt_succ_self _, c, rfl⟩
    · have hne : pick rs F m i ≠ 0 := by rw [h3]; exact ordM_ne m j
      rw [if_neg hne]
      split
      · exact ⟨i, Nat.lt_succ_self _, c, rfl⟩
      · exact ⟨j, by omega, h2, h3⟩
  · rw [if_neg c]
    rcases ih with ⟨h1, h2⟩ | ⟨j, h1, h2, h3⟩
    · left
      refine ⟨h1, fun j hj => ?_⟩
      by_cases e : j = i
      · subst e; simpa using c
      · exact h2 j (by omega)
    · exact .inr ⟨j, by omega, h2, h3⟩
theorem Dist.step {rs : List RU} {n g m : Nat} {F : List Int} (h : Dist rs n g F) (hm : m < 2 ^ n) (hp : 0 < rd F (m : Int)) : ∃ i, i < n ∧ cond rs F m i = true := by
 obtain ⟨L, hf, _⟩ := h
 have hmL := (hf.mem m hm).1 (by omega)
 obtain ⟨i, h1, h2, h3, h4⟩ := hf.back m hmL (fun e => by rw [e, hf.gzero] at hp; omega)
 exact ⟨i, h1, by unfold cond; rw [h2, decide_eq_true h4]; rfl⟩
theorem Dist.pick_ {rs : List RU} {n g m : Nat} {F : List Int} (h : Dist rs n g F) (hm : m < 2 ^ n) (hp : 0 < rd F (m : Int)) : ∃ j, j < n ∧ cond rs F m j = true ∧ pick rs F m n = ordM m j := by
 obtain ⟨i, hi, hc⟩ := h.step hm hp
 rcases pick_ok rs F m n with ⟨_, h2⟩ | h
 · rw [h2 i hi] at hc; cases hc
 · exact h
def way (rs : List RU) (F : List Int) (n : Nat) : Nat → Nat → List Int
 | 0, _ => []
 | d + 1, m => pick rs F m n :: way rs F n d (m ^^^ 2 ^ ((pick rs F m n).natAbs - 1))
theorem way_len (rs : List RU) (F : List Int) (n : Nat) : ∀ d m, (way rs F n d m).length = d
 | 0, _ => rfl
 | d + 1, m => by simp [way, way_len rs F n d]
theorem Dist.pick_lt {rs : List RU} {n g m : Nat} {F : List Int} (h : Dist rs n g F) (hm : m < 2 ^ n) {d : Nat} (hd : rd F (m : Int) = ((d + 1 : Nat) : Int)) :
 ∃ j, j < n ∧ pick rs F m n = ordM m j ∧ (pick rs F m n).natAbs - 1 = j ∧ m ^^^ 2 ^ j < 2 ^ n ∧ okM rs (m ^^^ 2 ^ j) = true ∧ rd F ((m ^^^ 2 ^ j : Nat) : Int) = (d : Int) := by
 obtain ⟨j, h1, h2, h3⟩ := h.pick_ hm (by omega)
 unfold cond at h2
 simp only [Bool.and_eq_true, decide_eq_true_eq] at h2
 refine ⟨j, h1, h3, by rw [h3, ordM_abs]; omega, Nat.xor_lt_two_pow hm (Nat.pow_lt_pow_right (by omega) h1), h2.2, by omega⟩
theorem way_impl (rs : List RU) (n g : Nat) (F : List Int) (c : validRules (n : Int) rs = true) (h : Dist rs n g F) (x0 : List Bool) (hx0 : x0.length = n) :
 ∀ (d m : Nat) (out : List Int), m < 2 ^ n → rd F (m : Int) = (d : Int) → out.length + d ≤ 1000 → Ev (fun k => impl_ShortestOrders.l0 k x0 rs (m : Int) (g : Int) F out) (out ++ way rs F n d m, 0) := by
 have hn := validRules_n c
 have hp := pow_le_256 (n := n) (by omega)
 obtain ⟨L, hf, hcl⟩ := h
 have hFl := hf.len
 intro d
 induction d with
 | zero =>
  intro m out hm hd ho
  have : m = g := hf.zero m ((hf.mem m hm).1 (by omega)) (by omega)
  subst this
  refine Ev.succ ?_
  simp only [impl_ShortestOrders.l0, if_true, way, List.append_nil]
  exact Ev.now _
 | succ d ih =>
  intro m out hm hd ho
  have hm62 : m < 2 ^ 62 := Nat.lt_of_lt_of_le hm (Nat.pow_le_pow_right (by omega) (by omega))
  obtain ⟨j, hj, hpj, hpa, hjm, hjo, hjd⟩ := Dist.pick_lt ⟨L, hf, hcl⟩ hm hd
  have hne : ¬ (m : Int) = (g : Int) := fun e => by
   have : m = g := by omega
   rw [this, hf.gzero] at hd; omega
  have ih' := ih (m ^^^ 2 ^ j) (out ++ [pick rs F m n]) hjm hjd (by simp; omega)
  have e1 : out ++ way rs F n (d + 1) m = (out ++ [pick rs F m n]) ++ way rs F n d (m ^^^ 2 ^ j) := by simp only [way, hpa, List.append_assoc, List.singleton_append]
  rw [e1]
  have hpl : pick rs F m n ≤ (n : Int) := by rw [hpj]; exact ordM_le m j n hj
  have hpn : pick rs F m n ≠ 0 := by rw [hpj]; exact ordM_ne m j
  refine Ev.succ ?_
  simp only [impl_ShortestOrders.l0, if_neg hne, hx0]
  refine fold_from (fun k s i => impl_ShortestOrders.l1 k x0 rs (m : Int) (g : Int) F out s (n : Int) i) 0 n (fun i => if pick rs F m i = 0 then 9 else pick rs F m i) _ (Nat.zero_le _) (fun i _ hi q hq => Ev.succ ?_) (Ev.succ ?_)
  · have hti : m ^^^ 2 ^ i < 2 ^ n := Nat.xor_lt_two_pow hm (Nat.pow_lt_pow_right (by omega) hi)
    have hol := ordM_le m i n hi
    have hon := ordM_ne m i
    simp only [impl_ShortestOrders.l1, if_pos (show (i : Int) < (n : Int) by omega), if_pos (show 0 ≤ (i : Int) by omega), turn_eq m i hm62 (by omega), allowed_eq rs n _ c (turn_lt hm62 (show i ≤ 61 by omega)), Option.bind_some, if_pos (show 0 ≤ ((m ^^^ 2 ^ i : Nat) : Int) by omega), hFl, if_pos (show ((m ^^^ 2 ^ i : Nat) : Int) < ((2 ^ n : Nat) : Int) by omega), if_pos (show 0 ≤ (m : Int) by omega), if_pos (show (m : Int) < ((2 ^ n : Nat) : Int) by omega), implOrder_eq m i hm62 (by omega), w64s (show i < 9223372036854775807 by omega), hd, w64 (x := ((d + 1 : Nat) : Int) - 1) (by omega) (by omega)]
    unfold pick cond at hq
    simp only [hd] at hq
    by_cases c1 : okM rs (m ^^^ 2 ^ i) = true
    · by_cases c2 : rd F ((m ^^^ 2 ^ i : Nat) : Int) = ((d + 1 : Nat) : Int) - 1
      · simp only [c1, c2, decide_true, Bool.and_self, if_true] at hq
        simp only [c1, c2, if_true]
        by_cases c3 : pick rs F m i = 0
        · simp only [if_pos c3, if_neg hon] at hq
          simp only [if_pos c3]
          rw [show mn 9 (ordM m i) = ordM m i by unfold mn; omega]
          exact hq
        · simp only [if_neg c3] at hq ⊢
          by_cases c4 : ordM m i < pick rs F m i
          · simp only [if_pos c4, if_neg hon] at hq
            rw [show mn (pick rs F m i) (ordM m i) = ordM m i by unfold mn; omega]
            exact hq
          · simp only [if_neg c4, if_neg c3] at hq
            rw [show mn (pick rs F m i) (ordM m i) = pick rs F m i by unfold mn; omega]
            exact hq
      · simp only [c1, decide_eq_false c2, Bool.false_and, Bool.false_eq_true, if_false] at hq
        simp only [c1, if_true, if_neg c2]
        exact hq
    · simp only [Bool.not_eq_true] at c1
      simp only [c1, Bool.and_false, Bool.false_eq_true, if_false] at hq ⊢
      exact hq
  · have ha : impl_abs.f (pick rs F m n) = some ((j + 1 : Nat) : Int) := by
     unfold impl_abs.f
     rw [hpj, w64 (x := -ordM m j) (by unfold ordM; split <;> omega) (by unfold ordM; split <;> omega)]
     congr 1
     unfold mx ordM
     split <;> omega
    simp only [impl_ShortestOrders.l1, if_neg (show ¬ (n : Int) < (n : Int) by omega), if_neg hpn, if_pos (show out.length < 17592186044416 by omega), ha, Option.bind_some, show ((j + 1 : Nat) : Int) - 1 = (j : Int) by omega, w64 (x := (j : Int)) (by omega) (by omega), if_pos (show 0 ≤ (j : Int) by omega), turn_eq m j hm62 (by omega)]
    exact ih'
namespace SO
def res (xs ys : List Bool) (rs : List RU) : List Int × Int :=
 if validRules (xs.length : Int) rs = true then (if xs.length = ys.length then (if rd (farOf rs xs.length (setN ys ys.length)) ((setN xs xs.length : Nat) : Int) < 0 then ([], 3) else (way rs (farOf rs xs.length (setN ys ys.length)) xs.length (rd (farOf rs xs.length (setN ys ys.length)) ((setN xs xs.length : Nat) : Int)).toNat (setN xs xs.length), 0)) else ([], 7)) else ([], 1)
theorem far_bd (xs ys : List Bool) (rs : List RU) (c : validRules (xs.length : Int) rs = true) (he : xs.length = ys.length) : Dist rs xs.length (setN ys ys.length) (farOf rs xs.length (setN ys ys.length)) ∧ (¬ rd (farOf rs xs.length (setN ys ys.length)) ((setN xs xs.length : Nat) : Int) < 0 → rd (farOf rs xs.length (setN ys ys.length)) ((setN xs xs.length : Nat) : Int) ≤ 9) := by
 have hn := validRules_n c
 have hy := setN_lt ys ys.length
 rw [← he] at hy ⊢
 have h := farOf_dist rs xs.length (setN ys xs.length) hy
 refine ⟨h, fun h0 => ?_⟩
 have := h.bound (setN_lt xs xs.length) (by omega)
 omega
theorem impl_ev (xs ys : List Bool) (rs : List RU) (h : rs.length < 9223372036854775807) : Ev (fun k => impl_ShortestOrders.f k xs ys rs) (res xs ys rs) := by
 unfold impl_ShortestOrders.f
 refine Ev.bind (implRules_ev _ rs h) ?_
 unfold res
 by_cases c : validRules (xs.length : Int) rs = true
 · simp only [if_pos c]
   by_cases he : xs.length = ys.length
   · simp only [if_pos he, if_pos (show (ys.length : Int) = (xs.length : Int) by omega)]
     have hn := validRules_n c
     have hp := pow_le_256 (n := xs.length) (by omega)
     obtain ⟨hd, hb⟩ := far_bd xs ys rs c he
     have hgl := setN_lt ys ys.length
     have hml := setN_lt xs xs.length
     refine Ev.bind (switchSet_ev xs (by omega)) (Ev.bind (switchSet_ev ys (by omega)) (Ev.bind (switchSet_ev ys (by omega)) ?_))
     rw [← he] at hgl hd hb ⊢
     refine Ev.bind (distancesTo_ev rs xs.length _ c hgl) ?_
     obtain ⟨L, hf, _⟩ := id hd
     have hFl := hf.len
     generalize setN ys xs.length = g at hgl hd hb hFl ⊢
     generalize setN xs xs.length = m at hml hb ⊢
     simp only [if_pos (show 0 ≤ (m : Int) by omega), hFl, if_pos (show (m : Int) < ((2 ^ xs.length : Nat) : Int) by omega)]
     by_cases c0 : rd (farOf rs xs.length g) (m : Int) < 0
     · simp only [if_pos c0]
       refine Ev.succ ?_
       simp only [impl_ShortestOrders.j0, if_true]; exact Ev.now _
     · simp only [if_neg c0]
       have hbb := hb c0
       refine Ev.succ ?_
       simp only [impl_ShortestOrders.j0, decide_eq_false (show ¬ rd (farOf rs xs.length g) (m : Int) > 24 by omega), Bool.false_eq_true, if_false]
       exact way_impl rs xs.length g _ c hd xs rfl (rd (farOf rs xs.length g) (m : Int)).toNat m [] hml (by omega) (by simp only [List.length_nil]; omega)
   · simp only [if_neg he, if_neg (show ¬ (ys.length : Int) = (xs.length : Int) by omega)]; exact Ev.now _
 · simp only [if_neg c]; exact Ev.now _
end SO
namespace CA
def cnt (rs : List RU) : Nat → Int
 | 0 => 0
 | i + 1 => if okM rs i = true then wrap64 (cnt rs i + 1) else cnt rs i
def res (n : Int) (rs : List RU) : Int × Int := if validRules n rs = true then (cnt rs (2 ^ n.toNat), 0) else (0, 1)
theorem pow8 (n : Nat) (h : n ≤ 8) : 2 ^ n ≤ 256 := Nat.pow_le_pow_right (n := 2) (by omega) h
theorem impl_ev (n : Int) (rs : List RU) (h : rs.length < 9223372036854775807) : Ev (fun k => impl_CountAllowed.f k n rs) (res n rs) := by
 unfold impl_CountAllowed.f res
 refine Ev.bind (implRules_ev _ rs h) ?_
 by_cases c : validRules n rs = true
 · simp only [if_pos c]
   have hn := validRules_n c
   obtain ⟨n, rfl⟩ := Int.eq_ofNat_of_zero_le (show 0 ≤ n by omega)
   have p8 := pow8 n (by omega)
   rw [Int.toNat_natCast]
   have e0 : shl .i64 1 (n : Int) = ((2 ^ n : Nat) : Int) := shl1 n (by omega)
   simp only [if_pos (show 0 ≤ (n : Int) by omega), e0]
   refine fold_from (fun k s i => impl_CountAllowed.l0 k rs s ((2 ^ n : Nat) : Int) i) 0 (2 ^ n) (cnt rs) _ (Nat.zero_le _) (fun i _ hi r hr => Ev.succ ?_) (Ev.succ ?_)
   · simp only [impl_CountAllowed.l0, if_pos (show (i : Int) < ((2 ^ n : Nat) : Int) from Int.ofNat_lt.2 hi), allowed_eq rs n i c (by omega), Option.bind_some, w64s (show i < 9223372036854775807 by omega)]
     simp only [cnt] at hr
     by_cases c2 : okM rs i = true
     · simp only [if_pos c2] at hr ⊢; exact hr
     · simp only [if_neg c2] at hr ⊢; exact hr
   · simp only [impl_CountAllowed.l0, if_neg (show ¬ ((2 ^ n : Nat) : Int) < ((2 ^ n : Nat) : Int) from Int.lt_irrefl _)]; exact Ev.now _
 · simp only [if_neg c]; exact Ev.now _
end CA
namespace CR
theorem containsS_ev (L : List Nat) (a : Nat) (hl : L.length < 9223372036854775807) : Ev (fun k => impl_switches_34.f k (nat2 L) (a : Int)) (decide (a ∈ L)) := by
 unfold impl_switches_34.f impl_switches_53.f
 have hn := nat2_len L
 have key : ∀ d i, i + d = L.length → ∃ r, decide (r ≥ 0) = decide (a ∈ L.drop i) ∧ Ev (fun k => impl_switches_53.l0 k (nat2 L) (a : Int) ((nat2 L).length : Int) (i : Int)) r := by
  intro d
  induction d with
  | zero =>
   intro i hi
   refine ⟨-1, ?_, Ev.succ ?_⟩
   · rw [List.drop_eq_nil_of_le (by omega)]; simp
   · simp only [impl_switches_53.l0, if_neg (show ¬ (i : Int) < ((nat2 L).length : Int) by omega)]; exact Ev.now _
  | succ d ih =>
   intro i hi
   have hlt : i < L.length := by omega
   by_cases c : a = L[i]
   · refine ⟨(i : Int), ?_, Ev.succ ?_⟩
     · rw [List.drop_eq_getElem_cons hlt, decide_eq_true (show (i : Int) ≥ 0 by omega), decide_eq_true (by rw [c]; exact List.mem_cons_self)]
     · simp only [impl_switches_53.l0, if_pos (show (i : Int) < ((nat2 L).length : Int) by omega), if_pos (show 0 ≤ (i : Int) by omega), nat2_rd L i hlt, if_pos (show (a : Int) = (L[i] : Int) by omega)]; exact Ev.now _
   · obtain ⟨r, h1, h2⟩ := ih (i + 1) (by omega)
     refine ⟨r, ?_, Ev.succ ?_⟩
     · rw [h1, List.drop_eq_getElem_cons hlt]
       exact decide_eq_decide.2 ⟨fun h => List.mem_cons_of_mem _ h, fun h => (List.mem_cons.1 h).resolve_left c⟩
     · simp only [impl_switches_53.l0, if_pos (show (i : Int) < ((nat2 L).length : Int) by omega), if_pos (show 0 ≤ (i : Int) by omega), nat2_rd L i hlt, if_neg (show ¬ (a : Int) = (L[i] : Int) by omega), w64s (show i < 9223372036854775807 by omega)]; exact h2
 obtain ⟨r, h1, h2⟩ := key L.length 0 (by omega)
 rw [List.drop_zero] at h1
 rw [← h1]
 exact Ev.bind h2 (Ev.now _)
def stepR (rs : List RU) (m : Nat) (L : List Nat) (i : Nat) : List Nat := if okM rs (m ^^^ 2 ^ i) = true then (if m ^^^ 2 ^ i ∈ L then L else L ++ [m ^^^ 2 ^ i]) else L
def rowR (rs : List RU) (m : Nat) (L : List Nat) : Nat → List Nat
 | 0 => L
 | i + 1 => stepR rs m (rowR rs m L i) i
structure GoodR (N : Nat) (L : List Nat) : Prop where
 nodup : L.Nodup
 lt : ∀ x ∈ L, x < N
theorem GoodR.len {N : Nat} {L : List Nat} (h : GoodR N L) : L.length ≤ N := by
 have := nodup_lenN (m := List.range N) h.nodup (fun x hx => List.mem_range.2 (h.lt x hx))
 rwa [List.length_range] at this
theorem stepR_good {rs : List RU} {n m : Nat} {L : List Nat} (h : GoodR (2 ^ n) L) (hm : m < 2 ^ n) (i : Nat) (hi : i < n) : GoodR (2 ^ n) (stepR rs m L i) := by
 unfold stepR
 split
 · split
   · exact h
   · rename_i c
     refine ⟨?_, fun x hx => ?_⟩
     · rw [List.nodup_append]
       exact ⟨h.nodup, List.nodup_cons.2 ⟨by simp, List.nodup_nil⟩, fun a ha b hb => by
        rw [List.mem_singleton] at hb; subst hb
        exact fun e => c (e ▸ ha)⟩
     · rcases List.mem_append.1 hx with hx | hx
       · exact h.lt x hx
       · rw [List.mem_singleton] at hx; subst hx
         exact Nat.xor_lt_two_pow hm (Nat.pow_lt_pow_right (by omega) hi)
 · exact h
theorem rowR_good {rs : List RU} {n m : Nat} {L : List Nat} (h : GoodR (2 ^ n) L) (hm : m < 2 ^ n) : ∀ i, i ≤ n → GoodR (2 ^ n) (rowR rs m L i)
 | 0, _ => h
 | i + 1, hi => stepR_good (rowR_good h hm i (by omega)) hm i (by omega)
theorem rowR_pre (rs : List RU) (m : Nat) (L : List Nat) : ∀ i, ∃ t, rowR rs m L i = L ++ t
 | 0 => ⟨[], by simp [rowR]⟩
 | i + 1 => by
  obtain ⟨t, ht⟩ := rowR_pre rs m L i
  show ∃ t', stepR rs m (rowR rs m L i) i = L ++ t'
  rw [ht]
  unfold stepR
  split
  · split
    · exact ⟨t, rfl⟩
    · exact ⟨t ++ [m ^^^ 2 ^ i], by simp⟩
  · exact ⟨t, rfl⟩
theorem rowR_at (rs : List RU) (m : Nat) (L : List Nat) (i at' : Nat) (h : at' < L.length) : at' < (rowR rs m L i).length ∧ rd (nat2 (rowR rs m L i)) (at' : Int) = (L[at'] : Int) := by
 obtain ⟨t, ht⟩ := rowR_pre rs m L i
 rw [ht]
 have hl : at' < (L ++ t).length := by simp; omega
 refine ⟨hl, ?_⟩
 rw [nat2_rd _ at' hl, List.getElem_append_left h]
end CR
namespace BR
def bad (xs : List Bool) (rs : List RU) (i : Nat) : Bool := brk (rd_T51 rs (i : Int)).f0 (rdOf false xs (rd_T51 rs (i : Int)).f1) (rdOf false xs (rd_T51 rs (i : Int)).f2)
def broken (xs : List Bool) (rs : List RU) : Nat → List Int
 | 0 => []
 | i + 1 => if bad xs rs i = true then broken xs rs i ++ [(i : Int)] else broken xs rs i
theorem broken_len (xs : List Bool) (rs : List RU) : ∀ i, (broken xs rs i).length ≤ i
 | 0 => by simp [broken]
 | i + 1 => by
  have := broken_len xs rs i
  unfold broken
  split
  · simp; omega
  · omega
def res (xs : List Bool) (rs : List RU) : List Int × Int := if validRules (xs.length : Int) rs = true then (broken xs rs rs.length, 0) else ([], 1)
theorem impl_ev (xs : List Bool) (rs : List RU) (h : rs.length < 9223372036854775807) : Ev (fun k => impl_BrokenRules.f k xs rs) (res xs rs) := by
 unfold impl_BrokenRules.f res
 refine Ev.bind (implRules_ev _ rs h) ?_
 by_cases c : validRules (xs.length : Int) rs = true
 · simp only [if_pos c]
   have hn := validRules_n c
   refine Ev.bind (switchSet_ev xs (by omega)) ?_
   refine fold_from (fun k s i => impl_BrokenRules.l0 k ((setN xs xs.length : Nat) : Int) s rs (rs.length : Int) i) 0 rs.length (broken xs rs) _ (Nat.zero_le _) (fun i _ hi r hr => Ev.succ ?_) (Ev.succ ?_)
   · have ha := validRules_at c i hi
     have e : impl_switches_breaks.f ((setN xs xs.length : Nat) : Int) (rd_T51 rs (i : Int)).f0 (rd_T51 rs (i : Int)).f1 (rd_T51 rs (i : Int)).f2 = some (bad xs rs i) := by
      refine implBreaks_eq xs _ _ _ ?_ ?_ ?_ ?_ (by omega) <;> rw [rdi_Rule rs i hi] <;> omega
     have hb := broken_len xs rs i
     simp only [impl_BrokenRules.l0, if_pos (show (i : Int) < (rs.length : Int) by omega), if_pos (show 0 ≤ (i : Int) by omega), e, Option.bind_some, if_pos (show (broken xs rs i).length < 17592186044416 by omega), w64s (show i < 9223372036854775807 by omega)]
     simp only [broken] at hr
     by_cases c2 : bad xs rs i = true
     · simp only [if_pos c2] at hr ⊢; exact hr
     · simp only [if_neg c2] at hr ⊢; exact hr
   · simp only [impl_BrokenRules.l0, if_neg (show ¬ (rs.length : Int) < (rs.length : Int) by omega)]; exact Ev.now _
 · simp only [if_neg c]; exact Ev.now _
end BR
namespace NO
def nexts (rs : List RU) (m : Nat) : Nat → List Int
 | 0 => []
 | i + 1 => if okM rs (m ^^^ 2 ^ i) = true then nexts rs m i ++ [ordM m i] else nexts rs m i
theorem nexts_len (rs : List RU) (m : Nat) : ∀ i, (nexts rs m i).length ≤ i
 | 0 => by simp [nexts]
 | i + 1 => by
  have := nexts_len rs m i
  unfold nexts
  split
  · simp; omega
  · omega
def res (xs : List Bool) (rs : List RU) : List Int × Int := if validRules (xs.length : Int) rs = true then (nexts rs (setN xs xs.length) xs.length, 0) else ([], 1)
theorem impl_ev (xs : List Bool) (rs : List RU) (h : rs.length < 9223372036854775807) : Ev (fun k => impl_NextOrders.f k xs rs) (res xs rs) := by
 unfold impl_NextOrders.f res
 refine Ev.bind (implRules_ev _ rs h) ?_
 by_cases c : validRules (xs.length : Int) rs = true
 · simp only [if_pos c]
   have hn := validRules_n c
   have hm := setN_lt62 xs xs.length (by omega)
   refine Ev.bind (switchSet_ev xs (by omega)) ?_
   generalize setN xs xs.length = m at hm
   refine fold_from (fun k s i => impl_NextOrders.l0 k rs (m : Int) s (xs.length : Int) i) 0 xs.length (nexts rs m) _ (Nat.zero_le _) (fun i _ hi r hr => Ev.succ ?_) (Ev.succ ?_)
   · have hb := nexts_len rs m i
     simp only [impl_NextOrders.l0, if_pos (show (i : Int) < (xs.length : Int) by omega), if_pos (show 0 ≤ (i : Int) by omega), turn_eq m i hm (by omega), allowed_eq rs xs.length _ c (turn_lt hm (show i ≤ 61 by omega)), Option.bind_some, implOrder_eq m i hm (by omega), if_pos (show (nexts rs m i).length < 17592186044416 by omega), w64s (show i < 9223372036854775807 by omega)]
     simp only [nexts] at hr
     by_cases c2 : okM rs (m ^^^ 2 ^ i) = true
     · simp only [if_pos c2] at hr ⊢; exact hr
     · simp only [if_neg c2] at hr ⊢; exact hr
   · simp only [impl_NextOrders.l0, if_neg (show ¬ (xs.length : Int) < (xs.length : Int) by omega)]; exact Ev.now _
 · simp only [if_neg c]; exact Ev.now _
end NO
namespace RO
def swO (o : Int) : Nat := o.natAbs - 1
def run (rs : List RU) (n : Nat) (os : List Int) : Nat → Nat → Nat → List Bool × Int × Int
 | _, 0, m => (stN n m, 0, 0)
 | i, d + 1, m => if swO (rd os (i : Int)) < n then (if ordM m (swO (rd os (i : Int))) = rd os (i : Int) then (if okM rs (m ^^^ 2 ^ swO (rd os (i : Int))) = true then run rs n os (i + 1) d (m ^^^ 2 ^ swO (rd os (i : Int))) else ([], (i : Int), 6)) else ([], (i : Int), 6)) else ([], (i : Int), 6)
theorem validOrders_at {os : List Int} (h : validOrders os = true) (i : Nat) (hi : i < os.length) : rd os (i : Int) ≠ 0 ∧ -8 ≤ rd os (i : Int) ∧ rd os (i : Int) ≤ 8 := by
 unfold validOrders at h
 simp only [Bool.and_eq_true] at h
 have := allB_true.1 h.1 i hi
 unfold okO at this
 simp only [Bool.and_eq_true, decide_eq_true_eq, Bool.not_eq_true', decide_eq_false_iff_not] at this
 exact ⟨this.1, this.2.1, this.2.2⟩
theorem implStates_ev (n m : Nat) (hn : n ≤ 60) (hm : m < 2 ^ 62) : Ev (fun k => impl_switches_states.f k (m : Int) (n : Int)) (stN n m) := by
 unfold impl_switches_states.f
 simp only [if_pos (show 0 ≤ (n : Int) by omega), Int.toNat_natCast, if_pos (show n ≤ 281474976710656 by omega), Option.bind_some, List.length_replicate]
 have h := fold_from (fun k (s : List Bool) i => impl_switches_states.l0 k (m : Int) s (n : Int) i) 0 n (fun i => stI n m i) (stN n m) (Nat.zero_le _) (fun i _ hi r hr => Ev.succ ?_) (Ev.succ ?_)
 · simpa [stI_0] using h
 · have hs := stI_set n m i hi
   have e2 : ((if m.testBit i = true then (1 : Int) else 0) == 1) = m.testBit i := by cases m.testBit i <;> rfl
   simp only [impl_switches_states.l0, if_pos (show (i : Int) < (n : Int) by omega), if_pos (show 0 ≤ (i : Int) by omega), stI_len, Int.toNat_natCast, tb m i hm (show i ≤ 61 by omega), e2, hs, w64s (show i < 9223372036854775807 by omega)]
   exact hr
 · simp only [impl_switches_states.l0, if_neg (show ¬ (n : Int) < (n : Int) by omega), stI_n]; exact Ev.now _
theorem run_impl (rs : List RU) (n : Nat) (x0 : List Bool) (h0 : x0.length = n) (os : List Int) (c : validRules (n : Int) rs = true) (co : validOrders os = true) :
 ∀ d i (m : Nat), i + d = os.length → m < 2 ^ 62 → Ev (fun k => impl_RunOrders.l0 k x0 rs (m : Int) os (os.length : Int) (i : Int)) (run rs n os i d m) := by
 have hn := validRules_n c
 have hol := validOrders_len co
 intro d
 induction d with
 | zero =>
  intro i m hi hm
  refine Ev.succ ?_
  simp only [impl_RunOrders.l0, if_neg (show ¬ (i : Int) < (os.length : Int) by omega), run, h0]
  exact Ev.bind (implStates_ev n m (by omega) hm) (Ev.now _)
 | succ d ih =>
  intro i m hi hm
  have ha := validOrders_at co i (by omega)
  refine Ev.succ ?_
  have e1 : impl_abs.f (rd os (i : Int)) = some ((swO (rd os (i : Int)) : Int) + 1) := by
   unfold impl_abs.f swO mx
   rw [w64 (x := -(rd os (i : Int))) (by omega) (by omega)]
   by_cases c1 : rd os (i : Int) < -(rd os (i : Int))
   · rw [if_pos c1]; congr 1; omega
   · rw [if_neg c1]; congr 1; omega
  have e2 : wrap64 ((swO (rd os (i : Int)) : Int) + 1 - 1) = (swO (rd os (i : Int)) : Int) := by
   unfold swO
   rw [w64] <;> omega
  simp only [impl_RunOrders.l0, if_pos (show (i : Int) < (os.length : Int) by omega), if_pos (show 0 ≤ (i : Int) by omega), e1, Option.bind_some, e2]
  unfold run
  generalize hsw : swO (rd os (i : Int)) = s
  have hs8 : s < 8 := by rw [← hsw]; unfold swO; omega
  by_cases c1 : s < n
  · rw [if_pos c1]
    simp only [if_neg (show ¬ (s : Int) ≥ (x0.length : Int) by omega), implOrder_eq m s hm (by omega), Option.bind_some]
    by_cases c2 : ordM m s = rd os (i : Int)
    · rw [if_pos c2]
      simp only [if_pos c2, if_pos (show 0 ≤ (s : Int) by omega), turn_eq m s hm (by omega), allowed_eq rs n _ c (turn_lt hm (show s ≤ 61 by omega)), Option.bind_some]
      by_cases c3 : okM rs (m ^^^ 2 ^ s) = true
      · simp only [if_pos c3, w64s (show i < 9223372036854775807 by omega)]
        exact ih (i + 1) _ (by omega) (turn_lt hm (by omega))
      · simp only [if_neg c3]; exact Ev.now _
    · rw [if_neg c2]
      simp only [if_neg c2]; exact Ev.now _
  · rw [if_neg c1]
    simp only [if_pos (show (s : Int) ≥ (x0.length : Int) by omega)]
    exact Ev.now _
def res (xs : List Bool) (os : List Int) (rs : List RU) : List Bool × Int × Int := if validRules (xs.length : Int) rs = true then (if validOrders os = true then run rs xs.length os 0 os.length (setN xs xs.length) else ([], 0, 7)) else ([], 0, 1)
theorem impl_ev (xs : List Bool) (os : List Int) (rs : List RU) (ho : os.length < 9223372036854775807) (h : rs.length < 9223372036854775807) : Ev (fun k => impl_RunOrders.f k xs os rs) (res xs os rs) := by
 unfold impl_RunOrders.f res
 refine Ev.bind (implRules_ev _ rs h) ?_
 by_cases c : validRules (xs.length : Int) rs = true
 · simp only [if_pos c]
   have hn := validRules_n c
   refine Ev.bind (implOrders_ev os ho) ?_
   by_cases co : validOrders os = true
   · simp only [if_pos co]
     refine Ev.bind (switchSet_ev xs (by omega)) ?_
     exact run_impl rs xs.length xs rfl os c co os.length 0 (setN xs xs.length) (by omega) (setN_lt62 xs xs.length (by omega))
   · simp only [if_neg co]; exact Ev.now _
 · simp only [if_neg c]; exact Ev.now _
end RO
namespace UO
def neg (x : Int) : Int := wrap64 (-x)
def und (xs : List Int) (i : Nat) : List Int := (List.range i).map fun j => neg (rd xs ((xs.length - 1 - j : Nat) : Int))
theorem und_len (xs : List Int) (i : Nat) : (und xs i).length = i := by simp [und]
def res (xs : List Int) : List Int × Int := if validOrders xs = true then (und xs xs.length, 0) else ([], 7)
def swp (xs : List Int) (i : Nat) : List Int := (List.range xs.length).map fun j => if j < i ∨ xs.length - i ≤ j then rd xs ((xs.length - 1 - j : Nat) : Int) else rd xs (j : Int)
theorem swp_len (xs : List Int) (i : Nat) : (swp xs i).length = xs.length := by simp [swp]
theorem swp_at (xs : List Int) (i j : Nat) (h : j < xs.length) : rd (swp xs i) (j : Int) = if j < i ∨ xs.length - i ≤ j then rd xs ((xs.length - 1 - j : Nat) : Int) else rd xs (j : Int) := by
 rw [rd_at _ j (by rw [swp_len]; exact h)]
 simp [swp]
theorem swp_0 (xs : List Int) : swp xs 0 = xs := by
 apply List.ext_getElem
 · exact swp_len xs 0
 · intro j h1 h2
   have := swp_at xs 0 j h2
   rw [rd_at _ j h1, rd_at _ j h2, if_neg (by omega)] at this
   exact this
theorem swp_set (xs : List Int) (i : Nat) (h : i < xs.length / 2) : ((swp xs i).set i (rd (swp xs i) ((xs.length - 1 - i : Nat) : Int))).set (xs.length - 1 - i) (rd (swp xs i) (i : Int)) = swp xs (i + 1) := by
 rw [swp_at xs i i (by omega), swp_at xs i (xs.length - 1 - i) (by omega), if_neg (by omega), if_neg (by omega)]
 apply List.ext_getElem
 · simp [swp_len]
 · intro j h1 h2
   have hj : j < xs.length := by rw [swp_len] at h2; exact h2
   have e2 := swp_at xs (i + 1) j hj
   rw [rd_at _ j h2] at e2
   rw [e2]
   by_cases a : j = xs.length - 1 - i
   · subst a
     rw [List.getElem_set_self, if_pos (by omega)]
     congr 2
     omega
   · rw [List.getElem_set_ne (by omega)]
     by_cases b : j = i
     · subst b
       rw [List.getElem_set_self, if_pos (by omega)]
     · rw [List.getElem_set_ne (by omega)]
       have e1 := swp_at xs i j hj
       rw [rd_at _ j (by rw [swp_len]; exact hj)] at e1
       rw [e1]
       by_cases d : j < i ∨ xs.length - i ≤ j
       · rw [if_pos d, if_pos (by omega)]
       · rw [if_neg d, if_neg (by omega)]
theorem reverse_ev (xs : List Int) (hl : xs.length ≤ 1000) : Ev (fun k => slices_Reverse_int64_int64.f k xs) (swp xs (xs.length / 2)) := by
 unfold slices_Reverse_int64_int64.f
 rw [w64 (x := (xs.length : Int) - 1) (by omega) (by omega)]
 have h := fold_from (fun k s (i : Int) => slices_Reverse_int64_int64.l0 k s i ((xs.length : Int) - 1 - i)) 0 (xs.length / 2) (swp xs) (swp xs (xs.length / 2)) (Nat.zero_le _) (fun i _ hi r hr => Ev.succ ?_) (Ev.succ ?_)
 · simpa [swp_0] using h
 · have e : (xs.length : Int) - 1 - (i : Int) = ((xs.length - 1 - i : Nat) : Int) := by omega
   have e2 : ((xs.length - 1 - i : Nat) : Int) - 1 = (xs.length : Int) - 1 - ((i + 1 : Nat) : Int) := by omega
   have hs := swp_set xs i hi
   simp only [slices_Reverse_int64_int64.l0, e, swp_len, if_pos (show (i : Int) < ((xs.length - 1 - i : Nat) : Int) by omega), if_pos (show 0 ≤ ((xs.length - 1 - i : Nat) : Int) by omega), if_pos (show ((xs.length - 1 - i : Nat) : Int) < (xs.length : Int) by omega), if_pos (show 0 ≤ (i : Int) by omega), if_pos (show (i : Int) < (xs.length : Int) by omega),
    Int.toNat_natCast, hs, e2, w64 (x := (xs.length : Int) - 1 - ((i + 1 : Nat) : Int)) (by omega) (by omega), w64s (show i < 9223372036854775807 by omega)]
   exact hr
 · simp only [slices_Reverse_int64_int64.l0, if_neg (show ¬ ((xs.length / 2 : Nat) : Int) < (xs.length : Int) - 1 - ((xs.length / 2 : Nat) : Int) by omega)]; exact Ev.now _
def ngd (ys : List Int) (i : Nat) : List Int := (List.range ys.length).map fun j => if j < i then neg (rd ys (j : Int)) else rd ys (j : Int)
theorem ngd_len (ys : List Int) (i : Nat) : (ngd ys i).length = ys.length := by simp [ngd]
theorem ngd_at (ys : List Int) (i j : Nat) (h : j < ys.length) : rd (ngd ys i) (j : Int) = if j < i then neg (rd ys (j : Int)) else rd ys (j : Int) := by
 rw [rd_at _ j (by rw [ngd_len]; exact h)]
 simp [ngd]
theorem ngd_0 (ys : List Int) : ngd ys 0 = ys := by
 apply List.ext_getElem
 · exact ngd_len ys 0
 · intro j h1 h2
   have := ngd_at ys 0 j h2
   rw [rd_at _ j h1, rd_at _ j h2, if_neg (by omega)] at this
   exact this
theorem ngd_set (ys : List Int) (i : Nat) (h : i < ys.length) : (ngd ys i).set i (wrap64 (-(rd (ngd ys i) (i : Int)))) = ngd ys (i + 1) := by
 rw [ngd_at ys i i h, if_neg (by omega)]
 apply List.ext_getElem
 · simp [ngd_len]
 · intro j h1 h2
   have hj : j < ys.length := by rw [ngd_len] at h2; exact h2
   have e2 := ngd_at ys (i + 1) j hj
   rw [rd_at _ j h2] at e2
   rw [e2]
   by_cases b : j = i
   · subst b
     rw [List.getElem_set_self, if_pos (by omega)]; rfl
   · rw [List.getElem_set_ne (by omega)]
     have e1 := ngd_at ys i j hj
     rw [rd_at _ j (by rw [ngd_len]; exact hj)] at e1
     rw [e1]
     by_cases d : j < i
     · rw [if_pos d, if_pos (by omega)]
     · rw [if_neg d, if_neg (by omega)]
theorem neg_ev (ys : List Int) (hl : ys.length < 9223372036854775807) : Ev (fun k => impl_UndoOrders.l0 k ys (ys.length : Int) 0) (ngd ys ys.length, 0) := by
 have h := fold_from (fun k s (i : Int) => impl_UndoOrders.l0 k s (ys.length : Int) i) 0 ys.length (ngd ys) (ngd ys ys.length, 0) (Nat.zero_le _) (fun i _ hi r hr => Ev.succ ?_) (Ev.succ ?_)
 · simpa [ngd_0] using h
 · have hs := ngd_set ys i hi
   simp only [impl_UndoOrders.l0, ngd_len, if_pos (show (i : Int) < (ys.length : Int) by omega), if_pos (show 0 ≤ (i : Int) by omega), Int.toNat_natCast, hs, w64s (show i < 9223372036854775807 by omega)]
   exact hr
 · simp only [impl_UndoOrders.l0, if_neg (show ¬ (ys.length : Int) < (ys.length : Int) by omega)]; exact Ev.now _
theorem same (xs : List Int) : ngd (swp xs (xs.length / 2)) xs.length = und xs xs.length := by
 apply List.ext_getElem
 · rw [ngd_len, swp_len, und_len]
 · intro j h1 h2
   have hj : j < xs.length := by rw [und_len] at h2; exact h2
   have e := ngd_at (swp xs (xs.length / 2)) xs.length j (by rw [swp_len]; exact hj)
   rw [rd_at _ j h1, if_pos hj, swp_at xs _ j hj] at e
   rw [e]
   have e2 : (und xs xs.length)[j] = neg (rd xs ((xs.length - 1 - j : Nat) : Int)) := by simp [und]
   rw [e2]
   by_cases d : j < xs.length / 2 ∨ xs.length - xs.length / 2 ≤ j
   · rw [if_pos d]
   · rw [if_neg d, show xs.length - 1 - j = j by omega]
theorem impl_ev (xs : List Int) (hl : xs.length < 9223372036854775807) : Ev (fun k => impl_UndoOrders.f k xs) (res xs) := by
 unfold impl_UndoOrders.f res slices_Clone_int64_int64.f
 refine Ev.bind (implOrders_ev xs hl) ?_
 by_cases c : validOrders xs = true
 · have hn := validOrders_len c
   simp only [if_pos c, if_pos (show xs.length ≤ 17592186044416 by omega), Option.bind_some]
   refine Ev.bind (reverse_ev xs (by omega)) ?_
   have h := neg_ev (swp xs (xs.length / 2)) (by rw [swp_len]; omega)
   rw [swp_len] at h
   rw [← same xs]
   exact h
 · simp only [if_neg c]; exact Ev.now _
end UO
def digR (m : Nat) : List UInt8 := if h : m = 0 then [] else UInt8.ofNat (48 + m % 10) :: digR (m / 10)
termination_by m
decreasing_by omega
theorem digR_zero : digR 0 = [] := by rw [digR, dif_pos rfl]
theorem digR_pos {m : Nat} (h : 0 < m) : digR m = UInt8.ofNat (48 + m % 10) :: digR (m / 10) := by rw [digR, dif_neg (by omega)]
theorem digR_len : ∀ m : Nat, (digR m).length ≤ m := by
 intro m
 induction m using Nat.strongRecOn with
 | ind m ih =>
  rcases Nat.eq_zero_or_pos m with h | h
  · subst h; rw [digR_zero]; exact Nat.le_refl _
  · rw [digR_pos h, List.length_cons]
    have := ih (m / 10) (by omega)
    omega
theorem decDigits_digR : ∀ m : Nat, 0 < m → Lib.decDigits m = (digR m).reverse := by
 intro m
 induction m using Nat.strongRecOn with
 | ind m ih =>
  intro h
  rw [Lib.decDigits, digR_pos h, List.reverse_cons]
  by_cases c : m < 10
  · rw [dif_pos c, Nat.div_eq_of_lt c, digR_zero, Nat.mod_eq_of_lt c]; rfl
  · rw [dif_neg c, ih (m / 10) (by omega) (by omega)]
def decB (n : Nat) : ByteArray := ⟨(Lib.decDigits n).toArray⟩
theorem decDigits_len : ∀ n : Nat, (Lib.decDigits n).length ≤ n + 1 := by
 intro n
 rcases Nat.eq_zero_or_pos n with h | h
 · subst h; rw [Lib.decDigits, dif_pos (by omega)]; simp
 · rw [decDigits_digR n h, List.length_reverse]
   have := digR_len n
   omega
theorem decB_size (n : Nat) : (decB n).size ≤ n + 1 := decDigits_len n
theorem decB_list (n : Nat) : (decB n).data.toList = Lib.decDigits n := rfl
theorem app_list (a b : ByteArray) : (a ++ b).data.toList = a.data.toList ++ b.data.toList := by
 obtain ⟨a⟩ := a
 obtain ⟨b⟩ := b
 rw [ByteArray.mk_append_mk]
 first | done | simp
theorem app_size (a b : ByteArray) : (a ++ b).size = a.size + b.size := by
 have := app_list a b
 rw [Lib.size_eq, Lib.size_eq, Lib.size_eq, this, List.length_append]
theorem bytes_ext {a b : ByteArray} (h : a.data.toList = b.data.toList) : a = b := by
 obtain ⟨⟨a⟩⟩ := a
 obtain ⟨⟨b⟩⟩ := b
 simp_all
theorem join_snoc (xs : List (List UInt8)) (y sep : List UInt8) (h : xs ≠ []) : Lib.join (xs ++ [y]) sep = Lib.join xs sep ++ sep ++ y := by
 cases xs with
 | nil => exact absurd rfl h
 | cons x r =>
  rw [List.cons_append, Lib.join_cons, Lib.join_cons]
  unfold Lib.joinTail
  simp
def joinB (xs : List ByteArray) (sep : ByteArray) : ByteArray := ⟨(Lib.join (xs.map (·.data.toList)) sep.data.toList).toArray⟩
theorem joinB_list (xs : List ByteArray) (sep : ByteArray) : (joinB xs sep).data.toList = Lib.join (xs.map (·.data.toList)) sep.data.toList := rfl
theorem joinB_one (x sep : ByteArray) : joinB [x] sep = x := bytes_ext (by rw [joinB_list]; simp [Lib.join_one])
theorem joinB_snoc (xs : List ByteArray) (y sep : ByteArray) (h : xs ≠ []) : joinB (xs ++ [y]) sep = (joinB xs sep ++ sep) ++ y := bytes_ext (by
 rw [joinB_list, app_list, app_list, joinB_list, List.map_append, List.map_cons, List.map_nil, join_snoc _ _ _ (by simpa using h)])
def openB : ByteArray := ⟨#[111, 112, 101, 110]⟩
def shutB : ByteArray := ⟨#[115, 104, 117, 116]⟩
def spB : ByteArray := ⟨#[32]⟩
def ordT (o : Int) : ByteArray := if o > 0 then openB ++ decB o.natAbs else shutB ++ decB o.natAbs
theorem decimal_eq (n : Nat) (hn : n < 100) : impl_Decimal.f (n : Int) = some (decB n) := by
 unfold impl_Decimal.f strconv_FormatInt.f
 rw [if_pos ⟨by omega, by omega, rfl⟩]
 rfl
theorem orderText_eq (o : Int) (h1 : -8 ≤ o) (h2 : o ≤ 8) : impl_orderText.f o = some (ordT o) := by
 unfold impl_orderText.f ordT
 have hs := decB_size o.natAbs
 by_cases c : o > 0
 · rw [if_pos c, if_pos c]
   obtain ⟨n, rfl⟩ := Int.eq_ofNat_of_zero_le (show 0 ≤ o by omega)
   rw [Int.natAbs_natCast] at hs ⊢
   rw [decimal_eq n (by omega), Option.bind_some, if_pos (by omega)]; rfl
 · rw [if_neg c, if_neg c, w64 (x := -o) (by omega) (by omega)]
   obtain ⟨n, hn⟩ := Int.eq_ofNat_of_zero_le (show 0 ≤ -o by omega)
   have hk : o.natAbs = n := by omega
   rw [hk] at hs ⊢
   rw [hn, decimal_eq n (by omega), Option.bind_some, if_pos (by omega)]; rfl
theorem ordT_size (o : Int) (h1 : -8 ≤ o) (h2 : o ≤ 8) : (ordT o).size ≤ 13 := by
 unfold ordT
 have hs := decB_size o.natAbs
 split
 · rw [app_size, show openB.size = 4 from rfl]; omega
 · rw [app_size, show shutB.size = 4 from rfl]; omega
def ordsT (xs : List Int) (i : Nat) : ByteArray := if i = 0 then ⟨#[]⟩ else joinB ((xs.take i).map ordT) spB
theorem ordsT_succ (xs : List Int) (i : Nat) (h : i < xs.length) : ordsT xs (i + 1) = (if i = 0 then ordsT xs i else ordsT xs i ++ spB) ++ ordT xs[i] := by
 unfold ordsT
 rw [if_neg (by omega), List.take_succ_eq_append_getElem h, List.map_append, List.map_cons, List.map_nil]
 by_cases c : i = 0
 · subst c
   rw [if_pos rfl, if_pos rfl]
   simp only [List.take_zero, List.map_nil, List.nil_append]
   rw [joinB_one]
   exact bytes_ext (by rw [app_list]; rfl)
 · rw [if_neg c, if_neg c, joinB_snoc _ _ _ (by
    intro e
    have := congrArg List.length e
    simp only [List.length_map, List.length_take, List.length_nil] at this
    omega)]
theorem ordsT_size (xs : List Int) (hx : ∀ j (h : j < xs.length), -8 ≤ xs[j] ∧ xs[j] ≤ 8) : ∀ i, i ≤ xs.length → (ordsT xs i).size ≤ 14 * i
 | 0, _ => by unfold ordsT; rw [if_pos rfl]; exact Nat.le_refl _
 | i + 1, hi => by
  have ih := ordsT_size xs hx i (by omega)
  have h2 := hx i (by omega)
  have h3 := ordT_size _ h2.1 h2.2
  rw [ordsT_succ xs i (by omega), app_size]
  split
  · omega
  · rw [app_size, show spB.size = 1 from rfl]; omega
theorem validOrders_at {xs : List Int} (h : validOrders xs = true) (i : Nat) (hi : i < xs.length) : xs[i] ≠ 0 ∧ -8 ≤ xs[i] ∧ xs[i] ≤ 8 := by
 unfold validOrders at h
 simp only [Bool.and_eq_true] at h
 have := allB_true.1 h.1 i hi
 unfold okO at this
 rw [rd_at xs i hi] at this
 simp only [Bool.and_eq_true, Bool.not_eq_true', decide_eq_false_iff_not, decide_eq_true_eq] at this
 exact ⟨this.1, this.2.1, this.2.2⟩
def textRes (xs : List Int) : ByteArray := if validOrders xs = true then (if xs.length = 0 then ⟨#[45]⟩ else ordsT xs xs.length) else ⟨#[]⟩
theorem implText_ev (xs : List Int) (h : xs.length < 9223372036854775807) : Ev (fun k => impl_OrdersText.f k xs) (textRes xs) := by
 unfold impl_OrdersText.f textRes
 refine Ev.bind (implOrders_ev xs h) ?_
 by_cases c : validOrders xs = true
 · simp only [if_pos c]
   have hn := validOrders_len c
   have hv := validOrders_at c
   by_cases c0 : xs.length = 0
   · simp only [if_pos c0, if_pos (show (xs.length : Int) = 0 by omega)]; exact Ev.now _
   · simp only [if_neg c0, if_neg (show ¬ (xs.length : Int) = 0 by omega)]
     refine fold_from (fun k s i => impl_OrdersText.l0 k s xs (xs.length : Int) i) 0 xs.length (fun i => (xs.take i).map ordT) _ (Nat.zero_le _) (fun i _ hi r hr => Ev.succ ?_) (Ev.succ ?_)
     · have hvi := hv i hi
       have hl : ((xs.take i).map ordT).length < 8796093022208 := by rw [List.length_map, List.length_take]; omega
       simp only [impl_OrdersText.l0, if_pos (show (i : Int) < (xs.length : Int) by omega), if_pos (show 0 ≤ (i : Int) by omega), rd_at xs i hi, orderText_eq _ hvi.2.1 hvi.2.2, Option.bind_some, if_pos hl, w64s (show i < 9223372036854775807 by omega)]
       rw [List.take_succ_eq_append_getElem hi, List.map_append] at hr
       exact hr
     · simp only [impl_OrdersText.l0, if_neg (show ¬ (xs.length : Int) < (xs.length : Int) by omega)]
       have hs := ordsT_size xs (fun j hj => (hv j hj).2) xs.length (Nat.le_refl _)
       unfold ordsT at hs ⊢
       rw [if_neg c0] at hs ⊢
       unfold strings_Join.f
       rw [if_pos ⟨by rw [List.length_map, List.length_take]; omega, by
        rw [Lib.size_eq, joinB_list] at hs
        have : (⟨#[32]⟩ : ByteArray) = spB := rfl
        rw [this]
        omega⟩]
       exact Ev.now _
 · simp only [if_neg c]; exact Ev.now _
def spl (b : UInt8) : List UInt8 → List (List UInt8)
 | [] => [[]]
 | c :: l => if c = b then [] :: spl b l else match spl b l with | [] => [[c]] | p :: ps => (c :: p) :: ps
def glue (a : List UInt8) : List (List UInt8) → List (List UInt8)
 | [] => [a]
 | p :: ps => (a ++ p) :: ps
theorem spl_ne (b : UInt8) (l : List UInt8) : spl b l ≠ [] := by
 cases l with
 | nil => simp [spl]
 | cons c l =>
  unfold spl
  split
  · simp
  · split <;> simp
theorem spl_cons_ne (b c : UInt8) (l : List UInt8) (h : c ≠ b) : spl b (c :: l) = glue [c] (spl b l) := by
 rw [spl, if_neg h]
 cases spl b l <;> rfl
theorem glue_glue (a c : List UInt8) (L : List (List UInt8)) (h : L ≠ []) : glue a (glue c L) = glue (a ++ c) L := by
 cases L with
 | nil => exact absurd rfl h
 | cons p ps => simp [glue]
theorem glue_nil (L : List (List UInt8)) (h : L ≠ []) : glue [] L = L := by
 cases L with
 | nil => exact absurd rfl h
 | cons p ps => rfl
theorem spl_app (b : UInt8) (a l : List UInt8) (h : ∀ c ∈ a, c ≠ b) : spl b (a ++ l) = glue a (spl b l) := by
 induction a with
 | nil => rw [List.nil_append, glue_nil _ (spl_ne b l)]
 | cons c a ih =>
  rw [List.cons_append, spl_cons_ne b c _ (h c List.mem_cons_self), ih (fun x hx => h x (List.mem_cons_of_mem _ hx)), glue_glue _ _ _ (spl_ne b l)]
  rfl
theorem spl_hit (b : UInt8) (l : List UInt8) : spl b (b :: l) = [] :: spl b l := by rw [spl, if_pos rfl]
theorem spl_len (b : UInt8) : ∀ l : List UInt8, (spl b l).length ≤ l.length + 1
 | [] => Nat.le_refl _
 | c :: l => by
  have ih := spl_len b l
  by_cases h : c = b
  · subst h; rw [spl_hit, List.length_cons, List.length_cons]; omega
  · rw [spl_cons_ne b c l h]
    cases e : spl b l with
    | nil => exact absurd e (spl_ne b l)
    | cons p ps => rw [e] at ih; simp only [glue, List.length_cons] at ih ⊢; omega
theorem spl_join (b : UInt8) : ∀ l : List UInt8, Lib.join (spl b l) [b] = l
 | [] => by simp [spl, Lib.join_one]
 | c :: l => by
  have ih := spl_join b l
  by_cases h : c = b
  · subst h
    rw [spl_hit]
    cases e : spl c l with
    | nil => exact absurd e (spl_ne c l)
    | cons p ps =>
     rw [e] at ih
     rw [Lib.join_cons] at ih ⊢
     unfold Lib.joinTail at ih ⊢
     simp only [List.map_cons, List.flatten_cons, List.nil_append]
     rw [List.append_assoc, ih]; rfl
  · rw [spl_cons_ne b c l h]
    cases e : spl b l with
    | nil => exact absurd e (spl_ne b l)
    | cons p ps =>
     rw [e] at ih
     rw [show glue [c] (p :: ps) = (c :: p) :: ps from rfl]
     rw [Lib.join_cons] at ih ⊢
     rw [List.cons_append, ih]
theorem first_of (b : UInt8) : ∀ l : List UInt8, (Lib.index l [b] = -1 ∧ ∀ c ∈ l, c ≠ b) ∨ ∃ a r, l = a ++ b :: r ∧ (∀ c ∈ a, c ≠ b) ∧ Lib.index l [b] = (a.length : Int)
 | [] => .inl ⟨rfl, fun c hc => by cases hc⟩
 | c :: l => by
  by_cases h : c = b
  · subst h
    exact .inr ⟨[], l, rfl, (fun c hc => by cases hc), by rw [Lib.index, if_pos (by simp [List.isPrefixOf])]; rfl⟩
  · have hp : ¬ ([b] : List UInt8).isPrefixOf (c :: l) = true := by
     simp only [List.isPrefixOf, Bool.and_true, beq_iff_eq]
     exact fun e => h e.symm
    rcases first_of b l with ⟨e, hn⟩ | ⟨a, r, e, hn, hi⟩
    · left
      refine ⟨by rw [Lib.index, if_neg hp, e]; rfl, fun x hx => ?_⟩
      rcases List.mem_cons.1 hx with rfl | hx
      · exact h
      · exact hn x hx
    · right
      refine ⟨c :: a, r, by rw [e]; rfl, fun x hx => ?_, ?_⟩
      · rcases List.mem_cons.1 hx with rfl | hx
        · exact h
        · exact hn x hx
      · rw [Lib.index, if_neg hp, hi, if_neg (by simp only [beq_iff_eq]; omega)]
        simp
theorem splitK_all (b : UInt8) : ∀ (k : Nat) (l : List UInt8), (spl b l).length ≤ k + 1 → Lib.splitK [b] 0 k l = spl b l
 | 0, l, h => by
  rcases first_of b l with ⟨_, hn⟩ | ⟨a, r, e, hn, _⟩
  · have := spl_app b l [] hn
    rw [List.append_nil] at this
    rw [this]
    simp [spl, glue, Lib.splitK]
  · subst e
    rw [spl_app b a _ hn, spl_hit] at h
    have h2 := List.length_pos_iff.2 (spl_ne b r)
    simp only [glue, List.length_cons] at h
    omega
 | k + 1, l, h => by
  rcases first_of b l with ⟨e, hn⟩ | ⟨a, r, e, hn, hi⟩
  · have := spl_app b l [] hn
    rw [List.append_nil] at this
    rw [this, Lib.splitK, e]
    simp [spl, glue]
  · have hsp : spl b l = a :: spl b r := by rw [e, spl_app b a _ hn, spl_hit]; simp [glue]
    rw [hsp] at h ⊢
    have ih := splitK_all b k r (by simp only [List.length_cons] at h; omega)
    rw [Lib.splitK, hi, if_neg (by simp only [beq_iff_eq]; omega), Int.toNat_natCast, Nat.add_zero, e]
    rw [List.take_left', show (a ++ b :: r).drop (a.length + [b].length) = r from by simp]
    · rw [ih]
    · rfl
theorem splitK_more (b : UInt8) : ∀ (k : Nat) (l : List UInt8), k + 1 < (spl b l).length → ∃ p ∈ Lib.splitK [b] 0 k l, b ∈ p
 | 0, l, h => by
  rcases first_of b l with ⟨_, hn⟩ | ⟨a, r, e, hn, _⟩
  · have := spl_app b l [] hn
    rw [List.append_nil] at this
    rw [this] at h
    simp [spl, glue] at h
  · exact ⟨l, by simp [Lib.splitK], by rw [e]; simp⟩
 | k + 1, l, h => by
  rcases first_of b l with ⟨e, hn⟩ | ⟨a, r, e, hn, hi⟩
  · have := spl_app b l [] hn
    rw [List.append_nil] at this
    rw [this] at h
    simp [spl, glue] at h
  · have hsp : spl b l = a :: spl b r := by rw [e, spl_app b a _ hn, spl_hit]; simp [glue]
    rw [hsp] at h
    obtain ⟨p, hp, hb⟩ := splitK_more b k r (by simp only [List.length_cons] at h; omega)
    refine ⟨p, ?_, hb⟩
    rw [Lib.splitK, hi, if_neg (by simp only [beq_iff_eq]; omega), Int.toNat_natCast, Nat.add_zero, e]
    rw [show (a ++ b :: r).drop (a.length + [b].length) = r from by simp]
    exact List.mem_cons_of_mem _ hp
def digB (c : UInt8) : Bool := decide (48 ≤ c.toNat) && decide (c.toNat ≤ 57)
def valD : List UInt8 → Nat → Nat
 | [], v => v
 | c :: l, v => valD l (10 * v + (c.toNat - 48))
theorem valD_ge : ∀ (l : List UInt8) (v : Nat), v ≤ valD l v
 | [], v => Nat.le_refl _
 | c :: l, v => Nat.le_trans (by omega) (valD_ge l (10 * v + (c.toNat - 48)))
def numD (neg : Bool) (l : List UInt8) (v : Nat) : Int × Bool := if l.all digB = true then (if neg then -(valD l v : Int) else (valD l v : Int), true) else (0, false)
def numBody (neg : Bool) (r : List UInt8) (len : Nat) : Int × Bool := if (decide (r.length = 0) || decide (r.length > 18)) = true then (0, false) else if (r.headD 0 = 48 ∧ len > 1) then (0, false) else numD neg r 0
def numR (l : List UInt8) : Int × Bool := if l.headD 0 = 45 then numBody true (l.drop 1) l.length else numBody false l l.length
def openL : List UInt8 := [111, 112, 101, 110]
def shutL : List UInt8 := [115, 104, 117, 116]
def wordN (t : ByteArray) : Option Int :=
 if t.data.toList.length < 5 then none else
 if (numR (t.data.toList.drop 4)).2 = true ∧ 1 ≤ (numR (t.data.toList.drop 4)).1 then
  (if t.data.toList.take 4 = openL then some (numR (t.data.toList.drop 4)).1 else if t.data.toList.take 4 = shutL then some (-(numR (t.data.toList.drop 4)).1) else none)
 else none
theorem numR_dig : ∀ m : Fin 9, m.val ≠ 0 → numR [UInt8.ofNat (48 + m.val)] = ((m.val : Int), true) := by decide
theorem numR_small {r : List UInt8} {n : Int} (h : numR r = (n, true)) (h1 : 1 ≤ n) (h2 : n ≤ 8) : r = [UInt8.ofNat (48 + n.toNat)] := by
 unfold numR at h
 by_cases c : r.headD 0 = 45
 · rw [if_pos c] at h
   unfold numBody numD at h
   split at h
   · injection h with _ e; cases e
   · split at h
     · injection h with _ e; cases e
     · split at h
       · injection h with e _
         simp only [if_true] at e
         omega
       · injection h with _ e; cases e
 · rw [if_neg c] at h
   unfold numBody numD at h
   split at h
   · injection h with _ e; cases e
   · rename_i c1
     split at h
     · injection h with _ e; cases e
     · rename_i c2
       split at h
       · rename_i c3
         injection h with e _
         simp only [Bool.false_eq_true, if_false] at e
         cases r with
         | nil => simp at c1
         | cons a r =>
          rw [List.all_cons, Bool.and_eq_true] at c3
          have ha : 48 ≤ a.toNat ∧ a.toNat ≤ 57 := by
           have := c3.1
           unfold digB at this
           simpa using this
          cases r with
          | nil =>
           simp only [valD] at e
           have : a = UInt8.ofNat (48 + n.toNat) := by
            apply UInt8.toNat_inj.1
            rw [UInt8.toNat_ofNat']
            omega
           rw [this]
          | cons b r =>
           exfalso
           have hne : a ≠ 48 := fun e => c2 ⟨by rw [e]; rfl, by simp⟩
           have hne2 : a.toNat ≠ 48 := fun e => hne (UInt8.toNat_inj.1 e)
           simp only [valD] at e
           have := valD_ge r (10 * (10 * 0 + (a.toNat - 48)) + (b.toNat - 48))
           omega
       · injection h with _ e; cases e
theorem ordT_list (n : Int) (h1 : n ≠ 0) (h2 : -8 ≤ n) (h3 : n ≤ 8) : (ordT n).data.toList = (if n > 0 then openL else shutL) ++ [UInt8.ofNat (48 + n.natAbs)] := by
 unfold ordT
 split
 · rw [app_list, decB_list, Lib.decDigits_one (by omega)]; rfl
 · rw [app_list, decB_list, Lib.decDigits_one (by omega)]; rfl
theorem word_iff (t : ByteArray) (n : Int) (h1 : n ≠ 0) (h2 : -8 ≤ n) (h3 : n ≤ 8) : ordT n = t ↔ wordN t = some n := by
 have hl := ordT_list n h1 h2 h3
 have hd := numR_dig ⟨n.natAbs, by omega⟩ (by simp; omega)
 simp only at hd
 constructor
 · rintro rfl
   unfold wordN
   rw [hl]
   by_cases c : n > 0
   · rw [if_pos c]
     rw [show (openL ++ [UInt8.ofNat (48 + n.natAbs)]).drop 4 = [UInt8.ofNat (48 + n.natAbs)] from rfl, show (openL ++ [UInt8.ofNat (48 + n.natAbs)]).take 4 = openL from rfl, hd, if_neg (by simp [openL]), if_pos ⟨rfl, by simp only; omega⟩, if_pos rfl]
     congr 1
     simp only
     omega
   · rw [if_neg c]
     rw [show (shutL ++ [UInt8.ofNat (48 + n.natAbs)]).drop 4 = [UInt8.ofNat (48 + n.natAbs)] from rfl, show (shutL ++ [UInt8.ofNat (48 + n.natAbs)]).take 4 = shutL from rfl, hd, if_neg (by simp [shutL]), if_pos ⟨rfl, by simp only; omega⟩, if_neg (by decide), if_pos rfl]
     congr 1
     simp only
     omega
 · intro h
   unfold wordN at h
   split at h
   · cases h
   · split at h
     · rename_i c5 c
       have hsp := (List.take_append_drop 4 t.data.toList)
       generalize hv : numR (t.data.toList.drop 4) = v at c h
       obtain ⟨m, ok⟩ := v
       simp only at c h
       obtain ⟨rfl, hm⟩ := c
       apply bytes_ext
       rw [hl]
       split at h
       · rename_i co
         have e := Option.some.inj h
         subst e
         have hr := numR_small hv hm h3
         rw [if_pos (by omega), ← hsp, co, hr]
         congr 3
         omega
       · split at h
         · rename_i _ co
           have e := Option.some.inj h
           have hr := numR_small hv hm (by omega)
           rw [if_neg (by omega), ← hsp, co, hr]
           congr 3
           omega
         · cases h
     · cases h
def wordF (t : ByteArray) : Option Int := match wordN t with | some n => if -8 ≤ n ∧ n ≤ 8 then some n else none | none => none
theorem wordN_ne {t : ByteArray} {n : Int} (h : wordN t = some n) : n ≠ 0 := by
 unfold wordN at h
 split at h
 · cases h
 · split at h
   · rename_i c
     split at h
     · have := Option.some.inj h; omega
     · split at h
       · have := Option.some.inj h; omega
       · cases h
   · cases h
theorem wordF_some {t : ByteArray} {n : Int} : wordF t = some n ↔ n ≠ 0 ∧ -8 ≤ n ∧ n ≤ 8 ∧ ordT n = t := by
 unfold wordF
 constructor
 · intro h
   cases hw : wordN t with
   | none => rw [hw] at h; cases h
   | some m =>
    rw [hw] at h
    simp only at h
    split at h
    · rename_i c
      have e := Option.some.inj h
      subst e
      exact ⟨wordN_ne hw, c.1, c.2, (word_iff t m (wordN_ne hw) c.1 c.2).2 hw⟩
    · cases h
 · rintro ⟨h1, h2, h3, h4⟩
   rw [(word_iff t n h1 h2 h3).1 h4]
   simp only
   rw [if_pos ⟨h2, h3⟩]
theorem wordF_N {t : ByteArray} {n : Int} (h : wordF t = some n) : wordN t = some n := by
 obtain ⟨h1, h2, h3, h4⟩ := wordF_some.1 h
 exact (word_iff t n h1 h2 h3).1 h4
def accO (f : ByteArray → Option Int) : List ByteArray → List Int → Option (List Int)
 | [], os => some os
 | t :: ws, os => match f t with | some n => accO f ws (os ++ [n]) | none => none
theorem accO_some (f : ByteArray → Option Int) : ∀ (ws : List ByteArray) (os r : List Int), accO f ws os = some r ↔ ∃ ns, r = os ++ ns ∧ ws.map f = ns.map some
 | [], os, r => by
  constructor
  · intro h
    exact ⟨[], by simpa [accO] using h.symm, rfl⟩
  · rintro ⟨ns, rfl, h⟩
    have : ns = [] := by simpa using h.symm
    subst this
    simp [accO]
 | t :: ws, os, r => by
  unfold accO
  cases hf : f t with
  | none =>
   constructor
   · intro h; cases h
   · rintro ⟨ns, _, h⟩
     cases ns with
     | nil => simp at h
     | cons n ns => simp [hf] at h
  | some n =>
   simp only
   rw [accO_some f ws (os ++ [n]) r]
   constructor
   · rintro ⟨ns, rfl, h⟩
     exact ⟨n :: ns, by simp, by simp [hf, h]⟩
   · rintro ⟨ns, rfl, h⟩
     cases ns with
     | nil => simp at h
     | cons m ns =>
      simp only [List.map_cons, List.cons.injEq, hf, Option.some.injEq] at h
      obtain ⟨rfl, h⟩ := h
      exact ⟨ns, by simp, h⟩
theorem leastI_none (p : Int → Bool) : ∀ (d : Nat) (lo : Int), (∀ m, lo ≤ m → m < lo + (d : Int) → p m = false) → leastI p d lo = (0, false)
 | 0, lo, _ => rfl
 | d + 1, lo, h => by
  unfold leastI
  rw [if_neg (by rw [h lo (by omega) (by omega)]; simp)]
  exact leastI_none p d (lo + 1) (fun m h1 h2 => h m (by omega) (by omega))
theorem leastI_one (p : Int → Bool) (n : Int) : ∀ (d : Nat) (lo : Int), lo ≤ n → n < lo + (d : Int) → (∀ m, lo ≤ m → m < lo + (d : Int) → p m = decide (m = n)) → leastI p d lo = (n, true)
 | 0, lo, h1, h2, _ => by omega
 | d + 1, lo, h1, h2, h => by
  unfold leastI
  rw [h lo (by omega) (by omega)]
  by_cases c : lo = n
  · subst c; simp
  · rw [decide_eq_false c, if_neg (by simp)]
    exact leastI_one p n d (lo + 1) (by omega) (by omega) (fun m h1 h2 => h m (by omega) (by omega))
theorem least_word (t : ByteArray) : leastI (wordP t) 17 (-8) = match wordF t with | some n => (n, true) | none => (0, false) := by
 have hp : ∀ m, (-8 : Int) ≤ m → m < -8 + ((17 : Nat) : Int) → wordP t m = decide (wordF t = some m) := fun m h1 h2 => by
  unfold wordP
  rw [orderText_eq m h1 (by omega)]
  simp only
  rw [Bool.eq_iff_iff]
  simp only [Bool.and_eq_true, Bool.not_eq_true', decide_eq_false_iff_not, decide_eq_true_eq]
  rw [wordF_some]
  constructor
  · rintro ⟨h3, h4⟩
    exact ⟨h3, h1, by omega, toList_inj h4⟩
  · rintro ⟨h3, _, _, h4⟩
    exact ⟨h3, by rw [h4]⟩
 cases hw : wordF t with
 | none =>
  simp only
  refine leastI_none _ 17 (-8) (fun m h1 h2 => ?_)
  rw [hp m h1 h2, hw]; rfl
 | some n =>
  simp only
  obtain ⟨h1, h2, h3, h4⟩ := wordF_some.1 hw
  refine leastI_one _ n 17 (-8) h2 (by omega) (fun m h5 h6 => ?_)
  rw [hp m h5 h6, hw]
  exact decide_eq_decide.2 ⟨fun e => (Option.some.inj e).symm, fun e => by rw [e]⟩
theorem readO_acc : ∀ (ws : List ByteArray) (os : List Int), readO ws os = accO wordF ws os
 | [], os => rfl
 | t :: ws, os => by
  unfold readO accO
  rw [least_word]
  cases wordF t with
  | none => rfl
  | some n => simp only [if_true]; exact readO_acc ws _
theorem mapS_get {f : ByteArray → Option Int} {W : List ByteArray} {ns : List Int} (h : W.map f = ns.map some) : W.length = ns.length ∧ ∀ i (h1 : i < W.length) (h2 : i < ns.length), f W[i] = some ns[i] := by
 have hl : W.length = ns.length := by have := congrArg List.length h; simpa using this
 refine ⟨hl, fun i h1 h2 => ?_⟩
 have := congrArg (fun l => l[i]?) h
 simpa [h1, h2] using this
def specRes (W : List ByteArray) : List Int × Bool := match accO wordN W [] with | none => ([], false) | some os => if validOrders os = true then (os, true) else ([], false)
def readRes (s : ByteArray) (W : List ByteArray) : List Int × Bool := if s.toList = [45] then ([], true) else specRes W
theorem validOrders_mk {os : List Int} (hl : os.length ≤ 24) (h : ∀ i (hi : i < os.length), os[i] ≠ 0 ∧ -8 ≤ os[i] ∧ os[i] ≤ 8) : validOrders os = true := by
 unfold validOrders
 rw [Bool.and_eq_true, allB_true]
 refine ⟨fun i hi => ?_, decide_eq_true (by omega)⟩
 have := h i hi
 unfold okO
 rw [rd_at os i hi, decide_eq_false this.1, decide_eq_true this.2.1, decide_eq_true this.2.2]; rfl
theorem toList_data (s : ByteArray) : s.toList = s.data.toList := by rw [ByteArray.toList_eq]
theorem impl_read_ev (s : ByteArray) (hs : s.size ≤ 1048576) (W : List ByteArray) (hW : W.map (·.data.toList) = spl 32 s.data.toList) : Ev (fun k => impl_ReadOrders.f k s) (readRes s W) := by
 unfold impl_ReadOrders.f readRes
 simp only [if_pos hs]
 by_cases cd : s.toList = [45]
 · simp only [if_pos cd]; exact Ev.now _
 · simp only [if_neg cd, readO_acc]
   have hsz := Lib.size_eq s
   have hWl : W.length = (spl 32 s.data.toList).length := by have := congrArg List.length hW; simpa using this
   have hWn : W.length ≠ 0 := by
    rw [hWl]
    exact fun e => spl_ne 32 s.data.toList (List.length_eq_zero_iff.1 e)
   have hsl := spl_len 32 s.data.toList
   have hPd : (wordsB s).map (·.data.toList) = Lib.splitK [32] 0 (min 25 (s.size + 1) - 1) s.data.toList := Lib.splitB_data _ _ _ _
   by_cases c25 : W.length ≤ 25
   · have hPW : wordsB s = W := by
      have e : (wordsB s).map (·.data.toList) = W.map (·.data.toList) := by
       rw [hPd, hW, splitK_all 32 _ _ (by omega)]
      have hlen : (wordsB s).length = W.length := by have := congrArg List.length e; simpa using this
      apply List.ext_getElem hlen
      intro i h1 h2
      have := congrArg (fun l => l[i]?) e
      exact bytes_ext (by simpa [h1, h2] using this)
     rw [hPW]
     cases hF : accO wordF W [] with
     | none =>
      have : specRes W = ([], false) := by
       unfold specRes
       cases hN : accO wordN W [] with
       | none => rfl
       | some os =>
        simp only
        rw [if_neg]
        intro hv
        obtain ⟨ns, e, hm⟩ := (accO_some wordN W [] os).1 hN
        rw [List.nil_append] at e
        subst e
        obtain ⟨hl, hg⟩ := mapS_get hm
        have hv2 := validOrders_at hv
        have : accO wordF W [] = some os := (accO_some wordF W [] os).2 ⟨os, by simp, by
         apply List.ext_getElem
         · simpa using hl
         · intro i h1 h2
           simp only [List.getElem_map]
           have h3 : i < W.length := by simpa using h1
           have h4 : i < os.length := by simpa using h2
           have hvi := hv2 i h4
           exact wordF_some.2 ⟨hvi.1, hvi.2.1, hvi.2.2, (word_iff _ _ hvi.1 hvi.2.1 hvi.2.2).2 (hg i h3 h4)⟩⟩
        rw [hF] at this
        cases this
      rw [this]
      exact Ev.now _
     | some os =>
      obtain ⟨ns, e, hm⟩ := (accO_some wordF W [] os).1 hF
      rw [List.nil_append] at e
      subst e
      obtain ⟨hl, hg⟩ := mapS_get hm
      have hgw : ∀ i (h1 : i < W.length) (h2 : i < os.length), os[i] ≠ 0 ∧ -8 ≤ os[i] ∧ os[i] ≤ 8 ∧ ordT os[i] = W[i] := fun i h1 h2 => wordF_some.1 (hg i h1 h2)
      have hN : accO wordN W [] = some os := (accO_some wordN W [] os).2 ⟨os, by simp, by
       apply List.ext_getElem
       · simpa using hl
       · intro i h1 h2
         simp only [List.getElem_map]
         exact wordF_N (hg i (by simpa using h1) (by simpa using h2))⟩
      have hWo : os.map ordT = W := by
       apply List.ext_getElem
       · simpa using hl.symm
       · intro i h1 h2
         simp only [List.getElem_map]
         exact (hgw i h2 (by simpa using h1)).2.2.2
      have hjoin : joinB W spB = s := bytes_ext (by
       rw [joinB_list, hW]
       exact spl_join 32 _)
      unfold specRes
      rw [hN]
      simp only
      refine Ev.bind (implText_ev os (by omega)) ?_
      by_cases c24 : os.length ≤ 24
      · have hv := validOrders_mk c24 (fun i hi => by have := hgw i (by omega) hi; exact ⟨this.1, this.2.1, this.2.2.1⟩)
        rw [if_pos hv]
        have ht : textRes os = s := by
         unfold textRes ordsT
         rw [if_pos hv, if_neg (by omega), if_neg (by omega), List.take_length, hWo, hjoin]
        rw [ht]
        simp only [if_true]
        exact Ev.now _
      · have hv : ¬ validOrders os = true := fun h => c24 (validOrders_len h)
        rw [if_neg hv]
        have ht : textRes os = ⟨#[]⟩ := by unfold textRes; rw [if_neg hv]
        rw [ht]
        have hne : ¬ (⟨#[]⟩ : ByteArray).toList = s.toList := fun e => by
         have e2 : s.data.toList = [] := by
          rw [toList_data, toList_data] at e
          exact e.symm
         rw [e2] at hWl
         simp [spl] at hWl
         omega
        simp only [if_neg hne]
        exact Ev.now _
   · obtain ⟨p, hp, hb⟩ := splitK_more 32 (min 25 (s.size + 1) - 1) s.data.toList (by omega)
     rw [← hPd] at hp
     obtain ⟨q, hq, rfl⟩ := List.mem_map.1 hp
     have hF : accO wordF (wordsB s) [] = none := by
      cases h : accO wordF (wordsB s) [] with
      | none => rfl
      | some os =>
       exfalso
       obtain ⟨ns, e, hm⟩ := (accO_some wordF _ [] os).1 h
       obtain ⟨hl, hg⟩ := mapS_get hm
       obtain ⟨i, hi, rfl⟩ := List.getElem_of_mem hq
       obtain ⟨h1, h2, h3, h4⟩ := wordF_some.1 (hg i hi (by omega))
       rw [← h4, ordT_list _ h1 h2 h3] at hb
       have hd : ∀ m : Fin 9, (32 : UInt8) ∉ openL ++ [UInt8.ofNat (48 + m.val)] ∧ (32 : UInt8) ∉ shutL ++ [UInt8.ofNat (48 + m.val)] := by decide
       have := hd ⟨(ns[i]'(by omega)).natAbs, by omega⟩
       split at hb
       · exact this.1 hb
       · exact this.2 hb
     have : specRes W = ([], false) := by
      unfold specRes
      cases hN : accO wordN W [] with
      | none => rfl
      | some os =>
       simp only
       rw [if_neg]
       intro hv
       obtain ⟨ns, e, hm⟩ := (accO_some wordN W [] os).1 hN
       rw [List.nil_append] at e
       subst e
       have := (mapS_get hm).1
       have := validOrders_len hv
       omega
     rw [hF, this]
     exact Ev.now _
def Byt (c : List Int) : Prop := c.length ≤ 140737488351232 ∧ ∀ e ∈ c, 0 ≤ e ∧ e ≤ 255
theorem bits255 (x : Int) : 0 ≤ Go.bits .and .u64 x 255 ∧ Go.bits .and .u64 x 255 ≤ 255 := by
 have h : ((BitVec.ofInt 64 x) &&& (BitVec.ofInt 64 255)).toNat ≤ 255 := by rw [BitVec.toNat_and]; exact Nat.le_trans Nat.and_le_right (by decide)
 have e : Go.bits .and .u64 x 255 = IntKind.u64.wrap (((BitVec.ofInt 64 x) &&& (BitVec.ofInt 64 255)).toNat : Int) := rfl
 rw [e]
 generalize ((BitVec.ofInt 64 x) &&& (BitVec.ofInt 64 255)).toNat = n at h
 have : IntKind.u64.wrap (n : Int) = (n : Int) % 18446744073709551616 := rfl
 rw [this]
 omega
theorem next_tot (c : List Int) (hc : Byt c) (a s : Int) (h0 : 0 ≤ a) (h1 : a ≤ 1000000000000000) : ∃ b s', spec_l00Src_next.f c a s = some (b, a + 1, s') ∧ 0 ≤ b ∧ b ≤ 255 := by
 have wa : wrap64 (a + 1) = a + 1 := by rw [w64] <;> omega
 unfold spec_l00Src_next.f
 rw [wa]
 by_cases q : a < (c.length : Int)
 · obtain ⟨i, rfl⟩ := Int.eq_ofNat_of_zero_le h0
   have hi : i < c.length := by omega
   have hb := hc.2 _ (List.getElem_mem hi)
   rw [if_pos q, if_pos h0]
   by_cases q2 : (i : Int) + 1 ≤ (c.length : Int)
   · rw [if_pos q2]
     have e : rd c (i : Int) = c[i] := rd_at c i hi
     exact ⟨_, _, rfl, by rw [e, w64] <;> omega, by rw [e, w64] <;> omega⟩
   · omega
 · rw [if_neg q]
   by_cases q2 : a + 1 ≤ (c.length : Int)
   · omega
   · rw [if_neg q2]
     exact ⟨_, _, rfl, by have := bits255 (IntKind.u64.wrap ((IntKind.u64.wrap ((IntKind.u64.wrap (s * 6364136223846793005)) + 0)) + 1442695040888963407) / 1099511627776); rw [w64] <;> omega, by have := bits255 (IntKind.u64.wrap ((IntKind.u64.wrap ((IntKind.u64.wrap (s * 6364136223846793005)) + 0)) + 1442695040888963407) / 1099511627776); rw [w64] <;> omega⟩
theorem pick_tot (c : List Int) (hc : Byt c) (a s n : Int) (h0 : 0 ≤ a) (h1 : a ≤ 900000000000000) : ∃ r a' s', spec_l00Src_pick.f c a s n = some (r, a', s') ∧ 0 ≤ r ∧ (r = 0 ∨ r < n) ∧ a ≤ a' ∧ a' ≤ a + 2 := by
 unfold spec_l00Src_pick.f
 by_cases q : n ≤ 1
 · rw [if_pos q]; exact ⟨0, a, s, rfl, Int.le_refl _, .inl rfl, Int.le_refl _, by omega⟩
 · rw [if_neg q]
   obtain ⟨b, s1, e1, hb0, hb1⟩ := next_tot c hc a s h0 (by omega)
   rw [e1]
   simp only [Option.bind_some]
   by_cases q2 : n > 200
   · rw [if_pos q2]
     obtain ⟨b2, s2, e2, hc0, hc1⟩ := next_tot c hc (a + 1) s1 (by omega) (by omega)
     rw [e2]
     simp only [Option.bind_some]
     rw [if_neg (show ¬ n = 0 by omega)]
     have w : wrap64 (wrap64 (b * 256) + b2) = b * 256 + b2 := by rw [w64 (x := b * 256) (by omega) (by omega), w64] <;> omega
     rw [w]
     refine ⟨_, _, _, rfl, Int.tmod_nonneg _ (by omega), .inr (Int.tmod_lt_of_pos _ (by omega)), by omega, by omega⟩
   · rw [if_neg q2, if_neg (show ¬ n = 0 by omega)]
     exact ⟨_, _, _, rfl, Int.tmod_nonneg _ hb0, .inr (Int.tmod_lt_of_pos _ (by omega)), by omega, by omega⟩
theorem wf8 (e : Int) (h : (Lit.int .u8 e).wf = true) : 0 ≤ e ∧ e ≤ 255 := by
 have h2 : (decide (IntKind.u8.min ≤ e) && decide (e ≤ IntKind.u8.max)) = true := h
 rw [Bool.and_eq_true, decide_eq_true_eq, decide_eq_true_eq] at h2
 have h3 : IntKind.u8.min = 0 := rfl
 have h4 : IntKind.u8.max = 255 := rfl
 omega
theorem CR.stepR_in (rs : List RU) (m : Nat) (L : List Nat) (i : Nat) : ∀ x ∈ CR.stepR rs m L i, x ∈ L ∨ okM rs x = true := fun x hx => by
 unfold CR.stepR at hx
 split at hx
 · rename_i c
   split at hx
   · exact .inl hx
   · rcases List.mem_append.1 hx with h | h
     · exact .inl h
     · rw [List.mem_singleton] at h; subst h; exact .inr c
 · exact .inl hx
theorem CR.rowR_in (rs : List RU) (m : Nat) (L : List Nat) : ∀ i, ∀ x ∈ CR.rowR rs m L i, x ∈ L ∨ okM rs x = true
 | 0, x, hx => .inl hx
 | i + 1, x, hx => by
  rcases CR.stepR_in rs m _ i x hx with h | h
  · exact CR.rowR_in rs m L i x h
  · exact .inr h
theorem CR.rowR_has (rs : List RU) (m : Nat) (L : List Nat) : ∀ (i j : Nat), j < i → okM rs (m ^^^ 2 ^ j) = true → m ^^^ 2 ^ j ∈ CR.rowR rs m L i
 | 0, j, h, _ => absurd h (Nat.not_lt_zero _)
 | i + 1, j, h, ho => by
  show m ^^^ 2 ^ j ∈ CR.stepR rs m (CR.rowR rs m L i) i
  by_cases e : j = i
  · subst e
    unfold CR.stepR
    rw [if_pos ho]
    split
    · assumption
    · exact List.mem_append_right _ (by simp)
  · have ih := CR.rowR_has rs m L i j (by omega) ho
    unfold CR.stepR
    split
    · split
      · exact ih
      · exact List.mem_append_left _ ih
    · exact ih
theorem reach (rs : List RU) (n : Nat) (x0 : List Bool) (h0 : x0.length = n) (c : validRules (n : Int) rs = true) (s : Nat) :
 ∀ (d at' : Nat) (L : List Nat), CR.GoodR (2 ^ n) L → at' ≤ L.length → 2 ^ n < at' + d → (∀ x ∈ L, x = s ∨ okM rs x = true) → ∃ L', Ev (fun k => impl_CountReached.l0 k x0 rs (nat2 L) (at' : Int)) ((L'.length : Int), 0) ∧ CR.GoodR (2 ^ n) L' ∧ (∀ x ∈ L', x = s ∨ okM rs x = true) ∧ (∀ x ∈ L, x ∈ L') ∧ ∀ h : at' < L.length, ∀ j, j < n → okM rs (L[at'] ^^^ 2 ^ j) = true → L[at'] ^^^ 2 ^ j ∈ L' := by
 have hn := validRules_n c
 have hp := pow_le_256 (n := n) (by omega)
 intro d
 induction d with
 | zero => intro at' L hg hat hd; have := hg.len; omega
 | succ d ih =>
  intro at' L hg hat hd hs
  have hlen := hg.len
  by_cases ca : at' < L.length
  · have hm := hg.lt _ (List.getElem_mem ca)
    generalize hmm : L[at'] = m at hm
    have hm62 : m < 2 ^ 62 := Nat.lt_of_lt_of_le hm (Nat.pow_le_pow_right (by omega) (by omega))
    have hg' := CR.rowR_good (rs := rs) hg hm n (Nat.le_refl _)
    obtain ⟨L', hr1, hr2, hr3, hr4, hr5⟩ := ih (at' + 1) (CR.rowR rs m L n) hg' (by have := (CR.rowR_at rs m L n at' ca).1; omega) (by omega) (fun x hx => by
     rcases CR.rowR_in rs m L n x hx with h | h
     · exact hs x h
     · exact .inr h)
    obtain ⟨t, ht⟩ := CR.rowR_pre rs m L n
    refine ⟨L', Ev.succ ?_, hr2, hr3, fun x hx => hr4 x (by rw [ht]; exact List.mem_append_left _ hx), fun h j hj ho => by
     rw [hmm] at ho ⊢
     exact hr4 _ (CR.rowR_has rs m L n j hj ho)⟩
    simp only [impl_CountReached.l0, nat2_len, if_pos (show (at' : Int) < (L.length : Int) by omega), h0]
    refine fold_from (fun k s i => impl_CountReached.l1 k x0 rs s (at' : Int) (n : Int) i) 0 n (fun i => nat2 (CR.rowR rs m L i)) _ (Nat.zero_le _) (fun i _ hi q hq => Ev.succ ?_) (Ev.succ ?_)
    · obtain ⟨b1, b2⟩ := CR.rowR_at rs m L i at' ca
      rw [hmm] at b2
      have hgi := (CR.rowR_good (rs := rs) hg hm i (by omega)).len
      have hq : Ev (fun k => impl_CountReached.l1 k x0 rs (nat2 (CR.stepR rs m (CR.rowR rs m L i) i)) (at' : Int) (n : Int) ((i + 1 : Nat) : Int)) q := hq
      generalize hLL : CR.rowR rs m L i = M at b1 b2 hgi hq
      simp only [impl_CountReached.l1, if_pos (show (i : Int) < (n : Int) by omega), if_pos (show 0 ≤ (at' : Int) by omega), nat2_len, if_pos (show (at' : Int) < (M.length : Int) by omega), if_pos (show 0 ≤ (i : Int) by omega), b2, turn_eq m i hm62 (by omega), allowed_eq rs n _ c (turn_lt hm62 (show i ≤ 61 by omega)), Option.bind_some, w64s (show i < 9223372036854775807 by omega)]
      unfold CR.stepR at hq
      by_cases c1 : okM rs (m ^^^ 2 ^ i) = true
      · simp only [if_pos c1] at hq ⊢
        refine Ev.bind (CR.containsS_ev M _ (by omega)) ?_
        by_cases c2 : m ^^^ 2 ^ i ∈ M
        · simp only [if_pos c2] at hq
          simp only [decide_eq_true c2, if_true]; exact hq
        · simp only [if_neg c2, nat2_snoc] at hq
          simp only [decide_eq_false c2, Bool.false_eq_true, if_false, if_pos (show M.length < 17592186044416 by omega)]; exact hq
      · simp only [if_neg c1] at hq ⊢; exact hq
    · simp only [impl_CountReached.l1, if_neg (show ¬ (n : Int) < (n : Int) by omega), w64s (show at' < 9223372036854775807 by omega)]
      exact hr1
  · refine ⟨L, Ev.succ ?_, hg, hs, fun x hx => hx, fun h => absurd h ca⟩
    simp only [impl_CountReached.l0, nat2_len, if_neg (show ¬ (at' : Int) < (L.length : Int) by omega)]; exact Ev.now _
theorem reached_ev (xs : List Bool) (rs : List RU) (h : rs.length < 9223372036854775807) (c : validRules (xs.length : Int) rs = true) :
 ∃ L, Ev (fun k => impl_CountReached.f k xs rs) ((L.length : Int), 0) ∧ CR.GoodR (2 ^ xs.length) L ∧ (∀ x ∈ L, x = setN xs xs.length ∨ okM rs x = true) ∧ setN xs xs.length ∈ L ∧ ∀ j, j < xs.length → okM rs (setN xs xs.length ^^^ 2 ^ j) = true → setN xs xs.length ^^^ 2 ^ j ∈ L := by
 have hn := validRules_n c
 have hm := setN_lt xs xs.length
 have hp0 := Nat.two_pow_pos xs.length
 obtain ⟨L, h1, h2, h3, h4, h5⟩ := reach rs xs.length xs rfl c (setN xs xs.length) (2 ^ xs.length + 1) 0 [setN xs xs.length] ⟨List.nodup_cons.2 ⟨by simp, List.nodup_nil⟩, fun x hx => by rw [List.mem_singleton] at hx; subst hx; exact hm⟩ (Nat.zero_le _) (by omega) (fun x hx => .inl (by simpa using hx))
 refine ⟨L, ?_, h2, h3, h4 _ (by simp), fun j hj ho => h5 (by simp) j hj ho⟩
 unfold impl_CountReached.f
 refine Ev.bind (implRules_ev _ rs h) ?_
 simp only [if_pos c]
 exact Ev.bind (switchSet_ev xs (by omega)) h1
theorem cnt_eq (rs : List RU) : ∀ i, i ≤ 256 → CA.cnt rs i = (((List.range i).filter fun x => okM rs x).length : Int) ∧ ((List.range i).filter fun x => okM rs x).length ≤ i
 | 0, _ => ⟨rfl, Nat.le_refl _⟩
 | i + 1, hi => by
  obtain ⟨h1, h2⟩ := cnt_eq rs i (by omega)
  rw [List.range_succ, List.filter_append]
  unfold CA.cnt
  by_cases c : okM rs i = true
  · rw [if_pos c, h1, w64 (by omega) (by omega)]
    simp [c]
    omega
  · rw [if_neg c, h1]
    simp [c]
    omega
theorem nexts_eq (rs : List RU) (m : Nat) : ∀ i, (NO.nexts rs m i).length = ((List.range i).filter fun j => okM rs (m ^^^ 2 ^ j)).length
 | 0 => rfl
 | i + 1 => by
  rw [List.range_succ, List.filter_append]
  unfold NO.nexts
  by_cases c : okM rs (m ^^^ 2 ^ i) = true
  · rw [if_pos c]; simp [c, nexts_eq rs m i]
  · rw [if_neg c]; simp [c, nexts_eq rs m i]
theorem nexts_mem (rs : List RU) (m : Nat) : ∀ (i j : Nat), j < i → okM rs (m ^^^ 2 ^ j) = true → ordM m j ∈ NO.nexts rs m i
 | 0, j, h, _ => absurd h (Nat.not_lt_zero _)
 | i + 1, j, h, ho => by
  unfold NO.nexts
  by_cases e : j = i
  · subst e; rw [if_pos ho]; simp
  · have := nexts_mem rs m i j (by omega) ho
    split
    · exact List.mem_append_left _ this
    · exact this
theorem turn_inj {m i j : Nat} (h : m ^^^ 2 ^ i = m ^^^ 2 ^ j) : i = j := by
 have h2 : (m ^^^ 2 ^ i).testBit i = (m ^^^ 2 ^ j).testBit i := by rw [h]
 rw [turn_bit, turn_bit, if_pos rfl] at h2
 by_cases e : i = j
 · exact e
 · rw [if_neg e] at h2
   cases m.testBit i <;> simp at h2
theorem turn_ne (m i : Nat) : m ^^^ 2 ^ i ≠ m := fun h => by
 have h2 : (m ^^^ 2 ^ i).testBit i = m.testBit i := by rw [h]
 rw [turn_bit, if_pos rfl] at h2
 cases m.testBit i <;> simp at h2
theorem next_le {rs : List RU} {n m : Nat} {L : List Nat} (hm : m ∈ L) (hl : ∀ j, j < n → okM rs (m ^^^ 2 ^ j) = true → m ^^^ 2 ^ j ∈ L) : (NO.nexts rs m n).length + 1 ≤ L.length := by
 rw [nexts_eq]
 have := nodup_lenN (l := m :: (((List.range n).filter fun j => okM rs (m ^^^ 2 ^ j)).map fun j => m ^^^ 2 ^ j)) (m := L) (List.nodup_cons.2 ⟨fun h => by
  obtain ⟨j, _, hj⟩ := List.mem_map.1 h
  exact turn_ne m j hj, by
  rw [List.nodup_iff_pairwise_ne, List.pairwise_map]
  exact ((List.nodup_range (n := n)).filter _).imp (fun hne h => hne (turn_inj h))⟩) (fun x hx => by
  rcases List.mem_cons.1 hx with rfl | hx
  · exact hm
  · obtain ⟨j, hj, rfl⟩ := List.mem_map.1 hx
    obtain ⟨h1, h2⟩ := List.mem_filter.1 hj
    exact hl j (List.mem_range.1 h1) h2)
 simpa using this
theorem reached_le {rs : List RU} {n m : Nat} {L : List Nat} (hg : CR.GoodR (2 ^ n) L) (hs : ∀ x ∈ L, x = m ∨ okM rs x = true) : L.length ≤ ((List.range (2 ^ n)).filter fun x => okM rs x).length + 1 ∧ (okM rs m = true → L.length ≤ ((List.range (2 ^ n)).filter fun x => okM rs x).length) := by
 have hin : ∀ x ∈ L, okM rs x = true → x ∈ (List.range (2 ^ n)).filter fun x => okM rs x := fun x hx ho => List.mem_filter.2 ⟨List.mem_range.2 (hg.lt x hx), ho⟩
 constructor
 · have := nodup_lenN (m := m :: (List.range (2 ^ n)).filter fun x => okM rs x) hg.nodup (fun x hx => by
    rcases hs x hx with rfl | h
    · exact List.mem_cons_self
    · exact List.mem_cons_of_mem _ (hin x hx h))
   simpa using this
 · intro hm
   exact nodup_lenN hg.nodup (fun x hx => by
    rcases hs x hx with rfl | h
    · exact hin _ hx hm
    · exact hin _ hx h)
theorem broken_zero (xs : List Bool) (rs : List RU) (c : validRules (xs.length : Int) rs = true) : (BR.broken xs rs rs.length).length = 0 ↔ okM rs (setN xs xs.length) = true := by
 have hb : ∀ i, i < rs.length → BR.bad xs rs i = badM (setN xs xs.length) rs i := fun i hi => by
  have ha := validRules_at c i hi
  unfold BR.bad badM
  rw [rdi_Rule rs i hi]
  obtain ⟨a, ha'⟩ := Int.eq_ofNat_of_zero_le ha.2.1.1
  obtain ⟨b, hb'⟩ := Int.eq_ofNat_of_zero_le ha.2.2.1.1
  rw [ha', hb', Int.toNat_natCast, Int.toNat_natCast, setN_bit, setN_bit, decide_eq_true (show a < xs.length by omega), decide_eq_true (show b < xs.length by omega), Bool.true_and, Bool.true_and]
 have key : ∀ i, i ≤ rs.length → ((BR.broken xs rs i).length = 0 ↔ ∀ j, j < i → badM (setN xs xs.length) rs j = false) := fun i => by
  induction i with
  | zero => exact fun _ => ⟨fun _ j h => absurd h (Nat.not_lt_zero _), fun _ => rfl⟩
  | succ i ih =>
   intro hi
   have ih' := ih (by omega)
   unfold BR.broken
   rw [hb i (by omega)]
   by_cases q : badM (setN xs xs.length) rs i = true
   · rw [if_pos q]
     constructor
     · intro h; simp at h
     · intro h
       have := h i (Nat.lt_succ_self _)
       rw [q] at this; cases this
   · rw [if_neg q, ih']
     constructor
     · intro h j hj
       by_cases e : j = i
       · subst e; simpa using q
       · exact h j (by omega)
     · exact fun h j hj => h j (by omega)
 rw [key rs.length (Nat.le_refl _)]
 unfold okM
 rw [allB_true]
 exact ⟨fun h i hi => by rw [h i hi]; rfl, fun h i hi => by simpa using h i hi⟩
def Path (rs : List RU) (n g : Nat) : Nat → List Int → Prop
 | m, [] => m = g
 | m, o :: os => ∃ j, j < n ∧ o = ordM m j ∧ okM rs (m ^^^ 2 ^ j) = true ∧ Path rs n g (m ^^^ 2 ^ j) os
theorem way_path {rs : List RU} {n g : Nat} {F : List Int} (h : Dist rs n g F) : ∀ (d m : Nat), m < 2 ^ n → rd F (m : Int) = (d : Int) → Path rs n g m (way rs F n d m)
 | 0, m, hm, hd => by
  obtain ⟨L, hf, _⟩ := h
  exact hf.zero m ((hf.mem m hm).1 (by omega)) (by omega)
 | d + 1, m, hm, hd => by
  obtain ⟨j, h1, h2, h3, h4, h5, h6⟩ := h.pick_lt hm hd
  have ih := way_path h d _ h4 h6
  unfold way
  rw [h3]
  exact ⟨j, h1, h2, h5, ih⟩
theorem ordM_range (m j n : Nat) (hj : j < n) (hn : n ≤ 8) : ordM m j ≠ 0 ∧ -8 ≤ ordM m j ∧ ordM m j ≤ 8 := by
 unfold ordM
 split <;> omega
theorem Path.small {rs : List RU} {n g : Nat} (hn : n ≤ 8) : ∀ {os : List Int} {m : Nat}, Path rs n g m os → ∀ o ∈ os, o ≠ 0 ∧ -8 ≤ o ∧ o ≤ 8
 | [], m, _, o, ho => absurd ho (by simp)
 | a :: os, m, h, o, ho => by
  obtain ⟨j, h1, h2, _, h4⟩ := h
  rcases List.mem_cons.1 ho with e | ho
  · rw [e, h2]; exact ordM_range m j n h1 hn
  · exact Path.small hn h4 o ho
theorem Path.ok {rs : List RU} {n g m : Nat} {os : List Int} (hn : n ≤ 8) (hl : os.length ≤ 24) (h : Path rs n g m os) : validOrders os = true :=
 validOrders_mk hl (fun i hi => h.small hn _ (List.getElem_mem hi))
theorem Path.run {rs : List RU} {n g : Nat} : ∀ (d i m : Nat) (os : List Int), i + d = os.length → Path rs n g m (os.drop i) → RO.run rs n os i d m = (stN n g, 0, 0)
 | 0, i, m, os, hi, h => by
  rw [List.drop_eq_nil_of_le (by omega)] at h
  have h : m = g := h
  subst h
  rfl
 | d + 1, i, m, os, hi, h => by
  have hlt : i < os.length := by omega
  rw [List.drop_eq_getElem_cons hlt] at h
  obtain ⟨j, h1, h2, h3, h4⟩ := h
  have hs : RO.swO os[i] = j := by unfold RO.swO; rw [h2, ordM_abs]; omega
  have ih := Path.run d (i + 1) (m ^^^ 2 ^ j) os (by omega) h4
  unfold RO.run
  rw [rd_at os i hlt, hs, if_pos h1, if_pos h2.symm, if_pos h3, ih]
theorem Path.snoc {rs : List RU} {n : Nat} (j a : Nat) (hj : j < n) (o : Int) : ∀ {os : List Int} {m g : Nat}, Path rs n g m os → o = ordM g j → okM rs (g ^^^ 2 ^ j) = true → g ^^^ 2 ^ j = a → Path rs n a m (os ++ [o])
 | [], m, g, h, h1, h2, h3 => by
  have h : m = g := h
  subst h
  exact ⟨j, hj, h1, h2, h3⟩
 | b :: os, m, g, h, h1, h2, h3 => by
  obtain ⟨i, k1, k2, k3, k4⟩ := h
  exact ⟨i, k1, k2, k3, Path.snoc j a hj o k4 h1 h2 h3⟩
theorem neg_ord (m j n : Nat) (hj : j < n) (hn : n ≤ 8) : UO.neg (ordM m j) = ordM (m ^^^ 2 ^ j) j := by
 unfold UO.neg ordM
 rw [turn_bit, if_pos rfl]
 cases m.testBit j
 · simp only [Bool.false_eq_true, if_false, Bool.not_false, if_true]
   rw [w64 (by omega) (by omega)]; omega
 · simp only [if_true, Bool.not_true, Bool.false_eq_true, if_false]
   rw [w64 (by omega) (by omega)]; omega
theorem Path.back {rs : List RU} {n g : Nat} (hn : n ≤ 8) : ∀ {os : List Int} {m : Nat}, Path rs n g m os → okM rs m = true → Path rs n m g ((os.map UO.neg).reverse)
 | [], m, h, _ => (show m = g from h).symm
 | a :: os, m, h, ho => by
  obtain ⟨j, h1, h2, h3, h4⟩ := h
  have ih := Path.back hn h4 h3
  rw [List.map_cons, List.reverse_cons]
  refine Path.snoc j m h1 _ ih ?_ ?_ (turn_turn m j)
  · rw [h2, neg_ord m j n h1 hn]
  · rw [turn_turn]; exact ho
theorem und_rev (xs : List Int) : UO.und xs xs.length = (xs.map UO.neg).reverse := by
 apply List.ext_getElem
 · simp [UO.und]
 · intro i h1 h2
   have hi : i < xs.length := by rw [UO.und_len] at h1; exact h1
   rw [List.getElem_reverse, List.getElem_map]
   simp only [UO.und, List.getElem_map, List.getElem_range, List.length_map]
   rw [rd_at xs (xs.length - 1 - i) (by omega)]
theorem ham_turn_le (a b j : Nat) : ∀ i, ham a b i ≤ ham (a ^^^ 2 ^ j) b i + 1
 | 0 => Nat.zero_le _
 | i + 1 => by
  have key : ∀ i, i ≤ j → ham (a ^^^ 2 ^ j) b i = ham a b i := fun i => by
   induction i with
   | zero => exact fun _ => rfl
   | succ i ih =>
    intro h
    unfold ham
    rw [ih (by omega), turn_bit, if_neg (show ¬ i = j by omega)]
  have ih := ham_turn_le a b j i
  by_cases e : i = j
  · subst e
    have h2 := key i (Nat.le_refl _)
    simp only [ham]
    rw [h2]
    split <;> split <;> omega
  · simp only [ham]
    rw [turn_bit, if_neg e]
    split <;> omega
theorem Path.long {rs : List RU} {n g : Nat} : ∀ {os : List Int} {m : Nat}, Path rs n g m os → ham m g n ≤ os.length
 | [], m, h => by
  have h : m = g := h
  subst h
  have : ∀ i, ham m m i = 0 := fun i => by
   induction i with
   | zero => rfl
   | succ i ih => unfold ham; rw [ih]; simp
  rw [this]; exact Nat.zero_le _
 | a :: os, m, h => by
  obtain ⟨j, h1, h2, h3, h4⟩ := h
  have := Path.long h4
  have := ham_turn_le m g j n
  simp only [List.length_cons]
  omega
theorem spl_none (b : UInt8) : ∀ (l : List UInt8), (∀ c ∈ l, c ≠ b) → spl b l = [l] := fun l h => by
 have := spl_app b l [] h
 rw [List.append_nil] at this
 rw [this]
 simp [spl, glue]
theorem spl_joined (b : UInt8) : ∀ (L : List (List UInt8)), L ≠ [] → (∀ l ∈ L, ∀ c ∈ l, c ≠ b) → spl b (Lib.join L [b]) = L
 | [], h, _ => absurd rfl h
 | [l], _, h => by rw [Lib.join_one]; exact spl_none b l (h l (by simp))
 | l :: m :: L, _, h => by
  have ih := spl_joined b (m :: L) (by simp) (fun x hx => h x (List.mem_cons_of_mem _ hx))
  have e : Lib.join (l :: m :: L) [b] = l ++ (b :: Lib.join (m :: L) [b]) := by
   rw [Lib.join_cons, Lib.join_cons]
   unfold Lib.joinTail
   simp
  rw [e, spl_app b l _ (h l (by simp)), spl_hit, ih]
  simp [glue]
theorem ordT_nosp (n : Int) (h1 : n ≠ 0) (h2 : -8 ≤ n) (h3 : n ≤ 8) : ∀ c ∈ (ordT n).data.toList, c ≠ 32 := fun c hc e => by
 subst e
 rw [ordT_list n h1 h2 h3] at hc
 have hd : ∀ m : Fin 9, (32 : UInt8) ∉ openL ++ [UInt8.ofNat (48 + m.val)] ∧ (32 : UInt8) ∉ shutL ++ [UInt8.ofNat (48 + m.val)] := by decide
 have := hd ⟨n.natAbs, by omega⟩
 split at hc
 · exact this.1 hc
 · exact this.2 hc
theorem read_text (os : List Int) (hv : validOrders os = true) : Ev (fun k => impl_ReadOrders.f k (textRes os)) (os, true) := by
 have hn := validOrders_len hv
 have ha := validOrders_at hv
 have hs : (textRes os).size ≤ 1048576 := by
  unfold textRes
  rw [if_pos hv]
  split
  · decide
  · have := ordsT_size os (fun j hj => (ha j hj).2) os.length (Nat.le_refl _)
    omega
 by_cases c0 : os.length = 0
 · have : os = [] := List.length_eq_zero_iff.1 c0
   subst this
   unfold impl_ReadOrders.f
   simp only [if_pos hs]
   have e : (textRes ([] : List Int)).toList = [45] := by
    unfold textRes
    rw [if_pos hv, if_pos (show ([] : List Int).length = 0 from rfl), toList_data]
   simp only [if_pos e]
   exact Ev.now _
 · have e1 : textRes os = joinB (os.map ordT) spB := by
    unfold textRes ordsT
    rw [if_pos hv, if_neg c0, if_neg c0, List.take_length]
   have hW : (os.map ordT).map (·.data.toList) = spl 32 (textRes os).data.toList := by
    rw [e1, joinB_list]
    refine (spl_joined 32 _ (by simpa using fun h => c0 (by simp [h])) (fun l hl => ?_)).symm
    obtain ⟨t, ht, rfl⟩ := List.mem_map.1 hl
    obtain ⟨o, ho, rfl⟩ := List.mem_map.1 ht
    obtain ⟨i, hi, rfl⟩ := List.getElem_of_mem ho
    have := ha i hi
    exact ordT_nosp _ this.1 this.2.1 this.2.2
   have h := impl_read_ev (textRes os) hs (os.map ordT) hW
   have hr : readRes (textRes os) (os.map ordT) = (os, true) := by
    have hacc : accO wordN (os.map ordT) [] = some os := (accO_some wordN _ [] os).2 ⟨os, by simp, by
     apply List.ext_getElem
     · simp
     · intro i h1 h2
       simp only [List.getElem_map]
       have h3 : i < os.length := by simpa using h1
       have := ha i h3
       exact (word_iff _ _ this.1 this.2.1 this.2.2).1 rfl⟩
    unfold readRes specRes
    rw [hacc]
    simp only [if_pos hv]
    rw [if_neg]
    intro e
    rw [toList_data, e1, joinB_list] at e
    have h2 := spl_joined 32 ((os.map ordT).map (·.data.toList)) (by simpa using fun h => c0 (by simp [h])) (fun l hl => by
     obtain ⟨t, ht, rfl⟩ := List.mem_map.1 hl
     obtain ⟨o, ho, rfl⟩ := List.mem_map.1 ht
     obtain ⟨i, hi, rfl⟩ := List.getElem_of_mem ho
     have := ha i hi
     exact ordT_nosp _ this.1 this.2.1 this.2.2)
    rw [show spB.data.toList = [32] from rfl] at e
    rw [e] at h2
    have h3 := congrArg List.head? h2
    have hp : 0 < os.length := by omega
    have := ha 0 hp
    have h4 : (ordT os[0]).data.toList = [45] := by
     cases os with
     | nil => exact absurd rfl c0
     | cons a os =>
      simp [spl, glue] at h3
      simpa using h3.symm
    rw [ordT_list _ this.1 this.2.1 this.2.2] at h4
    have h5 := congrArg List.length h4
    split at h5 <;> simp [openL, shutL] at h5
   rw [hr] at h
   exact h
theorem rules_tot (c : List Int) (hc : Byt c) (n : Nat) (h2 : 2 ≤ n) (h8 : n ≤ 8) :
 ∀ (d : Nat) (out : List RU) (a s : Int), d + out.length ≤ 12 → 0 ≤ a → a + 6 * d ≤ 1000000 → validRules (n : Int) out = true → ∃ rs, Ev (fun k => spec_R8Rules.l0 k (n : Int) out (d : Int) c a s) rs ∧ validRules (n : Int) rs = true := by
 intro d
 induction d with
 | zero =>
  intro out a s _ _ _ hv
  refine ⟨out, Ev.succ ?_, hv⟩
  simp only [spec_R8Rules.l0, if_neg (show ¬ ((0 : Nat) : Int) > 0 by omega)]
  exact Ev.now _
 | succ d ih =>
  intro out a s hl ha hb hv
  obtain ⟨p, a1, s1, e1, p0, p1, q1, q2⟩ := pick_tot c hc a s 3 ha (by omega)
  obtain ⟨u, a2, s2, e2, u0, u1, q3, q4⟩ := pick_tot c hc a1 s1 (n : Int) (by omega) (by omega)
  obtain ⟨v, a3, s3, e3, v0, v1, q5, q6⟩ := pick_tot c hc a2 s2 ((n : Int) - 1) (by omega) (by omega)
  have ht : Int.tmod (wrap64 (wrap64 (u + 1) + v)) (n : Int) = (u + 1 + v) % (n : Int) := by
   rw [w64 (x := u + 1) (by omega) (by omega), w64 (x := u + 1 + v) (by omega) (by omega), Int.tmod_eq_emod_of_nonneg (by omega)]
  have hm : (u + 1 + v) % (n : Int) = if u + 1 + v < n then u + 1 + v else u + 1 + v - n := by
   split
   · exact Int.emod_eq_of_lt (by omega) (by omega)
   · rw [← Int.sub_emod_right]
     exact Int.emod_eq_of_lt (by omega) (by omega)
  have hv' : validRules (n : Int) (out ++ [(⟨wrap64 (1 + p), u, Int.tmod (wrap64 (wrap64 (u + 1) + v)) (n : Int)⟩ : RU)]) = true := by
   have hn := validRules_n hv
   unfold validRules
   simp only [Bool.and_eq_true, decide_eq_true_eq]
   refine ⟨allB_true.2 (fun i hi => ?_), ⟨by omega, by omega⟩, by simp; omega⟩
   unfold okRs
   rw [dif_pos hi, w64 (by omega) (by omega)]
   unfold okR
   simp only [Bool.and_eq_true, decide_eq_true_eq, Bool.not_eq_true', decide_eq_false_iff_not]
   by_cases ci : i < out.length
   · rw [List.getElem_append_left ci]
     have := validRules_at hv i ci
     exact ⟨this.1, ⟨this.2.1.1, by omega⟩, ⟨this.2.2.1.1, by omega⟩, this.2.2.2⟩
   · have hi2 : i = out.length := by simp at hi; omega
     subst hi2
     rw [List.getElem_append_right (Nat.le_refl _)]
     simp only [Nat.sub_self, List.getElem_cons_zero, ht, hm, w64 (x := 1 + p) (by omega) (by omega)]
     split <;> omega
  obtain ⟨rs, hr, hvr⟩ := ih _ a3 s3 (by simp; omega) (by omega) (by omega) hv'
  refine ⟨rs, Ev.succ ?_, hvr⟩
  simp only [spec_R8Rules.l0, if_pos (show ((d + 1 : Nat) : Int) > 0 by omega), e1, e2, Option.bind_some, w64 (x := (n : Int) - 1) (by omega) (by omega), e3, if_neg (show ¬ (n : Int) = 0 by omega), if_pos (show out.length < 5864062014805 by omega), show wrap64 (((d + 1 : Nat) : Int) - 1) = (d : Int) by rw [w64] <;> omega]
  exact hr
theorem from_eq (c : List Int) : ∃ s, spec_l00From.f c = some (c, 0, s) := by
 unfold spec_l00From.f
 exact ⟨_, rfl⟩
theorem R8Rules_tot (c : List Int) (hc : Byt c) (n : Nat) (h2 : 2 ≤ n) (h8 : n ≤ 8) : ∃ rs, Ev (fun k => spec_R8Rules.f k c (n : Int)) rs ∧ validRules (n : Int) rs = true := by
 obtain ⟨s, e0⟩ := from_eq c
 obtain ⟨p, a1, s1, e1, p0, p1, q1, q2⟩ := pick_tot c hc 0 s 4 (by omega) (by omega)
 obtain ⟨d, rfl⟩ := Int.eq_ofNat_of_zero_le p0
 obtain ⟨rs, h, hv⟩ := rules_tot c hc n h2 h8 d [] a1 s1 (by simp; omega) (by omega) (by omega) (by
  unfold validRules
  simp only [Bool.and_eq_true, decide_eq_true_eq]
  exact ⟨rfl, ⟨by omega, by omega⟩, by simp⟩)
 refine ⟨rs, ?_, hv⟩
 unfold spec_R8Rules.f
 simp only [e0, e1, Option.bind_some]
 exact h
theorem r8At_tot (c : List Int) (hc : Byt c) (i : Nat) (m : Int) (h1 : 2 ≤ m) : ∃ v, laws_r8At.f c (i : Int) m = some v ∧ 0 ≤ v ∧ v < m := by
 unfold laws_r8At.f
 rw [if_neg (by omega)]
 by_cases c1 : (i : Int) ≥ (c.length : Int)
 · rw [if_pos c1]; exact ⟨0, rfl, by omega, by omega⟩
 · have hi : i < c.length := by omega
   have hb := hc.2 _ (List.getElem_mem hi)
   rw [if_neg c1, if_pos (by omega), if_pos (by omega), if_neg (by omega), rd_at c i hi, w64 (by omega) (by omega)]
   exact ⟨_, rfl, Int.tmod_nonneg _ hb.1, Int.tmod_lt_of_pos _ (by omega)⟩
def atB (c : List Int) (i : Nat) : Bool := match laws_r8At.f c (i : Int) 2 with | some v => v == 0 | none => false
theorem atB_eq (c : List Int) (hc : Byt c) (i : Nat) : ∃ v, laws_r8At.f c (i : Int) 2 = some v ∧ (v == 0) = atB c i := by
 obtain ⟨v, h, _, _⟩ := r8At_tot c hc i 2 (by omega)
 exact ⟨v, h, by unfold atB; rw [h]⟩
def drawn (f : Nat → Bool) (i : Nat) : List Bool := (List.range i).map f
theorem drawn_len (f : Nat → Bool) (i : Nat) : (drawn f i).length = i := by simp [drawn]
theorem drawn_succ (f : Nat → Bool) (i : Nat) : drawn f (i + 1) = drawn f i ++ [f i] := by unfold drawn; rw [List.range_succ, List.map_append]; rfl
theorem drawn_rd (f : Nat → Bool) (n j : Nat) (h : j < n) : rdOf false (drawn f n) (j : Int) = f j := by
 rw [rdOf_cast _ j (by rw [drawn_len]; exact h)]
 simp [drawn]
def dif (f g : Nat → Bool) : Nat → Nat
 | 0 => 0
 | i + 1 => if f i ≠ g i then dif f g i + 1 else dif f g i
theorem dif_le (f g : Nat → Bool) : ∀ i, dif f g i ≤ i
 | 0 => Nat.le_refl _
 | i + 1 => by
  have := dif_le f g i
  unfold dif
  split <;> omega
theorem dif_ham (f g : Nat → Bool) (n : Nat) : ∀ i, i ≤ n → dif f g i = ham (setN (drawn f n) n) (setN (drawn g n) n) i
 | 0, _ => rfl
 | i + 1, h => by
  unfold dif ham
  rw [dif_ham f g n i (by omega), setN_bit, setN_bit, drawn_rd f n i (by omega), drawn_rd g n i (by omega), decide_eq_true (show i < n by omega), Bool.true_and, Bool.true_and]
  by_cases q : f i = g i
  · simp [q]
  · simp [q]
theorem l2_ev (xs : List Bool) (hl : xs.length ≤ 8) : Ev (fun k => laws_FnSwitching.l2 k xs xs 0) true := by
 refine fold_from (fun k (_ : Unit) i => laws_FnSwitching.l2 k xs xs i) 0 xs.length (fun _ => ()) _ (Nat.zero_le _) (fun i _ hi r hr => Ev.succ ?_) (Ev.succ ?_)
 · simp only [laws_FnSwitching.l2, if_pos (show (i : Int) < (xs.length : Int) by omega), if_pos (show 0 ≤ (i : Int) by omega), bne_self_eq_false, Bool.false_eq_true, if_false, w64s (show i < 9223372036854775807 by omega)]
   exact hr
 · simp only [laws_FnSwitching.l2, if_neg (show ¬ (xs.length : Int) < (xs.length : Int) by omega)]
   exact Ev.now _
theorem same_ev (xs : List Int) (hl : xs.length ≤ 24) : Ev (fun k => laws_r8Same.f k xs xs) true := by
 unfold laws_r8Same.f
 simp only [if_true]
 refine fold_from (fun k (_ : Unit) i => laws_r8Same.l0 k xs xs i) 0 xs.length (fun _ => ()) _ (Nat.zero_le _) (fun i _ hi r hr => Ev.succ ?_) (Ev.succ ?_)
 · simp only [laws_r8Same.l0, if_pos (show (i : Int) < (xs.length : Int) by omega), if_pos (show 0 ≤ (i : Int) by omega), if_true, w64s (show i < 9223372036854775807 by omega)]
   exact hr
 · simp only [laws_r8Same.l0, if_neg (show ¬ (xs.length : Int) < (xs.length : Int) by omega)]
   exact Ev.now _
theorem has_ev (xs : List Int) (a : Int) (hl : xs.length ≤ 24) (h : a ∈ xs) : Ev (fun k => laws_r8Has.f k xs a) true := by
 unfold laws_r8Has.f
 have key := inv_evE (fun k (_ : Unit) i => laws_r8Has.l0 k xs a i) xs.length (fun i _ => ∀ j, j < i → rd xs (j : Int) ≠ a) (fun r => r = true) (fun i s hi hs => ?_) (fun s hs => ?_) xs.length 0 () (by omega) (fun j hj => absurd hj (Nat.not_lt_zero _))
 · obtain ⟨r, rfl, hk⟩ := key
   exact hk
 · by_cases c : rd xs (i : Int) = a
   · refine .inl ⟨true, rfl, Ev.succ ?_⟩
     simp only [laws_r8Has.l0, if_pos (show (i : Int) < (xs.length : Int) by omega), if_pos (show 0 ≤ (i : Int) by omega), if_pos c]; exact Ev.now _
   · refine .inr ⟨(), fun j hj => ?_, fun r hr => Ev.succ ?_⟩
     · by_cases e : j = i
       · subst e; exact c
       · exact hs j (by omega)
     · simp only [laws_r8Has.l0, if_pos (show (i : Int) < (xs.length : Int) by omega), if_pos (show 0 ≤ (i : Int) by omega), if_neg c, w64s (show i < 9223372036854775807 by omega)]; exact hr
 · exfalso
   obtain ⟨j, hj, e⟩ := List.getElem_of_mem h
   exact hs j hj (by rw [rd_at xs j hj]; exact e)
theorem tail_ev (xs ys : List Bool) (rs : List RU) (os : List Int) (bk nx : List Int) (far : Nat) (he : xs.length = ys.length) (hl : rs.length < 9223372036854775807) (c : validRules (xs.length : Int) rs = true)
 (hp : Path rs xs.length (setN ys ys.length) (setN xs xs.length) os) (ho : os.length ≤ 24) (hf : far ≤ os.length) (hb : bk.length = 0 ↔ okM rs (setN xs xs.length) = true) (hbl : bk.length ≤ 12) (hnl : nx.length ≤ 24)
 (hnx : ∀ j, j < xs.length → okM rs (setN xs xs.length ^^^ 2 ^ j) = true → ordM (setN xs xs.length) j ∈ nx) :
 Ev (fun k => laws_FnSwitching.j1 k rs xs ys (far : Int) os 0 bk nx false) true := by
 have hn := validRules_n c
 have hv := hp.ok (by omega) ho
 have hrun : RO.res xs os rs = (ys, 0, 0) := by
  unfold RO.res
  rw [if_pos c, if_pos hv]
  have := Path.run (rs := rs) (n := xs.length) (g := setN ys ys.length) os.length 0 (setN xs xs.length) os (Nat.zero_add _) hp
  rw [this, he, stN_setN ys]
 have h1 := RO.impl_ev xs os rs (by omega) hl
 rw [hrun] at h1
 refine Ev.succ ?_
 simp only [laws_FnSwitching.j1, Bool.false_eq_true, if_false, if_true]
 refine Ev.bind h1 ?_
 simp only [if_true, decide_eq_false (show ¬ (os.length : Int) < (far : Int) by omega)]
 refine Ev.succ ?_
 simp only [laws_FnSwitching.j2, Bool.false_eq_true, if_false]
 refine fold_from (fun k (_ : Unit) i => laws_FnSwitching.l1 k rs xs ys os bk nx ys i) 0 ys.length (fun _ => ()) _ (Nat.zero_le _) (fun i _ hi r hr => Ev.succ ?_) (Ev.succ ?_)
 · simp only [laws_FnSwitching.l1, if_pos (show (i : Int) < (ys.length : Int) by omega), if_pos (show 0 ≤ (i : Int) by omega), bne_self_eq_false, Bool.false_eq_true, if_false, w64s (show i < 9223372036854775807 by omega)]
   exact hr
 · simp only [laws_FnSwitching.l1, if_neg (show ¬ (ys.length : Int) < (ys.length : Int) by omega)]
   have ht := implText_ev os (by omega)
   refine Ev.bind ht (Ev.bind (read_text os hv) ?_)
   simp only [if_true]
   refine Ev.bind (same_ev os ho) ?_
   simp only [Bool.not_true]
   have hj5 : Ev (fun k => laws_FnSwitching.j5 k rs xs ys os bk false) true := by
    refine Ev.succ ?_
    simp only [laws_FnSwitching.j5, Bool.false_eq_true, if_false]
    have hu := UO.impl_ev os (by omega)
    have hur : UO.res os = ((os.map UO.neg).reverse, 0) := by unfold UO.res; rw [if_pos hv, und_rev]
    rw [hur] at hu
    refine Ev.bind hu ?_
    simp only [if_true]
    by_cases cb : bk.length = 0
    · rw [decide_eq_false (show ¬ (bk.length : Int) > 0 by omega)]
      have hok := hb.1 cb
      have hback := hp.back (by omega) hok
      have hl2 : ((os.map UO.neg).reverse).length = os.length := by simp
      have hv2 := hback.ok (by omega) (by omega)
      have c2 := c
      rw [he] at c2
      have hrun2 : RO.res ys ((os.map UO.neg).reverse) rs = (xs, 0, 0) := by
       unfold RO.res
       rw [if_pos c2, if_pos hv2, ← he]
       have := Path.run (rs := rs) (n := xs.length) (g := setN xs xs.length) ((os.map UO.neg).reverse).length 0 (setN ys ys.length) ((os.map UO.neg).reverse) (Nat.zero_add _) hback
       rw [← he] at this
       rw [this, stN_setN xs]
      have h2 := RO.impl_ev ys ((os.map UO.neg).reverse) rs (by omega) hl
      rw [hrun2] at h2
      refine Ev.succ ?_
      simp only [laws_FnSwitching.j6, Bool.false_eq_true, if_false]
      refine Ev.bind h2 ?_
      simp only [if_true, bne_self_eq_false]
      refine Ev.succ ?_
      simp only [laws_FnSwitching.j7, Bool.false_eq_true, if_false]
      exact l2_ev xs (by omega)
    · rw [decide_eq_true (show (bk.length : Int) > 0 by omega)]
      refine Ev.succ ?_
      simp only [laws_FnSwitching.j6, if_true]
      exact Ev.now _
   refine Ev.succ ?_
   simp only [laws_FnSwitching.j4, Bool.false_eq_true, if_false]
   cases os with
   | nil =>
    simp only [List.length_nil, if_neg (show ¬ ((0 : Nat) : Int) > 0 by omega)]
    exact hj5
   | cons a os =>
    obtain ⟨j, k1, k2, k3, _⟩ := hp
    have hm := hnx j k1 k3
    rw [← k2] at hm
    have hr0 : rd (a :: os) 0 = a := rfl
    simp only [if_pos (show ((a :: os).length : Int) > 0 by simp only [List.length_cons]; omega), if_pos (show (0 : Int) < ((a :: os).length : Int) by simp only [List.length_cons]; omega), hr0]
    refine Ev.bind (has_ev nx a hnl hm) ?_
    simp only [Bool.not_true]
    exact hj5
theorem z30 : ¬ (3 : Int) = 0 := by decide
theorem counts {A L x n : Nat} (h1 : 1 ≤ L) (h2 : L ≤ A + 1) (h3 : x ≤ n) (h4 : x + 1 ≤ L) (h5 : A ≤ 256) : ¬ (A : Int) < 0 ∧ ¬ (L : Int) < 1 ∧ wrap64 ((A : Int) + 1) = (A : Int) + 1 ∧ ¬ (L : Int) > (A : Int) + 1 ∧ ¬ (x : Int) > (n : Int) ∧ wrap64 ((L : Int) - 1) = (L : Int) - 1 ∧ ¬ (L : Int) - 1 < (x : Int) ∧ (L ≤ A → ¬ (L : Int) > (A : Int)) := by
 refine ⟨by omega, by omega, w64 (by omega) (by omega), by omega, by omega, w64 (by omega) (by omega), by omega, fun _ => by omega⟩
end Go.Proofs.YtffodlggihmonaaDoor.PFnSwitching
namespace Go.Proofs.YtffodlggihmonaaDoor.Pure
open Go.RowKit Go.Proofs.YtffodlggihmonaaDoorW.PrintWords Go.Proofs.YtffodlggihmonaaDoorW.PLib Go.Proofs.YtffodlggihmonaaDoor.PFnSwitching
set_option maxHeartbeats 4000000 in
theorem FnSwitching : PFnSwitching.Pure := by
 intro code more hc hm
 have hcb : Byt code := ⟨by omega, fun e he => wf8 e (hc.2.2 e he)⟩
 have hmb : Byt more := ⟨by omega, fun e he => wf8 e (hm.2.2 e he)⟩
 refine Ev.get ?_
 unfold laws_FnSwitching.f
 have hlong : ∃ b, laws_r8Long.f code more = some b := by
  unfold laws_r8Long.f
  split
  · exact ⟨_, rfl⟩
  · exact ⟨_, rfl⟩
 obtain ⟨b, hb⟩ := hlong
 simp only [hb, Option.bind_some]
 by_cases cb : b = true
 · simp only [if_pos cb]; exact Ev.now _
 simp only [if_neg cb]
 obtain ⟨v, hv, v0, v1⟩ := r8At_tot more hmb 0 4 (by omega)
 have hv : laws_r8At.f more 0 4 = some v := hv
 obtain ⟨u, rfl⟩ := Int.eq_ofNat_of_zero_le v0
 simp only [hv, Option.bind_some]
 have hwn : wrap64 (2 + (u : Int)) = ((u + 2 : Nat) : Int) := by rw [w64] <;> omega
 simp only [hwn]
 have hn8 : u + 2 ≤ 8 := by omega
 have hn2 : 2 ≤ u + 2 := by omega
 generalize u + 2 = n at hn8 hn2
 obtain ⟨rs, hr, c⟩ := R8Rules_tot code hcb n hn2 hn8
 refine Ev.bind hr ?_
 have hrl := (validRules_n c).2.2
 have hl : rs.length < 9223372036854775807 := by omega
 refine fold_from (fun k (s : Nat) i => laws_FnSwitching.l0 k more (n : Int) rs (drawn (fun j => atB more (1 + j)) s) (drawn (fun j => atB more (10 + j)) s) ((dif (fun j => atB more (1 + j)) (fun j => atB more (10 + j)) s : Nat) : Int) i) 0 n (fun i => i) _ (Nat.zero_le _) (fun i _ hi r hr => Ev.succ ?_) (Ev.succ ?_)
 · obtain ⟨p, hp, hp2⟩ := atB_eq more hmb (1 + i)
   obtain ⟨q, hq, hq2⟩ := atB_eq more hmb (10 + i)
   have e1 : wrap64 (1 + (i : Int)) = ((1 + i : Nat) : Int) := by rw [w64] <;> omega
   have e2 : wrap64 (10 + (i : Int)) = ((10 + i : Nat) : Int) := by rw [w64] <;> omega
   have hd := dif_le (fun j => atB more (1 + j)) (fun j => atB more (10 + j)) i
   simp only [laws_FnSwitching.l0, if_pos (show (i : Int) < (n : Int) by omega), e1, e2, hp, hq, hp2, hq2, Option.bind_some, drawn_len, if_pos (show i < 140737488355328 by omega), if_pos (show 0 ≤ (i : Int) by omega), List.length_append, List.length_singleton, if_pos (show (i : Int) < ((i + 1 : Nat) : Int) by omega)]
   have s1 := drawn_succ (fun j => atB more (1 + j)) i
   have s2 := drawn_succ (fun j => atB more (10 + j)) i
   have r1 := drawn_rd (fun j => atB more (1 + j)) (i + 1) i (Nat.lt_succ_self _)
   have r2 := drawn_rd (fun j => atB more (10 + j)) (i + 1) i (Nat.lt_succ_self _)
   rw [s1] at r1
   rw [s2] at r2
   simp only [s1, s2] at hr
   simp only [r1, r2, w64s (show i < 9223372036854775807 by omega)]
   unfold dif at hr
   by_cases ce : atB more (1 + i) = atB more (10 + i)
   · simp only [ce, bne_self_eq_false, Bool.false_eq_true, if_false, ne_eq, not_true_eq_false] at hr ⊢
     exact hr
   · have ce2 : (atB more (1 + i) != atB more (10 + i)) = true := bne_iff_ne.2 ce
     simp only [ce2, if_true]
     simp only [ne_eq, ce, not_false_eq_true, if_true] at hr
     rw [w64s (show dif (fun j => atB more (1 + j)) (fun j => atB more (10 + j)) i < 9223372036854775807 by omega)]
     exact hr
 · have hx := drawn_len (fun j => atB more (1 + j)) n
   have hy := drawn_len (fun j => atB more (10 + j)) n
   have hd := dif_le (fun j => atB more (1 + j)) (fun j => atB more (10 + j)) n
   have hh := dif_ham (fun j => atB more (1 + j)) (fun j => atB more (10 + j)) n n (Nat.le_refl _)
   generalize drawn (fun j => atB more (1 + j)) n = xs at hx hh
   generalize drawn (fun j => atB more (10 + j)) n = ys at hy hh
   generalize dif (fun j => atB more (1 + j)) (fun j => atB more (10 + j)) n = far at hd hh
   subst hx
   have hxl := validRules_n c
   have hso := SO.impl_ev xs ys rs hl
   have hca := CA.impl_ev (xs.length : Int) rs hl
   obtain ⟨L, hcr, hg, hin, hmem, hnb⟩ := reached_ev xs rs hl c
   have hbr := BR.impl_ev xs rs hl
   have hno := NO.impl_ev xs rs hl
   have e1 : CA.res (xs.length : Int) rs = (CA.cnt rs (2 ^ xs.length), 0) := by unfold CA.res; rw [if_pos c, Int.toNat_natCast]
   have e2 : BR.res xs rs = (BR.broken xs rs rs.length, 0) := by unfold BR.res; rw [if_pos c]
   have e3 : NO.res xs rs = (NO.nexts rs (setN xs xs.length) xs.length, 0) := by unfold NO.res; rw [if_pos c]
   rw [e1] at hca
   rw [e2] at hbr
   rw [e3] at hno
   have hp256 := pow_le_256 (n := xs.length) (by omega)
   obtain ⟨hc1, hc2⟩ := cnt_eq rs (2 ^ xs.length) hp256
   obtain ⟨hle1, hle2⟩ := reached_le hg hin
   have hnl := next_le hmem hnb
   have hnn := NO.nexts_len rs (setN xs xs.length) xs.length
   have hbz := broken_zero xs rs c
   have hbl := BR.broken_len xs rs rs.length
   have hLl := hg.len
   rw [hc1] at hca
   generalize ((List.range (2 ^ xs.length)).filter fun x => okM rs x).length = A at hca hc2 hle1 hle2
   simp only [laws_FnSwitching.l0, if_neg (show ¬ (xs.length : Int) < (xs.length : Int) by omega)]
   refine Ev.bind hso (Ev.bind hca (Ev.bind hcr (Ev.bind hbr (Ev.bind hno ?_))))
   have hmx := fun j hj ho => nexts_mem rs (setN xs xs.length) xs.length j hj ho
   generalize NO.nexts rs (setN xs xs.length) xs.length = nx at hnl hnn hmx
   generalize BR.broken xs rs rs.length = bk at hbz hbl
   obtain ⟨n1, n2, n3, n4, n5, n6, n7, n8⟩ := counts (A := A) (L := L.length) (x := nx.length) (n := xs.length) (List.length_pos_of_mem hmem) hle1 hnn hnl (Nat.le_trans hc2 hp256)
   have key : ∀ (o : List Int) (z : Int), (z = 0 ∨ z = 3) → SO.res xs ys rs = (o, z) → Ev (fun k => laws_FnSwitching.j1 k rs xs ys (far : Int) o z bk nx false) true := fun o z hz hres => by
    unfold SO.res at hres
    have he : xs.length = ys.length := hy.symm
    rw [if_pos c, if_pos he] at hres
    obtain ⟨hdist, hbd⟩ := SO.far_bd xs ys rs c he
    split at hres
    · injection hres with h1 h2
      subst h1
      subst h2
      refine Ev.succ ?_
      simp only [laws_FnSwitching.j1, Bool.false_eq_true, if_false, if_neg (show ¬ (3 : Int) = 0 by omega)]
      exact Ev.now _
    · rename_i h0
      have hb9 := hbd h0
      have hml := setN_lt xs xs.length
      have hpath := way_path hdist (rd (farOf rs xs.length (setN ys ys.length)) ((setN xs xs.length : Nat) : Int)).toNat (setN xs xs.length) hml (by omega)
      have hwl := way_len rs (farOf rs xs.length (setN ys ys.length)) xs.length (rd (farOf rs xs.length (setN ys ys.length)) ((setN xs xs.length : Nat) : Int)).toNat (setN xs xs.length)
      injection hres with h1 h2
      subst h2
      rw [h1] at hpath hwl
      have hlong := hpath.long
      rw [← he] at hlong
      exact tail_ev xs ys rs o bk nx far he hl c hpath (by omega) (by rw [hh]; exact hlong) hbz (by omega) (by omega) hmx
   generalize hsr : SO.res xs ys rs = sr at key
   obtain ⟨o, z⟩ := sr
   have hz : z = 0 ∨ z = 3 := by
    unfold SO.res at hsr
    rw [if_pos c, if_pos hy.symm] at hsr
    split at hsr
    · injection hsr with _ h2; exact .inr h2.symm
    · injection hsr with _ h2; exact .inl h2.symm
   have hj1 := key o z hz rfl
   have hbc : bk.length = 0 → L.length ≤ A := fun h => hle2 (hbz.1 h)
   have d7 := decide_eq_false n7
   by_cases cz : bk.length = 0
   · have m8 := n8 (hbc cz)
     have m9 : (bk.length : Int) = 0 := congrArg Int.ofNat cz
     rcases hz with h0 | h3
     · subst h0
       simp only [if_true, if_neg n1, if_neg n2, n3, if_neg n4, if_neg n5, n6, d7, if_pos m9, if_neg m8]
       exact hj1
     · subst h3
       simp only [if_neg z30, if_true, if_neg n1, if_neg n2, n3, if_neg n4, if_neg n5, n6, d7, if_pos m9, if_neg m8]
       exact hj1
   · have m9 : ¬ (bk.length : Int) = 0 := fun h => cz (Int.ofNat.inj h)
     rcases hz with h0 | h3
     · subst h0
       simp only [if_true, if_neg n1, if_neg n2, n3, if_neg n4, if_neg n5, n6, d7, if_neg m9]
       exact hj1
     · subst h3
       simp only [if_neg z30, if_true, if_neg n1, if_neg n2, n3, if_neg n4, if_neg n5, n6, d7, if_neg m9]
       exact hj1
end Go.Proofs.YtffodlggihmonaaDoor.Pure
