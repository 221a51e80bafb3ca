/- The law FnExactOrdersText, in numbers, texts and lists alone: the program's OrdersText and the reference's give one text, and what they are handed stays as it was. No condition. -/
import Derived.Lib.LazyBuf
import Derived.Lib.ItoaNum
import Derived.Lib.Join
import Derived.Lib.Strings
import Derived.Test.YtffodlggihmonaaDoorQFnExactOrdersText
import Derived.Test.YtffodlggihmonaaDoorPLib
set_option linter.unusedVariables false
set_option linter.unusedSimpArgs false
namespace Go.Proofs.YtffodlggihmonaaDoor.PFnExactOrdersText
open Go.RowKit Go.Proofs.YtffodlggihmonaaDoorW.PrintWords Go.Proofs.YtffodlggihmonaaDoorW.PLib

theorem l00In_eq (a b c : Int) : spec_l00In.f a b c = some (decide (b ≤ a) && decide (a ≤ c)) := by
  unfold spec_l00In.f; by_cases h : a ≥ b
  · rw [if_pos h]; simp [show b ≤ a from h]
  · rw [if_neg h]; simp [show ¬ b ≤ a from h]

theorem rd_at (xs : List Int) (i : Nat) (h : i < xs.length) : rd xs (i : Int) = xs[i] := by unfold rd; exact getD_cast xs i h _
theorem eqInts_ev (xs : List Int) (hl : xs.length < 9223372036854775807) : Ev (fun k => laws_eqInt64S.f k xs xs) true := by
  unfold laws_eqInt64S.f
  simp only [if_true]
  have := all_ev (fun k i => laws_eqInt64S.l0 k xs xs i) xs.length true (fun _ => true) (fun i hi => ⟨0, fun k _ => ?_⟩) ⟨0, fun k _ => ?_⟩
  · rw [allB_const] at this; exact this
  · simp only [laws_eqInt64S.l0]
    rw [if_pos (by omega), if_pos (by omega), if_pos (by omega)]
    simp only [if_true, w64s (show i < 9223372036854775807 by omega)]
  · simp only [laws_eqInt64S.l0]
    rw [if_neg (by omega)]

/-! allWithin, as a test of each place -/
def inB (lo hi : Int) (xs : List Int) (i : Nat) : Bool := decide (lo ≤ rd xs (i : Int)) && decide (rd xs (i : Int) ≤ hi)
theorem all_rd (p : Int → Bool) (xs : List Int) : xs.all p = allB (fun i => p (rd xs (i : Int))) xs.length := by
  rw [Bool.eq_iff_iff, allB_true, List.all_eq_true]
  constructor
  · intro h i hi
    rw [rd_at xs i hi]
    exact h _ (List.getElem_mem hi)
  · intro h x hx
    obtain ⟨i, hi, rfl⟩ := List.getElem_of_mem hx
    have := h i hi
    rw [rd_at xs i hi] at this
    exact this
theorem allWithin_eq (xs : List Int) (lo hi : Int) : impl_allWithin.f xs lo hi = some (allB (inB lo hi xs) xs.length) := by
  unfold impl_allWithin.f
  rw [all_rd]
  rfl
theorem inB_at {lo hi : Int} {xs : List Int} (h : allB (inB lo hi xs) xs.length = true) (i : Nat) (hi' : i < xs.length) : lo ≤ rd xs (i : Int) ∧ rd xs (i : Int) ≤ hi := by
  have := allB_true.1 h i hi'
  unfold inB at this
  simpa using this

/-! orders -/
def okO (xs : List Int) (i : Nat) : Bool := !decide (rd xs (i : Int) = 0) && (decide (-8 ≤ rd xs (i : Int)) && decide (rd xs (i : Int) ≤ 8))
def validOrders (xs : List Int) : Bool := allB (okO xs) xs.length && decide ((xs.length : Int) ≤ 24)
theorem specOrders_ev (xs : List Int) (hl : xs.length < 9223372036854775807) : Ev (fun k => spec_l25Orders.f k xs) (validOrders xs) := by
  unfold spec_l25Orders.f validOrders
  refine all_ev (fun k i => spec_l25Orders.l0 k xs i) xs.length _ (okO xs) (fun i hi => ⟨0, fun k _ => ?_⟩) ⟨0, fun k _ => ?_⟩
  · simp only [spec_l25Orders.l0, if_pos (show (i : Int) < (xs.length : Int) by omega), if_pos (show 0 ≤ (i : Int) by omega), l00In_eq, Option.bind_some, w64s (show i < 9223372036854775807 by omega)]
    by_cases c1 : rd xs (i : Int) = 0
    · rw [if_pos c1, if_neg (by unfold okO; rw [decide_eq_true c1]; simp)]
    · rw [if_neg c1]
      by_cases c2 : (decide (-8 ≤ rd xs (i : Int)) && decide (rd xs (i : Int) ≤ 8)) = true
      · rw [if_pos c2, if_pos (by unfold okO; rw [decide_eq_false c1, c2]; rfl)]
      · rw [if_neg c2, if_neg (by unfold okO; rw [decide_eq_false c1]; simp only [Bool.not_eq_true] at c2; rw [c2]; simp)]
  · simp only [spec_l25Orders.l0, if_neg (show ¬ (xs.length : Int) < (xs.length : Int) by omega)]
/-- The first place, from 0 on, where a stands. -/
def noneOf (xs : List Int) (a : Int) : Bool := allB (fun i => !decide (a = rd xs (i : Int))) xs.length
theorem contains_ev (xs : List Int) (a : Int) (hl : xs.length < 9223372036854775807) : Ev (fun k => slices_Contains_int64_int64.f k xs a) (!(noneOf xs a)) := by
  unfold slices_Contains_int64_int64.f slices_Index_int64_int64.f
  have key := inv_evE (fun k (s : Unit) i => slices_Index_int64_int64.l0 k xs a (xs.length : Int) i) xs.length (fun i _ => ∀ j, j < i → ¬ a = rd xs (j : Int)) (fun r => decide (r ≥ 0) = !(noneOf xs a)) (fun i s hi h => ?_) (fun s h => ?_) xs.length 0 () (by omega) (fun j hj => absurd hj (Nat.not_lt_zero _))
  · obtain ⟨r, hp, h⟩ := key
    refine Ev.bind h ?_
    rw [← hp]
    exact Ev.now _
  · by_cases c : a = rd xs (i : Int)
    · refine .inl ⟨(i : Int), ?_, Ev.succ ?_⟩
      · rw [decide_eq_true (show (i : Int) ≥ 0 by omega)]
        have : ¬ noneOf xs a = true := fun h2 => by
          have := allB_true.1 h2 i hi
          simp [← c] at this
        simp only [Bool.not_eq_true] at this
        rw [this]; rfl
      · simp only [slices_Index_int64_int64.l0, if_pos (show (i : Int) < (xs.length : Int) by omega), if_pos (show 0 ≤ (i : Int) by omega), if_pos c]; exact Ev.now _
    · refine .inr ⟨(), fun j hj => ?_, fun r hr => Ev.succ ?_⟩
      · by_cases e : j = i
        · subst e; exact c
        · exact h j (by omega)
      · simp only [slices_Index_int64_int64.l0, if_pos (show (i : Int) < (xs.length : Int) by omega), if_pos (show 0 ≤ (i : Int) by omega), if_neg c, w64s (show i < 9223372036854775807 by omega)]; exact hr
  · refine ⟨-1, ?_, Ev.succ ?_⟩
    · have : noneOf xs a = true := by
        unfold noneOf
        rw [allB_true]
        intro i hi
        rw [decide_eq_false (h i hi)]; rfl
      rw [this]; rfl
    · simp only [slices_Index_int64_int64.l0, if_neg (show ¬ (xs.length : Int) < (xs.length : Int) by omega)]; exact Ev.now _
theorem validOrders_eq (xs : List Int) : validOrders xs = (decide ((xs.length : Int) ≤ 24) && (allB (inB (-8) 8 xs) xs.length && noneOf xs 0)) := by
  unfold validOrders noneOf
  rw [Bool.eq_iff_iff]
  simp only [Bool.and_eq_true, allB_true, okO, inB]
  constructor
  · rintro ⟨h1, h2⟩
    refine ⟨h2, fun i hi => (h1 i hi).2, fun i hi => ?_⟩
    have := (h1 i hi).1
    simp only [Bool.not_eq_true', decide_eq_false_iff_not] at this ⊢
    exact fun e => this e.symm
  · rintro ⟨h1, h2, h3⟩
    refine ⟨fun i hi => ⟨?_, h2 i hi⟩, h1⟩
    have := h3 i hi
    simp only [Bool.not_eq_true', decide_eq_false_iff_not] at this ⊢
    exact fun e => this e.symm
theorem implOrders_ev (xs : List Int) (hl : xs.length < 9223372036854775807) : Ev (fun k => impl_ordersOk.f k xs) (validOrders xs) := by
  unfold impl_ordersOk.f
  rw [validOrders_eq]
  by_cases c : (xs.length : Int) ≤ 24
  · simp only [if_pos c, allWithin_eq, Option.bind_some, decide_eq_true c, Bool.true_and]
    by_cases c2 : allB (inB (-8) 8 xs) xs.length = true
    · simp only [if_pos c2]
      refine Ev.bind (contains_ev xs 0 hl) ?_
      rw [c2, Bool.true_and, Bool.not_not]
      exact Ev.now _
    · simp only [if_neg c2]
      simp only [Bool.not_eq_true] at c2
      rw [c2]
      exact Ev.now _
  · simp only [if_neg c]
    rw [decide_eq_false c]
    exact Ev.now _
theorem validOrders_len {xs : List Int} (h : validOrders xs = true) : xs.length ≤ 24 := by
  unfold validOrders at h
  simp only [Bool.and_eq_true, decide_eq_true_eq] at h
  omega

theorem toInts_ev (xs : List Int) (hl : xs.length * 8 ≤ 140737488351232) : Ev (fun k => laws_toInt64S.f k xs) xs := by
  refine ⟨xs.length + 1, fun k hk => ?_⟩
  simp only [laws_toInt64S.f]
  rw [if_pos (by omega), if_pos (by omega)]
  have h := to_loop (fun k ys i => laws_toInt64S.l0 k xs ys i) xs id (fun k ys i h hy => ?_) (fun k ys hy => ?_) (List.replicate ((xs.length : Int) : Int).toNat 0) (by simp) k (by omega)
  · rw [List.map_id] at h; exact h
  · simp only [laws_toInt64S.l0]
    rw [if_pos (by omega), if_pos (by omega), if_pos (by omega), w64s (by omega), rd_at xs i h]
    rfl
  · simp only [laws_toInt64S.l0]
    rw [if_neg (by omega)]

/-! numbers in decimal -/
def bn (l : List UInt8) : List Int := l.map fun b => (b.toNat : Int)
theorem bn_len (l : List UInt8) : (bn l).length = l.length := by simp [bn]
theorem bn_rd (l : List UInt8) (i : Nat) (h : i < l.length) : rd (bn l) (i : Int) = ((l[i]).toNat : Int) := by
  unfold rd
  rw [getD_cast (bn l) i (by rw [bn_len]; exact h)]
  simp [bn]
/-- The digits of a number, the last one first. -/
def digR (m : Nat) : List UInt8 := if h : m = 0 then [] else UInt8.ofNat (48 + m % 10) :: digR (m / 10)
termination_by m
decreasing_by omega
theorem digR_zero : digR 0 = [] := by rw [digR, dif_pos rfl]
theorem digR_pos {m : Nat} (h : 0 < m) : digR m = UInt8.ofNat (48 + m % 10) :: digR (m / 10) := by rw [digR, dif_neg (by omega)]
theorem digR_len : ∀ m : Nat, (digR m).length ≤ m := by
  intro m
  induction m using Nat.strongRecOn with
  | ind m ih =>
    rcases Nat.eq_zero_or_pos m with h | h
    · subst h; rw [digR_zero]; exact Nat.le_refl _
    · rw [digR_pos h, List.length_cons]
      have := ih (m / 10) (by omega)
      omega
theorem decDigits_digR : ∀ m : Nat, 0 < m → Lib.decDigits m = (digR m).reverse := by
  intro m
  induction m using Nat.strongRecOn with
  | ind m ih =>
    intro h
    rw [Lib.decDigits, digR_pos h, List.reverse_cons]
    by_cases c : m < 10
    · rw [dif_pos c, Nat.div_eq_of_lt c, digR_zero, Nat.mod_eq_of_lt c]; rfl
    · rw [dif_neg c, ih (m / 10) (by omega) (by omega)]
theorem dig_toNat (m : Nat) : ((UInt8.ofNat (48 + m % 10)).toNat : Int) = 48 + ((m % 10 : Nat) : Int) := by
  rw [UInt8.toNat_ofNat']
  have : m % 10 < 10 := Nat.mod_lt _ (by omega)
  omega
theorem dec_l1 (xs : List UInt8) (hl : xs.length < 140737488355328) : ∀ i, i ≤ xs.length → Ev (fun k => spec_l01Dec.l1 k (bn xs) (bn (xs.drop i).reverse) ((i : Int) - 1)) ⟨xs.reverse.toArray⟩
  | 0, _ => by
    refine Ev.succ ?_
    simp only [spec_l01Dec.l1, if_neg (show ¬ ((0 : Nat) : Int) - 1 ≥ 0 by omega), List.drop_zero]
    rw [show strOfNums (bn xs.reverse) = ⟨xs.reverse.toArray⟩ from Go.Lib.Lz.strOfNums_map _]
    exact Ev.now _
  | i + 1, hi => by
    have ih := dec_l1 xs hl i (by omega)
    refine Ev.succ ?_
    have e : ((i + 1 : Nat) : Int) - 1 = (i : Int) := by omega
    have hlt : (bn (xs.drop (i + 1)).reverse).length < 140737488355328 := by rw [bn_len, List.length_reverse, List.length_drop]; omega
    simp only [spec_l01Dec.l1, e, if_pos (show (i : Int) ≥ 0 by omega), if_pos (show 0 ≤ (i : Int) by omega), bn_len, if_pos (show (i : Int) < (xs.length : Int) by omega), bn_rd xs i (by omega), w64 (x := (i : Int) - 1) (by omega) (by omega)]
    rw [bn_len] at hlt
    simp only [if_pos hlt]
    rw [List.drop_eq_getElem_cons (show i < xs.length by omega), List.reverse_cons] at ih
    simpa [bn] using ih
theorem dec_l0 (n : Nat) : ∀ (m : Nat) (out : List UInt8) (r : ByteArray), out.length + m < 140737488355328 → Ev (fun k => spec_l01Dec.j1 k (bn (out ++ digR m))) r → Ev (fun k => spec_l01Dec.l0 k (n : Int) (bn out) (m : Int)) r := by
  intro m
  induction m using Nat.strongRecOn with
  | ind m ih =>
    intro out r hb h
    refine Ev.succ ?_
    rcases Nat.eq_zero_or_pos m with h0 | h0
    · subst h0
      rw [digR_zero, List.append_nil] at h
      simp only [spec_l01Dec.l0, if_pos (show ((0 : Nat) : Int) = 0 from rfl), if_neg (show ¬ (n : Int) < 0 by omega)]
      exact h
    · rw [digR_pos h0] at h
      have e1 : Int.tmod (m : Int) 10 = ((m % 10 : Nat) : Int) := by rw [Int.tmod_eq_emod_of_nonneg (by omega)]; omega
      have e2 : Int.tdiv (m : Int) 10 = ((m / 10 : Nat) : Int) := by rw [Int.tdiv_eq_ediv_of_nonneg (by omega)]; omega
      have hm : m % 10 < 10 := Nat.mod_lt _ (by omega)
      have hq : m / 10 < m := by omega
      simp only [spec_l01Dec.l0, if_neg (show ¬ (m : Int) = 0 by omega), e1, e2, if_neg (show ¬ ((m % 10 : Nat) : Int) < 0 by omega), bn_len, if_pos (show out.length < 140737488355328 by omega)]
      generalize m / 10 = q at hq h ⊢
      have e3 := dig_toNat m
      generalize m % 10 = d at e3 hm h ⊢
      rw [w64 (x := 48 + (d : Int)) (by omega) (by omega), w64 (x := (q : Int)) (by omega) (by omega), show (48 + (d : Int)) % 256 = ((UInt8.ofNat (48 + d)).toNat : Int) by rw [UInt8.toNat_ofNat']; omega]
      have := ih q hq (out ++ [UInt8.ofNat (48 + d)]) r (by simp; omega) (by simpa using h)
      simpa [bn] using this
/-- A number that is not negative, in decimal. -/
def decB (n : Nat) : ByteArray := ⟨(Lib.decDigits n).toArray⟩
theorem dec_ev (n : Nat) (hn : n < 140737488355000) : Ev (fun k => spec_l01Dec.f k (n : Int)) (decB n) := by
  unfold spec_l01Dec.f
  rcases Nat.eq_zero_or_pos n with h | h
  · subst h
    simp only [if_pos (show ((0 : Nat) : Int) = 0 from rfl)]
    unfold decB
    rw [Lib.decDigits, dif_pos (by omega)]
    exact Ev.now _
  · simp only [if_neg (show ¬ (n : Int) = 0 by omega)]
    refine dec_l0 n n [] _ (by simp; omega) (Ev.succ ?_)
    have hl := digR_len n
    simp only [spec_l01Dec.j1, List.nil_append, bn_len, w64 (x := ((digR n).length : Int) - 1) (by omega) (by omega)]
    have := dec_l1 (digR n) (by omega) (digR n).length (Nat.le_refl _)
    rw [List.drop_length] at this
    unfold decB
    rw [decDigits_digR n h]
    exact this
theorem decDigits_len : ∀ n : Nat, (Lib.decDigits n).length ≤ n + 1 := by
  intro n
  rcases Nat.eq_zero_or_pos n with h | h
  · subst h; rw [Lib.decDigits, dif_pos (by omega)]; simp
  · rw [decDigits_digR n h, List.length_reverse]
    have := digR_len n
    omega
theorem decB_size (n : Nat) : (decB n).size ≤ n + 1 := decDigits_len n
theorem decB_list (n : Nat) : (decB n).data.toList = Lib.decDigits n := rfl
theorem app_list (a b : ByteArray) : (a ++ b).data.toList = a.data.toList ++ b.data.toList := by
  obtain ⟨a⟩ := a
  obtain ⟨b⟩ := b
  rw [ByteArray.mk_append_mk]
  first | done | simp
theorem app_size (a b : ByteArray) : (a ++ b).size = a.size + b.size := by
  have := app_list a b
  rw [Lib.size_eq, Lib.size_eq, Lib.size_eq, this, List.length_append]
theorem bytes_ext {a b : ByteArray} (h : a.data.toList = b.data.toList) : a = b := by
  obtain ⟨⟨a⟩⟩ := a
  obtain ⟨⟨b⟩⟩ := b
  simp_all
/-! texts put together -/
theorem join_snoc (xs : List (List UInt8)) (y sep : List UInt8) (h : xs ≠ []) : Lib.join (xs ++ [y]) sep = Lib.join xs sep ++ sep ++ y := by
  cases xs with
  | nil => exact absurd rfl h
  | cons x r =>
    rw [List.cons_append, Lib.join_cons, Lib.join_cons]
    unfold Lib.joinTail
    simp
def joinB (xs : List ByteArray) (sep : ByteArray) : ByteArray := ⟨(Lib.join (xs.map (·.data.toList)) sep.data.toList).toArray⟩
theorem joinB_list (xs : List ByteArray) (sep : ByteArray) : (joinB xs sep).data.toList = Lib.join (xs.map (·.data.toList)) sep.data.toList := rfl
theorem joinB_one (x sep : ByteArray) : joinB [x] sep = x := bytes_ext (by rw [joinB_list]; simp [Lib.join_one])
theorem joinB_snoc (xs : List ByteArray) (y sep : ByteArray) (h : xs ≠ []) : joinB (xs ++ [y]) sep = (joinB xs sep ++ sep) ++ y := bytes_ext (by
  rw [joinB_list, app_list, app_list, joinB_list, List.map_append, List.map_cons, List.map_nil, join_snoc _ _ _ (by simpa using h)])

/-! the text of orders -/
def openB : ByteArray := ⟨#[111, 112, 101, 110]⟩
def shutB : ByteArray := ⟨#[115, 104, 117, 116]⟩
def spB : ByteArray := ⟨#[32]⟩
def ordT (o : Int) : ByteArray := if o > 0 then openB ++ decB o.natAbs else shutB ++ decB o.natAbs
theorem decimal_eq (n : Nat) (hn : n < 100) : impl_Decimal.f (n : Int) = some (decB n) := by
  unfold impl_Decimal.f strconv_FormatInt.f
  rw [if_pos ⟨by omega, by omega, rfl⟩]
  rfl
theorem orderText_eq (o : Int) (h1 : -8 ≤ o) (h2 : o ≤ 8) : impl_orderText.f o = some (ordT o) := by
  unfold impl_orderText.f ordT
  have hs := decB_size o.natAbs
  by_cases c : o > 0
  · rw [if_pos c, if_pos c]
    obtain ⟨n, rfl⟩ := Int.eq_ofNat_of_zero_le (show 0 ≤ o by omega)
    rw [Int.natAbs_natCast] at hs ⊢
    rw [decimal_eq n (by omega), Option.bind_some, if_pos (by omega)]; rfl
  · rw [if_neg c, if_neg c, w64 (x := -o) (by omega) (by omega)]
    obtain ⟨n, hn⟩ := Int.eq_ofNat_of_zero_le (show 0 ≤ -o by omega)
    have hk : o.natAbs = n := by omega
    rw [hk] at hs ⊢
    rw [hn, decimal_eq n (by omega), Option.bind_some, if_pos (by omega)]; rfl
theorem ordT_size (o : Int) (h1 : -8 ≤ o) (h2 : o ≤ 8) : (ordT o).size ≤ 13 := by
  unfold ordT
  have hs := decB_size o.natAbs
  split
  · rw [app_size, show openB.size = 4 from rfl]; omega
  · rw [app_size, show shutB.size = 4 from rfl]; omega
/-- The text of the first i orders. -/
def ordsT (xs : List Int) (i : Nat) : ByteArray := if i = 0 then ⟨#[]⟩ else joinB ((xs.take i).map ordT) spB
theorem ordsT_succ (xs : List Int) (i : Nat) (h : i < xs.length) : ordsT xs (i + 1) = (if i = 0 then ordsT xs i else ordsT xs i ++ spB) ++ ordT xs[i] := by
  unfold ordsT
  rw [if_neg (by omega), List.take_succ_eq_append_getElem h, List.map_append, List.map_cons, List.map_nil]
  by_cases c : i = 0
  · subst c
    rw [if_pos rfl, if_pos rfl]
    simp only [List.take_zero, List.map_nil, List.nil_append]
    rw [joinB_one]
    exact bytes_ext (by rw [app_list]; rfl)
  · rw [if_neg c, if_neg c, joinB_snoc _ _ _ (by
      intro e
      have := congrArg List.length e
      simp only [List.length_map, List.length_take, List.length_nil] at this
      omega)]
theorem ordsT_size (xs : List Int) (hx : ∀ j (h : j < xs.length), -8 ≤ xs[j] ∧ xs[j] ≤ 8) : ∀ i, i ≤ xs.length → (ordsT xs i).size ≤ 14 * i
  | 0, _ => by unfold ordsT; rw [if_pos rfl]; exact Nat.le_refl _
  | i + 1, hi => by
    have ih := ordsT_size xs hx i (by omega)
    have h2 := hx i (by omega)
    have h3 := ordT_size _ h2.1 h2.2
    rw [ordsT_succ xs i (by omega), app_size]
    split
    · omega
    · rw [app_size, show spB.size = 1 from rfl]; omega
theorem validOrders_at {xs : List Int} (h : validOrders xs = true) (i : Nat) (hi : i < xs.length) : xs[i] ≠ 0 ∧ -8 ≤ xs[i] ∧ xs[i] ≤ 8 := by
  unfold validOrders at h
  simp only [Bool.and_eq_true] at h
  have := allB_true.1 h.1 i hi
  unfold okO at this
  rw [rd_at xs i hi] at this
  simp only [Bool.and_eq_true, Bool.not_eq_true', decide_eq_false_iff_not, decide_eq_true_eq] at this
  exact ⟨this.1, this.2.1, this.2.2⟩
def textRes (xs : List Int) : ByteArray := if validOrders xs = true then (if xs.length = 0 then ⟨#[45]⟩ else ordsT xs xs.length) else ⟨#[]⟩
theorem implText_ev (xs : List Int) (h : xs.length < 9223372036854775807) : Ev (fun k => impl_OrdersText.f k xs) (textRes xs) := by
  unfold impl_OrdersText.f textRes
  refine Ev.bind (implOrders_ev xs h) ?_
  by_cases c : validOrders xs = true
  · simp only [if_pos c]
    have hn := validOrders_len c
    have hv := validOrders_at c
    by_cases c0 : xs.length = 0
    · simp only [if_pos c0, if_pos (show (xs.length : Int) = 0 by omega)]; exact Ev.now _
    · simp only [if_neg c0, if_neg (show ¬ (xs.length : Int) = 0 by omega)]
      refine fold_from (fun k s i => impl_OrdersText.l0 k s xs (xs.length : Int) i) 0 xs.length (fun i => (xs.take i).map ordT) _ (Nat.zero_le _) (fun i _ hi r hr => Ev.succ ?_) (Ev.succ ?_)
      · have hvi := hv i hi
        have hl : ((xs.take i).map ordT).length < 8796093022208 := by rw [List.length_map, List.length_take]; omega
        simp only [impl_OrdersText.l0, if_pos (show (i : Int) < (xs.length : Int) by omega), if_pos (show 0 ≤ (i : Int) by omega), rd_at xs i hi, orderText_eq _ hvi.2.1 hvi.2.2, Option.bind_some, if_pos hl, w64s (show i < 9223372036854775807 by omega)]
        rw [List.take_succ_eq_append_getElem hi, List.map_append] at hr
        exact hr
      · simp only [impl_OrdersText.l0, if_neg (show ¬ (xs.length : Int) < (xs.length : Int) by omega)]
        have hs := ordsT_size xs (fun j hj => (hv j hj).2) xs.length (Nat.le_refl _)
        unfold ordsT at hs ⊢
        rw [if_neg c0] at hs ⊢
        unfold strings_Join.f
        rw [if_pos ⟨by rw [List.length_map, List.length_take]; omega, by
          rw [Lib.size_eq, joinB_list] at hs
          have : (⟨#[32]⟩ : ByteArray) = spB := rfl
          rw [this]
          omega⟩]
        exact Ev.now _
  · simp only [if_neg c]; exact Ev.now _
theorem specText_ev (xs : List Int) (h : xs.length < 9223372036854775807) : Ev (fun k => spec_OrdersText.f k xs) (textRes xs) := by
  unfold spec_OrdersText.f textRes
  refine Ev.bind (specOrders_ev xs h) ?_
  by_cases c : validOrders xs = true
  · simp only [if_pos c]
    refine Ev.bind (r := if xs.length = 0 then ⟨#[45]⟩ else ordsT xs xs.length) ?_ (Ev.now _)
    have hn := validOrders_len c
    have hv := validOrders_at c
    unfold spec_l25Text.f
    by_cases c0 : xs.length = 0
    · simp only [if_pos c0, if_pos (show (xs.length : Int) = 0 by omega)]; exact Ev.now _
    · simp only [if_neg c0, if_neg (show ¬ (xs.length : Int) = 0 by omega)]
      refine fold_from (fun k s i => spec_l25Text.l0 k xs s i) 0 xs.length (fun i => ordsT xs i) _ (Nat.zero_le _) (fun i _ hi r hr => Ev.succ ?_) (Ev.succ ?_)
      · have hvi := hv i hi
        have hs := ordsT_size xs (fun j hj => (hv j hj).2) i (by omega)
        have ht := ordT_size _ hvi.2.1 hvi.2.2
        have hd := decB_size (xs[i]).natAbs
        have key : Ev (fun k => spec_l25Text.j1 k xs (if i = 0 then ordsT xs i else ordsT xs i ++ spB) (i : Int)) r := by
          refine Ev.succ ?_
          have hs2 : (if i = 0 then ordsT xs i else ordsT xs i ++ spB).size ≤ 14 * i + 1 := by
            split
            · omega
            · rw [app_size, show spB.size = 1 from rfl]; omega
          rw [ordsT_succ xs i hi] at hr
          generalize (if i = 0 then ordsT xs i else ordsT xs i ++ spB) = t at hs2 hr ⊢
          simp only [spec_l25Text.j1, if_pos (show 0 ≤ (i : Int) by omega), if_pos (show (i : Int) < (xs.length : Int) by omega), rd_at xs i hi]
          by_cases cp : xs[i] > 0
          · simp only [if_pos cp]
            have e : xs[i] = ((xs[i].natAbs : Nat) : Int) := by omega
            have he := dec_ev xs[i].natAbs (by omega)
            rw [← e] at he
            refine Ev.bind he ?_
            unfold ordT at hr ht
            rw [if_pos cp] at hr ht
            have e4 : (⟨#[111, 112, 101, 110]⟩ : ByteArray) = openB := rfl
            simp only [e4, if_pos (show 4 + (decB (xs[i]).natAbs).size ≤ 9223372036854775807 by omega), if_pos (show t.size + (openB ++ decB (xs[i]).natAbs).size ≤ 9223372036854775807 by omega), w64s (show i < 9223372036854775807 by omega)]
            exact hr
          · simp only [if_neg cp, w64 (x := -xs[i]) (by omega) (by omega)]
            have e : -xs[i] = ((xs[i].natAbs : Nat) : Int) := by omega
            have he := dec_ev xs[i].natAbs (by omega)
            rw [← e] at he
            refine Ev.bind he ?_
            unfold ordT at hr ht
            rw [if_neg cp] at hr ht
            have e4 : (⟨#[115, 104, 117, 116]⟩ : ByteArray) = shutB := rfl
            simp only [e4, if_pos (show 4 + (decB (xs[i]).natAbs).size ≤ 9223372036854775807 by omega), if_pos (show t.size + (shutB ++ decB (xs[i]).natAbs).size ≤ 9223372036854775807 by omega), w64s (show i < 9223372036854775807 by omega)]
            exact hr
        simp only [spec_l25Text.l0, if_pos (show (i : Int) < (xs.length : Int) by omega)]
        by_cases ci : i = 0
        · simp only [if_neg (show ¬ (i : Int) > 0 by omega)]
          rw [if_pos ci] at key
          exact key
        · simp only [if_pos (show (i : Int) > 0 by omega), if_pos (show (ordsT xs i).size + 1 ≤ 9223372036854775807 by omega)]
          rw [if_neg ci] at key
          exact key
      · simp only [spec_l25Text.l0, if_neg (show ¬ (xs.length : Int) < (xs.length : Int) by omega)]; exact Ev.now _
  · simp only [if_neg c]; exact Ev.now _

end Go.Proofs.YtffodlggihmonaaDoor.PFnExactOrdersText
namespace Go.Proofs.YtffodlggihmonaaDoor.Pure
open Go.RowKit Go.Proofs.YtffodlggihmonaaDoorW.PrintWords Go.Proofs.YtffodlggihmonaaDoorW.PLib Go.Proofs.YtffodlggihmonaaDoor.PFnExactOrdersText

theorem FnExactOrdersText : PFnExactOrdersText.Pure := by
  intro xs hx
  obtain ⟨_, hl, _⟩ := hx
  have hs : xs.length < 9223372036854775807 := by omega
  refine Ev.get ?_
  unfold laws_FnExactOrdersText.f
  by_cases cp : (xs.length : Int) > 1048576
  · simp only [if_pos cp]; exact Ev.now _
  simp only [if_neg cp]
  refine Ev.bind (toInts_ev xs hl) (Ev.bind (specText_ev _ hs) (Ev.bind (toInts_ev xs hl) (Ev.bind (implText_ev _ hs) ?_)))
  simp only [if_true]
  refine Ev.bind (toInts_ev xs hl) (Ev.bind (eqInts_ev _ hs) ?_)
  simp only [if_true]
  exact Ev.now _
end Go.Proofs.YtffodlggihmonaaDoor.Pure

