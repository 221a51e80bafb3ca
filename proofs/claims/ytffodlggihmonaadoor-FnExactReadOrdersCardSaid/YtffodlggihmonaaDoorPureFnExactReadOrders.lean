/- The law FnExactReadOrders, in numbers, texts and lists alone: the program's ReadOrders and the reference's give one answer, and what is handed back is new. No condition. -/
import Derived.Lib.LazyBuf
import Derived.Lib.ItoaNum
import Derived.Lib.Join
import Derived.Lib.Strings
import Derived.Lib.Split
import Derived.Test.YtffodlggihmonaaDoorQFnExactReadOrders
import Derived.Test.YtffodlggihmonaaDoorPLib
set_option linter.unusedVariables false
set_option linter.unusedSimpArgs false
namespace Go.Proofs.YtffodlggihmonaaDoor.PFnExactReadOrders
open Go.RowKit Go.Proofs.YtffodlggihmonaaDoorW.PrintWords Go.Proofs.YtffodlggihmonaaDoorW.PLib

theorem l00In_eq (a b c : Int) : spec_l00In.f a b c = some (decide (b ≤ a) && decide (a ≤ c)) := by
  unfold spec_l00In.f; by_cases h : a ≥ b
  · rw [if_pos h]; simp [show b ≤ a from h]
  · rw [if_neg h]; simp [show ¬ b ≤ a from h]

theorem rd_at (xs : List Int) (i : Nat) (h : i < xs.length) : rd xs (i : Int) = xs[i] := by unfold rd; exact getD_cast xs i h _
theorem eqInts_ev (xs : List Int) (hl : xs.length < 9223372036854775807) : Ev (fun k => laws_eqInt64S.f k xs xs) true := by
  unfold laws_eqInt64S.f
  simp only [if_true]
  have := all_ev (fun k i => laws_eqInt64S.l0 k xs xs i) xs.length true (fun _ => true) (fun i hi => ⟨0, fun k _ => ?_⟩) ⟨0, fun k _ => ?_⟩
  · rw [allB_const] at this; exact this
  · simp only [laws_eqInt64S.l0]
    rw [if_pos (by omega), if_pos (by omega), if_pos (by omega)]
    simp only [if_true, w64s (show i < 9223372036854775807 by omega)]
  · simp only [laws_eqInt64S.l0]
    rw [if_neg (by omega)]

/-- What a list reads behind its marking, i of its numbers being marked. -/
def mk1 (xs : List Int) (i : Nat) : List Int := (List.range i).map (fun j : Nat => (j : Int) + 1) ++ xs.drop i
theorem mk1_len (xs : List Int) (i : Nat) (h : i ≤ xs.length) : (mk1 xs i).length = xs.length := by simp [mk1]; omega
theorem mk1_set (xs : List Int) (i : Nat) (h : i < xs.length) : (mk1 xs i).set i ((i : Int) + 1) = mk1 xs (i + 1) := by
  unfold mk1
  rw [List.set_append_right _ _ (by simp)]
  simp only [List.length_map, List.length_range, Nat.sub_self]
  rw [List.range_succ, List.map_append, List.append_assoc]
  congr 1
  rw [List.drop_eq_getElem_cons h]
  rfl
theorem markInts_ev (xs : List Int) (hl : xs.length < 4611686018427387904) : Ev (fun k => laws_markInt64S.f k xs 1) ((xs.length : Int) + 1, mk1 xs xs.length) := by
  unfold laws_markInt64S.f
  have h := fold_ev (fun k (s : List Int × Int) i => laws_markInt64S.l0 k s.1 s.2 i) xs.length (fun i => (mk1 xs i, (i : Int) + 1)) ((xs.length : Int) + 1, mk1 xs xs.length) (fun i hi => ⟨0, fun k _ => ?_⟩) ⟨0, fun k _ => ?_⟩ 0 (by omega)
  · simpa [mk1] using h
  · simp only [laws_markInt64S.l0, mk1_len xs i (by omega)]
    rw [if_pos (by omega), if_pos (by omega), w64s (by omega)]
    rw [show ((i : Int)).toNat = i from by omega, mk1_set xs i hi, show wrap64 ((i : Int) + 1 + 1) = ((i + 1 : Nat) : Int) + 1 from by rw [w64] <;> omega]
  · simp only [laws_markInt64S.l0, mk1_len xs xs.length (Nat.le_refl _)]
    rw [if_neg (by omega)]
theorem heldInts_ev (xs : List Int) (hl : xs.length < 4611686018427387904) : Ev (fun k => laws_heldInt64S.f k (mk1 xs xs.length) 1) ((xs.length : Int) + 1) := by
  unfold laws_heldInt64S.f
  have e := mk1_len xs xs.length (Nat.le_refl _)
  have h := fold_ev (fun k (s : Int) i => laws_heldInt64S.l0 k (mk1 xs xs.length) s i) xs.length (fun i => (i : Int) + 1) ((xs.length : Int) + 1) (fun i hi => ⟨0, fun k _ => ?_⟩) ⟨0, fun k _ => ?_⟩ 0 (by omega)
  · simpa using h
  · simp only [laws_heldInt64S.l0, e]
    have hr : rd (mk1 xs xs.length) (i : Int) = (i : Int) + 1 := by
      rw [rd_at _ i (by rw [e]; exact hi)]
      simp [mk1, List.getElem_append, hi]
    rw [if_pos (by omega), if_pos (by omega), hr, if_pos rfl, w64s (by omega), show wrap64 ((i : Int) + 1 + 1) = ((i + 1 : Nat) : Int) + 1 from by rw [w64] <;> omega]
  · simp only [laws_heldInt64S.l0, e]
    rw [if_neg (by omega)]

/-! allWithin, as a test of each place -/
def inB (lo hi : Int) (xs : List Int) (i : Nat) : Bool := decide (lo ≤ rd xs (i : Int)) && decide (rd xs (i : Int) ≤ hi)
theorem all_rd (p : Int → Bool) (xs : List Int) : xs.all p = allB (fun i => p (rd xs (i : Int))) xs.length := by
  rw [Bool.eq_iff_iff, allB_true, List.all_eq_true]
  constructor
  · intro h i hi
    rw [rd_at xs i hi]
    exact h _ (List.getElem_mem hi)
  · intro h x hx
    obtain ⟨i, hi, rfl⟩ := List.getElem_of_mem hx
    have := h i hi
    rw [rd_at xs i hi] at this
    exact this
theorem allWithin_eq (xs : List Int) (lo hi : Int) : impl_allWithin.f xs lo hi = some (allB (inB lo hi xs) xs.length) := by
  unfold impl_allWithin.f
  rw [all_rd]
  rfl
theorem inB_at {lo hi : Int} {xs : List Int} (h : allB (inB lo hi xs) xs.length = true) (i : Nat) (hi' : i < xs.length) : lo ≤ rd xs (i : Int) ∧ rd xs (i : Int) ≤ hi := by
  have := allB_true.1 h i hi'
  unfold inB at this
  simpa using this

/-! orders -/
def okO (xs : List Int) (i : Nat) : Bool := !decide (rd xs (i : Int) = 0) && (decide (-8 ≤ rd xs (i : Int)) && decide (rd xs (i : Int) ≤ 8))
def validOrders (xs : List Int) : Bool := allB (okO xs) xs.length && decide ((xs.length : Int) ≤ 24)
theorem specOrders_ev (xs : List Int) (hl : xs.length < 9223372036854775807) : Ev (fun k => spec_l25Orders.f k xs) (validOrders xs) := by
  unfold spec_l25Orders.f validOrders
  refine all_ev (fun k i => spec_l25Orders.l0 k xs i) xs.length _ (okO xs) (fun i hi => ⟨0, fun k _ => ?_⟩) ⟨0, fun k _ => ?_⟩
  · simp only [spec_l25Orders.l0, if_pos (show (i : Int) < (xs.length : Int) by omega), if_pos (show 0 ≤ (i : Int) by omega), l00In_eq, Option.bind_some, w64s (show i < 9223372036854775807 by omega)]
    by_cases c1 : rd xs (i : Int) = 0
    · rw [if_pos c1, if_neg (by unfold okO; rw [decide_eq_true c1]; simp)]
    · rw [if_neg c1]
      by_cases c2 : (decide (-8 ≤ rd xs (i : Int)) && decide (rd xs (i : Int) ≤ 8)) = true
      · rw [if_pos c2, if_pos (by unfold okO; rw [decide_eq_false c1, c2]; rfl)]
      · rw [if_neg c2, if_neg (by unfold okO; rw [decide_eq_false c1]; simp only [Bool.not_eq_true] at c2; rw [c2]; simp)]
  · simp only [spec_l25Orders.l0, if_neg (show ¬ (xs.length : Int) < (xs.length : Int) by omega)]
/-- The first place, from 0 on, where a stands. -/
def noneOf (xs : List Int) (a : Int) : Bool := allB (fun i => !decide (a = rd xs (i : Int))) xs.length
theorem contains_ev (xs : List Int) (a : Int) (hl : xs.length < 9223372036854775807) : Ev (fun k => slices_Contains_int64_int64.f k xs a) (!(noneOf xs a)) := by
  unfold slices_Contains_int64_int64.f slices_Index_int64_int64.f
  have key := inv_evE (fun k (s : Unit) i => slices_Index_int64_int64.l0 k xs a (xs.length : Int) i) xs.length (fun i _ => ∀ j, j < i → ¬ a = rd xs (j : Int)) (fun r => decide (r ≥ 0) = !(noneOf xs a)) (fun i s hi h => ?_) (fun s h => ?_) xs.length 0 () (by omega) (fun j hj => absurd hj (Nat.not_lt_zero _))
  · obtain ⟨r, hp, h⟩ := key
    refine Ev.bind h ?_
    rw [← hp]
    exact Ev.now _
  · by_cases c : a = rd xs (i : Int)
    · refine .inl ⟨(i : Int), ?_, Ev.succ ?_⟩
      · rw [decide_eq_true (show (i : Int) ≥ 0 by omega)]
        have : ¬ noneOf xs a = true := fun h2 => by
          have := allB_true.1 h2 i hi
          simp [← c] at this
        simp only [Bool.not_eq_true] at this
        rw [this]; rfl
      · simp only [slices_Index_int64_int64.l0, if_pos (show (i : Int) < (xs.length : Int) by omega), if_pos (show 0 ≤ (i : Int) by omega), if_pos c]; exact Ev.now _
    · refine .inr ⟨(), fun j hj => ?_, fun r hr => Ev.succ ?_⟩
      · by_cases e : j = i
        · subst e; exact c
        · exact h j (by omega)
      · simp only [slices_Index_int64_int64.l0, if_pos (show (i : Int) < (xs.length : Int) by omega), if_pos (show 0 ≤ (i : Int) by omega), if_neg c, w64s (show i < 9223372036854775807 by omega)]; exact hr
  · refine ⟨-1, ?_, Ev.succ ?_⟩
    · have : noneOf xs a = true := by
        unfold noneOf
        rw [allB_true]
        intro i hi
        rw [decide_eq_false (h i hi)]; rfl
      rw [this]; rfl
    · simp only [slices_Index_int64_int64.l0, if_neg (show ¬ (xs.length : Int) < (xs.length : Int) by omega)]; exact Ev.now _
theorem validOrders_eq (xs : List Int) : validOrders xs = (decide ((xs.length : Int) ≤ 24) && (allB (inB (-8) 8 xs) xs.length && noneOf xs 0)) := by
  unfold validOrders noneOf
  rw [Bool.eq_iff_iff]
  simp only [Bool.and_eq_true, allB_true, okO, inB]
  constructor
  · rintro ⟨h1, h2⟩
    refine ⟨h2, fun i hi => (h1 i hi).2, fun i hi => ?_⟩
    have := (h1 i hi).1
    simp only [Bool.not_eq_true', decide_eq_false_iff_not] at this ⊢
    exact fun e => this e.symm
  · rintro ⟨h1, h2, h3⟩
    refine ⟨fun i hi => ⟨?_, h2 i hi⟩, h1⟩
    have := h3 i hi
    simp only [Bool.not_eq_true', decide_eq_false_iff_not] at this ⊢
    exact fun e => this e.symm
theorem implOrders_ev (xs : List Int) (hl : xs.length < 9223372036854775807) : Ev (fun k => impl_ordersOk.f k xs) (validOrders xs) := by
  unfold impl_ordersOk.f
  rw [validOrders_eq]
  by_cases c : (xs.length : Int) ≤ 24
  · simp only [if_pos c, allWithin_eq, Option.bind_some, decide_eq_true c, Bool.true_and]
    by_cases c2 : allB (inB (-8) 8 xs) xs.length = true
    · simp only [if_pos c2]
      refine Ev.bind (contains_ev xs 0 hl) ?_
      rw [c2, Bool.true_and, Bool.not_not]
      exact Ev.now _
    · simp only [if_neg c2]
      simp only [Bool.not_eq_true] at c2
      rw [c2]
      exact Ev.now _
  · simp only [if_neg c]
    rw [decide_eq_false c]
    exact Ev.now _
theorem validOrders_len {xs : List Int} (h : validOrders xs = true) : xs.length ≤ 24 := by
  unfold validOrders at h
  simp only [Bool.and_eq_true, decide_eq_true_eq] at h
  omega

/-! numbers in decimal -/
/-- The digits of a number, the last one first. -/
def digR (m : Nat) : List UInt8 := if h : m = 0 then [] else UInt8.ofNat (48 + m % 10) :: digR (m / 10)
termination_by m
decreasing_by omega
theorem digR_zero : digR 0 = [] := by rw [digR, dif_pos rfl]
theorem digR_pos {m : Nat} (h : 0 < m) : digR m = UInt8.ofNat (48 + m % 10) :: digR (m / 10) := by rw [digR, dif_neg (by omega)]
theorem digR_len : ∀ m : Nat, (digR m).length ≤ m := by
  intro m
  induction m using Nat.strongRecOn with
  | ind m ih =>
    rcases Nat.eq_zero_or_pos m with h | h
    · subst h; rw [digR_zero]; exact Nat.le_refl _
    · rw [digR_pos h, List.length_cons]
      have := ih (m / 10) (by omega)
      omega
theorem decDigits_digR : ∀ m : Nat, 0 < m → Lib.decDigits m = (digR m).reverse := by
  intro m
  induction m using Nat.strongRecOn with
  | ind m ih =>
    intro h
    rw [Lib.decDigits, digR_pos h, List.reverse_cons]
    by_cases c : m < 10
    · rw [dif_pos c, Nat.div_eq_of_lt c, digR_zero, Nat.mod_eq_of_lt c]; rfl
    · rw [dif_neg c, ih (m / 10) (by omega) (by omega)]
/-- A number that is not negative, in decimal. -/
def decB (n : Nat) : ByteArray := ⟨(Lib.decDigits n).toArray⟩
theorem decDigits_len : ∀ n : Nat, (Lib.decDigits n).length ≤ n + 1 := by
  intro n
  rcases Nat.eq_zero_or_pos n with h | h
  · subst h; rw [Lib.decDigits, dif_pos (by omega)]; simp
  · rw [decDigits_digR n h, List.length_reverse]
    have := digR_len n
    omega
theorem decB_size (n : Nat) : (decB n).size ≤ n + 1 := decDigits_len n
theorem decB_list (n : Nat) : (decB n).data.toList = Lib.decDigits n := rfl
theorem app_list (a b : ByteArray) : (a ++ b).data.toList = a.data.toList ++ b.data.toList := by
  obtain ⟨a⟩ := a
  obtain ⟨b⟩ := b
  rw [ByteArray.mk_append_mk]
  first | done | simp
theorem app_size (a b : ByteArray) : (a ++ b).size = a.size + b.size := by
  have := app_list a b
  rw [Lib.size_eq, Lib.size_eq, Lib.size_eq, this, List.length_append]
theorem bytes_ext {a b : ByteArray} (h : a.data.toList = b.data.toList) : a = b := by
  obtain ⟨⟨a⟩⟩ := a
  obtain ⟨⟨b⟩⟩ := b
  simp_all
/-! texts put together -/
theorem join_snoc (xs : List (List UInt8)) (y sep : List UInt8) (h : xs ≠ []) : Lib.join (xs ++ [y]) sep = Lib.join xs sep ++ sep ++ y := by
  cases xs with
  | nil => exact absurd rfl h
  | cons x r =>
    rw [List.cons_append, Lib.join_cons, Lib.join_cons]
    unfold Lib.joinTail
    simp
def joinB (xs : List ByteArray) (sep : ByteArray) : ByteArray := ⟨(Lib.join (xs.map (·.data.toList)) sep.data.toList).toArray⟩
theorem joinB_list (xs : List ByteArray) (sep : ByteArray) : (joinB xs sep).data.toList = Lib.join (xs.map (·.data.toList)) sep.data.toList := rfl
theorem joinB_one (x sep : ByteArray) : joinB [x] sep = x := bytes_ext (by rw [joinB_list]; simp [Lib.join_one])
theorem joinB_snoc (xs : List ByteArray) (y sep : ByteArray) (h : xs ≠ []) : joinB (xs ++ [y]) sep = (joinB xs sep ++ sep) ++ y := bytes_ext (by
  rw [joinB_list, app_list, app_list, joinB_list, List.map_append, List.map_cons, List.map_nil, join_snoc _ _ _ (by simpa using h)])

/-! the text of orders -/
def openB : ByteArray := ⟨#[111, 112, 101, 110]⟩
def shutB : ByteArray := ⟨#[115, 104, 117, 116]⟩
def spB : ByteArray := ⟨#[32]⟩
def ordT (o : Int) : ByteArray := if o > 0 then openB ++ decB o.natAbs else shutB ++ decB o.natAbs
theorem decimal_eq (n : Nat) (hn : n < 100) : impl_Decimal.f (n : Int) = some (decB n) := by
  unfold impl_Decimal.f strconv_FormatInt.f
  rw [if_pos ⟨by omega, by omega, rfl⟩]
  rfl
theorem orderText_eq (o : Int) (h1 : -8 ≤ o) (h2 : o ≤ 8) : impl_orderText.f o = some (ordT o) := by
  unfold impl_orderText.f ordT
  have hs := decB_size o.natAbs
  by_cases c : o > 0
  · rw [if_pos c, if_pos c]
    obtain ⟨n, rfl⟩ := Int.eq_ofNat_of_zero_le (show 0 ≤ o by omega)
    rw [Int.natAbs_natCast] at hs ⊢
    rw [decimal_eq n (by omega), Option.bind_some, if_pos (by omega)]; rfl
  · rw [if_neg c, if_neg c, w64 (x := -o) (by omega) (by omega)]
    obtain ⟨n, hn⟩ := Int.eq_ofNat_of_zero_le (show 0 ≤ -o by omega)
    have hk : o.natAbs = n := by omega
    rw [hk] at hs ⊢
    rw [hn, decimal_eq n (by omega), Option.bind_some, if_pos (by omega)]; rfl
theorem ordT_size (o : Int) (h1 : -8 ≤ o) (h2 : o ≤ 8) : (ordT o).size ≤ 13 := by
  unfold ordT
  have hs := decB_size o.natAbs
  split
  · rw [app_size, show openB.size = 4 from rfl]; omega
  · rw [app_size, show shutB.size = 4 from rfl]; omega
/-- The text of the first i orders. -/
def ordsT (xs : List Int) (i : Nat) : ByteArray := if i = 0 then ⟨#[]⟩ else joinB ((xs.take i).map ordT) spB
theorem ordsT_succ (xs : List Int) (i : Nat) (h : i < xs.length) : ordsT xs (i + 1) = (if i = 0 then ordsT xs i else ordsT xs i ++ spB) ++ ordT xs[i] := by
  unfold ordsT
  rw [if_neg (by omega), List.take_succ_eq_append_getElem h, List.map_append, List.map_cons, List.map_nil]
  by_cases c : i = 0
  · subst c
    rw [if_pos rfl, if_pos rfl]
    simp only [List.take_zero, List.map_nil, List.nil_append]
    rw [joinB_one]
    exact bytes_ext (by rw [app_list]; rfl)
  · rw [if_neg c, if_neg c, joinB_snoc _ _ _ (by
      intro e
      have := congrArg List.length e
      simp only [List.length_map, List.length_take, List.length_nil] at this
      omega)]
theorem ordsT_size (xs : List Int) (hx : ∀ j (h : j < xs.length), -8 ≤ xs[j] ∧ xs[j] ≤ 8) : ∀ i, i ≤ xs.length → (ordsT xs i).size ≤ 14 * i
  | 0, _ => by unfold ordsT; rw [if_pos rfl]; exact Nat.le_refl _
  | i + 1, hi => by
    have ih := ordsT_size xs hx i (by omega)
    have h2 := hx i (by omega)
    have h3 := ordT_size _ h2.1 h2.2
    rw [ordsT_succ xs i (by omega), app_size]
    split
    · omega
    · rw [app_size, show spB.size = 1 from rfl]; omega
theorem validOrders_at {xs : List Int} (h : validOrders xs = true) (i : Nat) (hi : i < xs.length) : xs[i] ≠ 0 ∧ -8 ≤ xs[i] ∧ xs[i] ≤ 8 := by
  unfold validOrders at h
  simp only [Bool.and_eq_true] at h
  have := allB_true.1 h.1 i hi
  unfold okO at this
  rw [rd_at xs i hi] at this
  simp only [Bool.and_eq_true, Bool.not_eq_true', decide_eq_false_iff_not, decide_eq_true_eq] at this
  exact ⟨this.1, this.2.1, this.2.2⟩
def textRes (xs : List Int) : ByteArray := if validOrders xs = true then (if xs.length = 0 then ⟨#[45]⟩ else ordsT xs xs.length) else ⟨#[]⟩
theorem implText_ev (xs : List Int) (h : xs.length < 9223372036854775807) : Ev (fun k => impl_OrdersText.f k xs) (textRes xs) := by
  unfold impl_OrdersText.f textRes
  refine Ev.bind (implOrders_ev xs h) ?_
  by_cases c : validOrders xs = true
  · simp only [if_pos c]
    have hn := validOrders_len c
    have hv := validOrders_at c
    by_cases c0 : xs.length = 0
    · simp only [if_pos c0, if_pos (show (xs.length : Int) = 0 by omega)]; exact Ev.now _
    · simp only [if_neg c0, if_neg (show ¬ (xs.length : Int) = 0 by omega)]
      refine fold_from (fun k s i => impl_OrdersText.l0 k s xs (xs.length : Int) i) 0 xs.length (fun i => (xs.take i).map ordT) _ (Nat.zero_le _) (fun i _ hi r hr => Ev.succ ?_) (Ev.succ ?_)
      · have hvi := hv i hi
        have hl : ((xs.take i).map ordT).length < 8796093022208 := by rw [List.length_map, List.length_take]; omega
        simp only [impl_OrdersText.l0, if_pos (show (i : Int) < (xs.length : Int) by omega), if_pos (show 0 ≤ (i : Int) by omega), rd_at xs i hi, orderText_eq _ hvi.2.1 hvi.2.2, Option.bind_some, if_pos hl, w64s (show i < 9223372036854775807 by omega)]
        rw [List.take_succ_eq_append_getElem hi, List.map_append] at hr
        exact hr
      · simp only [impl_OrdersText.l0, if_neg (show ¬ (xs.length : Int) < (xs.length : Int) by omega)]
        have hs := ordsT_size xs (fun j hj => (hv j hj).2) xs.length (Nat.le_refl _)
        unfold ordsT at hs ⊢
        rw [if_neg c0] at hs ⊢
        unfold strings_Join.f
        rw [if_pos ⟨by rw [List.length_map, List.length_take]; omega, by
          rw [Lib.size_eq, joinB_list] at hs
          have : (⟨#[32]⟩ : ByteArray) = spB := rfl
          rw [this]
          omega⟩]
        exact Ev.now _
  · simp only [if_neg c]; exact Ev.now _

/-! a text in pieces -/
/-- A list of bytes, divided at each byte b. -/
def spl (b : UInt8) : List UInt8 → List (List UInt8)
  | [] => [[]]
  | c :: l => if c = b then [] :: spl b l else match spl b l with | [] => [[c]] | p :: ps => (c :: p) :: ps
def glue (a : List UInt8) : List (List UInt8) → List (List UInt8)
  | [] => [a]
  | p :: ps => (a ++ p) :: ps
theorem spl_ne (b : UInt8) (l : List UInt8) : spl b l ≠ [] := by
  cases l with
  | nil => simp [spl]
  | cons c l =>
    unfold spl
    split
    · simp
    · split <;> simp
theorem spl_cons_ne (b c : UInt8) (l : List UInt8) (h : c ≠ b) : spl b (c :: l) = glue [c] (spl b l) := by
  rw [spl, if_neg h]
  cases spl b l <;> rfl
theorem glue_glue (a c : List UInt8) (L : List (List UInt8)) (h : L ≠ []) : glue a (glue c L) = glue (a ++ c) L := by
  cases L with
  | nil => exact absurd rfl h
  | cons p ps => simp [glue]
theorem glue_nil (L : List (List UInt8)) (h : L ≠ []) : glue [] L = L := by
  cases L with
  | nil => exact absurd rfl h
  | cons p ps => rfl
theorem spl_app (b : UInt8) (a l : List UInt8) (h : ∀ c ∈ a, c ≠ b) : spl b (a ++ l) = glue a (spl b l) := by
  induction a with
  | nil => rw [List.nil_append, glue_nil _ (spl_ne b l)]
  | cons c a ih =>
    rw [List.cons_append, spl_cons_ne b c _ (h c List.mem_cons_self), ih (fun x hx => h x (List.mem_cons_of_mem _ hx)), glue_glue _ _ _ (spl_ne b l)]
    rfl
theorem spl_hit (b : UInt8) (l : List UInt8) : spl b (b :: l) = [] :: spl b l := by rw [spl, if_pos rfl]
theorem spl_len (b : UInt8) : ∀ l : List UInt8, (spl b l).length ≤ l.length + 1
  | [] => Nat.le_refl _
  | c :: l => by
    have ih := spl_len b l
    by_cases h : c = b
    · subst h; rw [spl_hit, List.length_cons, List.length_cons]; omega
    · rw [spl_cons_ne b c l h]
      cases e : spl b l with
      | nil => exact absurd e (spl_ne b l)
      | cons p ps => rw [e] at ih; simp only [glue, List.length_cons] at ih ⊢; omega
theorem spl_join (b : UInt8) : ∀ l : List UInt8, Lib.join (spl b l) [b] = l
  | [] => by simp [spl, Lib.join_one]
  | c :: l => by
    have ih := spl_join b l
    by_cases h : c = b
    · subst h
      rw [spl_hit]
      cases e : spl c l with
      | nil => exact absurd e (spl_ne c l)
      | cons p ps =>
        rw [e] at ih
        rw [Lib.join_cons] at ih ⊢
        unfold Lib.joinTail at ih ⊢
        simp only [List.map_cons, List.flatten_cons, List.nil_append]
        rw [List.append_assoc, ih]; rfl
    · rw [spl_cons_ne b c l h]
      cases e : spl b l with
      | nil => exact absurd e (spl_ne b l)
      | cons p ps =>
        rw [e] at ih
        rw [show glue [c] (p :: ps) = (c :: p) :: ps from rfl]
        rw [Lib.join_cons] at ih ⊢
        rw [List.cons_append, ih]
/-- Where a byte stands first. -/
theorem first_of (b : UInt8) : ∀ l : List UInt8, (Lib.index l [b] = -1 ∧ ∀ c ∈ l, c ≠ b) ∨ ∃ a r, l = a ++ b :: r ∧ (∀ c ∈ a, c ≠ b) ∧ Lib.index l [b] = (a.length : Int)
  | [] => .inl ⟨rfl, fun c hc => by cases hc⟩
  | c :: l => by
    by_cases h : c = b
    · subst h
      exact .inr ⟨[], l, rfl, (fun c hc => by cases hc), by rw [Lib.index, if_pos (by simp [List.isPrefixOf])]; rfl⟩
    · have hp : ¬ ([b] : List UInt8).isPrefixOf (c :: l) = true := by
        simp only [List.isPrefixOf, Bool.and_true, beq_iff_eq]
        exact fun e => h e.symm
      rcases first_of b l with ⟨e, hn⟩ | ⟨a, r, e, hn, hi⟩
      · left
        refine ⟨by rw [Lib.index, if_neg hp, e]; rfl, fun x hx => ?_⟩
        rcases List.mem_cons.1 hx with rfl | hx
        · exact h
        · exact hn x hx
      · right
        refine ⟨c :: a, r, by rw [e]; rfl, fun x hx => ?_, ?_⟩
        · rcases List.mem_cons.1 hx with rfl | hx
          · exact h
          · exact hn x hx
        · rw [Lib.index, if_neg hp, hi, if_neg (by simp only [beq_iff_eq]; omega)]
          simp
theorem splitK_all (b : UInt8) : ∀ (k : Nat) (l : List UInt8), (spl b l).length ≤ k + 1 → Lib.splitK [b] 0 k l = spl b l
  | 0, l, h => by
    rcases first_of b l with ⟨_, hn⟩ | ⟨a, r, e, hn, _⟩
    · have := spl_app b l [] hn
      rw [List.append_nil] at this
      rw [this]
      simp [spl, glue, Lib.splitK]
    · subst e
      rw [spl_app b a _ hn, spl_hit] at h
      have h2 := List.length_pos_iff.2 (spl_ne b r)
      simp only [glue, List.length_cons] at h
      omega
  | k + 1, l, h => by
    rcases first_of b l with ⟨e, hn⟩ | ⟨a, r, e, hn, hi⟩
    · have := spl_app b l [] hn
      rw [List.append_nil] at this
      rw [this, Lib.splitK, e]
      simp [spl, glue]
    · have hsp : spl b l = a :: spl b r := by rw [e, spl_app b a _ hn, spl_hit]; simp [glue]
      rw [hsp] at h ⊢
      have ih := splitK_all b k r (by simp only [List.length_cons] at h; omega)
      rw [Lib.splitK, hi, if_neg (by simp only [beq_iff_eq]; omega), Int.toNat_natCast, Nat.add_zero, e]
      rw [List.take_left', show (a ++ b :: r).drop (a.length + [b].length) = r from by simp]
      · rw [ih]
      · rfl
theorem splitK_more (b : UInt8) : ∀ (k : Nat) (l : List UInt8), k + 1 < (spl b l).length → ∃ p ∈ Lib.splitK [b] 0 k l, b ∈ p
  | 0, l, h => by
    rcases first_of b l with ⟨_, hn⟩ | ⟨a, r, e, hn, _⟩
    · have := spl_app b l [] hn
      rw [List.append_nil] at this
      rw [this] at h
      simp [spl, glue] at h
    · exact ⟨l, by simp [Lib.splitK], by rw [e]; simp⟩
  | k + 1, l, h => by
    rcases first_of b l with ⟨e, hn⟩ | ⟨a, r, e, hn, hi⟩
    · have := spl_app b l [] hn
      rw [List.append_nil] at this
      rw [this] at h
      simp [spl, glue] at h
    · have hsp : spl b l = a :: spl b r := by rw [e, spl_app b a _ hn, spl_hit]; simp [glue]
      rw [hsp] at h
      obtain ⟨p, hp, hb⟩ := splitK_more b k r (by simp only [List.length_cons] at h; omega)
      refine ⟨p, ?_, hb⟩
      rw [Lib.splitK, hi, if_neg (by simp only [beq_iff_eq]; omega), Int.toNat_natCast, Nat.add_zero, e]
      rw [show (a ++ b :: r).drop (a.length + [b].length) = r from by simp]
      exact List.mem_cons_of_mem _ hp
theorem bt_cast (s : ByteArray) (i : Nat) (h : i < s.data.toList.length) : bt s (i : Int) = ((s.data.toList[i]).toNat : Int) := by
  have hs : i < s.size := by rw [Lib.size_eq]; exact h
  have := bt_at s (i : Int) (by rw [Int.toNat_natCast]; exact hs)
  rw [← this]
  rfl
theorem u8_eq {c b : UInt8} : ((c.toNat : Int) = (b.toNat : Int)) ↔ c = b := by
  constructor
  · intro h
    exact UInt8.toNat_inj.1 (by omega)
  · rintro rfl; rfl
/-- What stands from i to j. -/
def seg (l : List UInt8) (i j : Nat) : List UInt8 := (l.drop i).take (j - i)
theorem seg_self (l : List UInt8) (i : Nat) : seg l i i = [] := by simp [seg]
theorem seg_succ (l : List UInt8) (i j : Nat) (h : i ≤ j) (hj : j < l.length) : seg l i (j + 1) = seg l i j ++ [l[j]] := by
  unfold seg
  rw [show j + 1 - i = (j - i) + 1 by omega, List.take_succ_eq_append_getElem (by rw [List.length_drop]; omega), List.getElem_drop]
  congr 2
  simp [show i + (j - i) = j by omega]
theorem split_loop (s : ByteArray) (b : UInt8) (hs : s.size ≤ 1048576) : ∀ (d i fr : Nat) (out : List ByteArray), i + d = s.size → fr ≤ i → out.length ≤ i → out.map (·.data.toList) ++ glue (seg s.data.toList fr i) (spl b (s.data.toList.drop i)) = spl b s.data.toList →
    ∃ W : List ByteArray, W.map (·.data.toList) = spl b s.data.toList ∧ Ev (fun k => spec_l01Split.l0 k s (b.toNat : Int) out (fr : Int) (i : Int)) W := by
  intro d
  have hsz := Lib.size_eq s
  induction d with
  | zero =>
    intro i fr out hi hf ho h
    obtain rfl : i = s.size := by omega
    refine ⟨out ++ [s.extract fr s.size], ?_, Ev.succ ?_⟩
    · have e0 : s.data.toList.drop s.size = [] := List.drop_eq_nil_of_le (by rw [← hsz]; exact Nat.le_refl _)
      rw [e0] at h
      rw [List.map_append, List.map_cons, List.map_nil, Lib.extract_data, ← h]
      simp [spl, glue, seg]
    · simp only [spec_l01Split.l0, if_neg (show ¬ (s.size : Int) < (s.size : Int) by omega), if_pos (show 0 ≤ (fr : Int) by omega), if_pos (show (fr : Int) ≤ (s.size : Int) by omega), if_pos (show out.length < 8796093022208 by omega), Int.toNat_natCast]
      exact Ev.now _
  | succ d ih =>
    intro i fr out hi hf ho h
    have hlt : i < s.data.toList.length := by omega
    have hbt := bt_cast s i hlt
    rw [List.drop_eq_getElem_cons hlt] at h
    have hsg := seg_succ s.data.toList fr i hf hlt
    generalize s.data.toList[i] = c at hbt h hsg
    by_cases ce : c = b
    · subst ce
      rw [spl_hit, show glue (seg s.data.toList fr i) ([] :: spl c (s.data.toList.drop (i + 1))) = seg s.data.toList fr i :: spl c (s.data.toList.drop (i + 1)) from by simp [glue]] at h
      obtain ⟨W, hW, hE⟩ := ih (i + 1) (i + 1) (out ++ [s.extract fr i]) (by omega) (Nat.le_refl _) (by simp; omega) (by
        rw [seg_self, glue_nil _ (spl_ne _ _), List.map_append, List.map_cons, List.map_nil, Lib.extract_data, ← h]
        simp [seg])
      refine ⟨W, hW, Ev.succ ?_⟩
      simp only [spec_l01Split.l0, if_pos (show (i : Int) < (s.size : Int) by omega), if_pos (show 0 ≤ (i : Int) by omega), hbt, if_true, if_pos (show 0 ≤ (fr : Int) by omega), if_pos (show (fr : Int) ≤ (i : Int) by omega), if_pos (show (i : Int) ≤ (s.size : Int) by omega), if_pos (show out.length < 8796093022208 by omega), Int.toNat_natCast, w64s (show i < 9223372036854775807 by omega)]
      exact hE
    · rw [spl_cons_ne b c _ ce, glue_glue _ _ _ (spl_ne _ _), ← hsg] at h
      obtain ⟨W, hW, hE⟩ := ih (i + 1) fr out (by omega) (by omega) (by omega) h
      refine ⟨W, hW, Ev.succ ?_⟩
      simp only [spec_l01Split.l0, if_pos (show (i : Int) < (s.size : Int) by omega), if_pos (show 0 ≤ (i : Int) by omega), hbt, if_neg (show ¬ ((c.toNat : Int) = (b.toNat : Int)) from fun e => ce (u8_eq.1 e)), w64s (show i < 9223372036854775807 by omega)]
      exact hE
theorem split_ev (s : ByteArray) (b : UInt8) (hs : s.size ≤ 1048576) : ∃ W : List ByteArray, W.map (·.data.toList) = spl b s.data.toList ∧ Ev (fun k => spec_l01Split.f k s (b.toNat : Int)) W := by
  unfold spec_l01Split.f
  exact split_loop s b hs s.size 0 0 [] (by omega) (Nat.le_refl _) (Nat.zero_le _) (by rw [seg_self, List.drop_zero, glue_nil _ (spl_ne _ _)]; rfl)

/-! a number read -/
def digB (c : UInt8) : Bool := decide (48 ≤ c.toNat) && decide (c.toNat ≤ 57)
def valD : List UInt8 → Nat → Nat
  | [], v => v
  | c :: l, v => valD l (10 * v + (c.toNat - 48))
theorem valD_ge : ∀ (l : List UInt8) (v : Nat), v ≤ valD l v
  | [], v => Nat.le_refl _
  | c :: l, v => Nat.le_trans (by omega) (valD_ge l (10 * v + (c.toNat - 48)))
def numD (neg : Bool) (l : List UInt8) (v : Nat) : Int × Bool := if l.all digB = true then (if neg then -(valD l v : Int) else (valD l v : Int), true) else (0, false)
def numBody (neg : Bool) (r : List UInt8) (len : Nat) : Int × Bool := if (decide (r.length = 0) || decide (r.length > 18)) = true then (0, false) else if (r.headD 0 = 48 ∧ len > 1) then (0, false) else numD neg r 0
def numR (l : List UInt8) : Int × Bool := if l.headD 0 = 45 then numBody true (l.drop 1) l.length else numBody false l l.length
theorem digit_ev (c : UInt8) : spec_l01Digit.f (c.toNat : Int) = some (digB c) := by
  unfold spec_l01Digit.f digB
  by_cases h : (c.toNat : Int) ≥ 48
  · rw [if_pos h, decide_eq_true (show 48 ≤ c.toNat by omega), Bool.true_and]
    congr 1
    exact decide_eq_decide.2 (by omega)
  · rw [if_neg h, decide_eq_false (show ¬ 48 ≤ c.toNat by omega), Bool.false_and]
theorem pow10_lt {e : Nat} (h : e ≤ 18) : 10 ^ e ≤ 1000000000000000000 := Nat.le_trans (Nat.pow_le_pow_right (by omega) h) (by decide)
theorem num_l0 (s : ByteArray) (a : Nat) (ha : a ≤ 1) (hl : s.size ≤ a + 18) : ∀ (d i v : Nat), i + d = s.size → a ≤ i → v < 10 ^ (i - a) → Ev (fun k => spec_l01Number.l0 k s (a : Int) (v : Int) (i : Int)) (numD (decide (a = 1)) (s.data.toList.drop i) v) := by
  intro d
  have hsz := Lib.size_eq s
  induction d with
  | zero =>
    intro i v hi hai hv
    obtain rfl : i = s.size := by omega
    have hp := pow10_lt (e := s.size - a) (by omega)
    refine Ev.succ ?_
    rw [List.drop_eq_nil_of_le (by omega)]
    unfold numD
    simp only [spec_l01Number.l0, if_neg (show ¬ (s.size : Int) < (s.size : Int) by omega), List.all_nil, if_true, valD]
    by_cases c : a = 1
    · subst c
      simp only [if_pos (show ((1 : Nat) : Int) = 1 from rfl), decide_true, if_true, w64 (x := -(v : Int)) (by omega) (by omega)]
      exact Ev.now _
    · simp only [if_neg (show ¬ (a : Int) = 1 by omega), decide_eq_false c, Bool.false_eq_true, if_false]
      exact Ev.now _
  | succ d ih =>
    intro i v hi hai hv
    have hlt : i < s.data.toList.length := by omega
    have hbt := bt_cast s i hlt
    rw [List.drop_eq_getElem_cons hlt]
    generalize s.data.toList[i] = c at hbt
    have hp := pow10_lt (e := i + 1 - a) (by omega)
    have hp2 : 10 ^ (i + 1 - a) = 10 * 10 ^ (i - a) := by rw [show i + 1 - a = (i - a) + 1 by omega, Nat.pow_succ]; omega
    refine Ev.succ ?_
    simp only [spec_l01Number.l0, if_pos (show (i : Int) < (s.size : Int) by omega), if_pos (show 0 ≤ (i : Int) by omega), hbt, digit_ev, Option.bind_some]
    by_cases cd : digB c = true
    · have hd : 48 ≤ c.toNat ∧ c.toNat ≤ 57 := by unfold digB at cd; simpa using cd
      have := ih (i + 1) (10 * v + (c.toNat - 48)) (by omega) (by omega) (by omega)
      have e : numD (decide (a = 1)) (c :: s.data.toList.drop (i + 1)) v = numD (decide (a = 1)) (s.data.toList.drop (i + 1)) (10 * v + (c.toNat - 48)) := by
        unfold numD
        rw [List.all_cons, cd, Bool.true_and]
        rfl
      rw [e]
      have e2 : wrap64 (wrap64 (10 * (v : Int)) + ((c.toNat : Int) - 48) % 256) = ((10 * v + (c.toNat - 48) : Nat) : Int) := by
        rw [w64 (x := 10 * (v : Int)) (by omega) (by omega), w64 (by omega) (by omega)]; omega
      simp only [if_pos cd, e2, w64s (show i < 9223372036854775807 by omega)]
      exact this
    · have e : numD (decide (a = 1)) (c :: s.data.toList.drop (i + 1)) v = (0, false) := by
        unfold numD
        rw [List.all_cons]
        simp only [Bool.not_eq_true] at cd
        rw [cd, Bool.false_and, if_neg (by simp)]
      rw [e]
      simp only [if_neg cd]
      exact Ev.now _
theorem num_j1 (s : ByteArray) (a : Nat) (ha : a ≤ 1) (has : a ≤ s.size) (hs : s.size ≤ 1048576) : Ev (fun k => spec_l01Number.j1 k s (a : Int)) (numBody (decide (a = 1)) (s.data.toList.drop a) s.size) := by
  have hsz := Lib.size_eq s
  have hdl : (s.data.toList.drop a).length = s.size - a := by rw [List.length_drop]; omega
  refine Ev.succ ?_
  unfold numBody
  rw [hdl]
  have hj : Ev (fun k => spec_l01Number.j2 k s (a : Int) true) ((0 : Int), false) := Ev.succ (by simp only [spec_l01Number.j2, if_true]; exact Ev.now _)
  by_cases c1 : s.size = a
  · simp only [spec_l01Number.j1, if_pos (show (s.size : Int) = (a : Int) by omega)]
    rw [if_pos (by rw [decide_eq_true (show s.size - a = 0 by omega)]; rfl)]
    exact hj
  · by_cases c2 : s.size - a > 18
    · simp only [spec_l01Number.j1, if_neg (show ¬ (s.size : Int) = (a : Int) by omega), w64 (x := (s.size : Int) - (a : Int)) (by omega) (by omega), if_pos (show (s.size : Int) - (a : Int) > 18 by omega)]
      rw [if_pos (by rw [decide_eq_true c2, Bool.or_true])]
      exact hj
    · have hlt : a < s.data.toList.length := by omega
      have hbt := bt_cast s a hlt
      have hhd : (s.data.toList.drop a).headD 0 = s.data.toList[a] := by rw [List.drop_eq_getElem_cons hlt]; rfl
      rw [if_neg (by rw [decide_eq_false (show ¬ s.size - a = 0 by omega), decide_eq_false c2]; simp), hhd]
      have h0 := num_l0 s a ha (by omega) (s.size - a) a 0 (by omega) (Nat.le_refl _) (by simp)
      simp only [spec_l01Number.j1, if_neg (show ¬ (s.size : Int) = (a : Int) by omega), w64 (x := (s.size : Int) - (a : Int)) (by omega) (by omega), if_neg (show ¬ (s.size : Int) - (a : Int) > 18 by omega), if_pos (show 0 ≤ (a : Int) by omega), if_pos (show (a : Int) < (s.size : Int) by omega), hbt]
      generalize s.data.toList[a] = c
      by_cases c3 : c = 48
      · subst c3
        by_cases c4 : s.size > 1
        · rw [if_pos ⟨rfl, c4⟩]
          simp only [if_pos (show (((48 : UInt8).toNat : Nat) : Int) = 48 from rfl)]
          rw [decide_eq_true (show (s.size : Int) > 1 by omega)]
          exact hj
        · rw [if_neg (fun h => c4 h.2)]
          simp only [if_pos (show (((48 : UInt8).toNat : Nat) : Int) = 48 from rfl)]
          rw [decide_eq_false (show ¬ (s.size : Int) > 1 by omega)]
          refine Ev.succ ?_
          simp only [spec_l01Number.j2, Bool.false_eq_true, if_false]
          exact h0
      · rw [if_neg (fun h => c3 h.1)]
        have : ¬ (c.toNat : Int) = 48 := fun e => c3 ((u8_eq (c := c) (b := 48)).1 e)
        simp only [if_neg this]
        refine Ev.succ ?_
        simp only [spec_l01Number.j2, Bool.false_eq_true, if_false]
        exact h0
theorem headD_get (l : List UInt8) (h : 0 < l.length) : l.headD 0 = l[0] := by
  cases l with
  | nil => simp at h
  | cons c l => rfl
theorem num_ev (s : ByteArray) (hs : s.size ≤ 1048576) : Ev (fun k => spec_l01Number.f k s) (numR s.data.toList) := by
  have hsz := Lib.size_eq s
  unfold spec_l01Number.f numR
  rw [← hsz]
  by_cases c0 : s.size = 0
  · have hnil : s.data.toList = [] := List.length_eq_zero_iff.1 (by omega)
    simp only [if_neg (show ¬ (s.size : Int) > 0 by omega)]
    have h := num_j1 s 0 (by omega) (by omega) hs
    rw [hnil] at h ⊢
    rw [if_neg (by decide)]
    refine Ev.succ ?_
    simp only [spec_l01Number.j0, Bool.false_eq_true, if_false]
    exact h
  · have hlt : 0 < s.data.toList.length := by omega
    have hbt := bt_cast s 0 hlt
    have hhd : s.data.toList.headD 0 = s.data.toList[0] := headD_get _ hlt
    simp only [if_pos (show (s.size : Int) > 0 by omega), if_pos (show 0 < (s.size : Int) by omega)]
    rw [show bt s 0 = _ from hbt, hhd]
    have h0 := num_j1 s 0 (by omega) (by omega) hs
    have h1 := num_j1 s 1 (by omega) (by omega) hs
    rw [List.drop_zero] at h0
    generalize s.data.toList[0] = c
    refine Ev.succ ?_
    by_cases c3 : c = 45
    · subst c3
      rw [if_pos rfl]
      simp only [spec_l01Number.j0, show ((((45 : UInt8).toNat : Nat) : Int) == 45) = true from rfl, if_true]
      exact h1
    · rw [if_neg c3]
      have : ((c.toNat : Int) == 45) = false := by
        rw [beq_eq_false_iff_ne]
        exact fun e => c3 ((u8_eq (c := c) (b := 45)).1 e)
      simp only [spec_l01Number.j0, this, Bool.false_eq_true, if_false]
      exact h0
theorem valD_lt : ∀ (l : List UInt8) (v e : Nat), l.all digB = true → v < 10 ^ e → valD l v < 10 ^ (e + l.length)
  | [], v, e, _, h => by simpa [valD] using h
  | c :: l, v, e, hd, h => by
    rw [List.all_cons, Bool.and_eq_true] at hd
    have hc : 48 ≤ c.toNat ∧ c.toNat ≤ 57 := by
      have := hd.1
      unfold digB at this
      simpa using this
    have := valD_lt l (10 * v + (c.toNat - 48)) (e + 1) hd.2 (by rw [Nat.pow_succ]; omega)
    rw [valD, List.length_cons, show e + (l.length + 1) = e + 1 + l.length by omega]
    exact this
theorem numR_le (l : List UInt8) : (numR l).1 ≤ 1000000000000000000 := by
  have key : ∀ neg r len, (numBody neg r len).1 ≤ 1000000000000000000 := fun neg r len => by
    unfold numBody
    split
    · simp
    · rename_i c
      split
      · simp
      · unfold numD
        split
        · rename_i hd
          have hl : r.length ≤ 18 := by
            simp only [Bool.or_eq_true, decide_eq_true_eq, not_or] at c
            omega
          have h1 := valD_lt r 0 0 hd (by simp)
          have h2 := pow10_lt (e := 0 + r.length) (by omega)
          cases neg
          · simp only [Bool.false_eq_true, if_false]; omega
          · simp only [if_true]; omega
        · simp
  unfold numR
  split
  · exact key _ _ _
  · exact key _ _ _

/-! orders read out of a text -/
def openL : List UInt8 := [111, 112, 101, 110]
def shutL : List UInt8 := [115, 104, 117, 116]
/-- What order a word is, as the reference reads it. -/
def wordN (t : ByteArray) : Option Int :=
  if t.data.toList.length < 5 then none else
  if (numR (t.data.toList.drop 4)).2 = true ∧ 1 ≤ (numR (t.data.toList.drop 4)).1 then
    (if t.data.toList.take 4 = openL then some (numR (t.data.toList.drop 4)).1 else if t.data.toList.take 4 = shutL then some (-(numR (t.data.toList.drop 4)).1) else none)
  else none
theorem numR_dig : ∀ m : Fin 9, m.val ≠ 0 → numR [UInt8.ofNat (48 + m.val)] = ((m.val : Int), true) := by decide
theorem numR_small {r : List UInt8} {n : Int} (h : numR r = (n, true)) (h1 : 1 ≤ n) (h2 : n ≤ 8) : r = [UInt8.ofNat (48 + n.toNat)] := by
  unfold numR at h
  by_cases c : r.headD 0 = 45
  · rw [if_pos c] at h
    unfold numBody numD at h
    split at h
    · injection h with _ e; cases e
    · split at h
      · injection h with _ e; cases e
      · split at h
        · injection h with e _
          simp only [if_true] at e
          omega
        · injection h with _ e; cases e
  · rw [if_neg c] at h
    unfold numBody numD at h
    split at h
    · injection h with _ e; cases e
    · rename_i c1
      split at h
      · injection h with _ e; cases e
      · rename_i c2
        split at h
        · rename_i c3
          injection h with e _
          simp only [Bool.false_eq_true, if_false] at e
          cases r with
          | nil => simp at c1
          | cons a r =>
            rw [List.all_cons, Bool.and_eq_true] at c3
            have ha : 48 ≤ a.toNat ∧ a.toNat ≤ 57 := by
              have := c3.1
              unfold digB at this
              simpa using this
            cases r with
            | nil =>
              simp only [valD] at e
              have : a = UInt8.ofNat (48 + n.toNat) := by
                apply UInt8.toNat_inj.1
                rw [UInt8.toNat_ofNat']
                omega
              rw [this]
            | cons b r =>
              exfalso
              have hne : a ≠ 48 := fun e => c2 ⟨by rw [e]; rfl, by simp⟩
              have hne2 : a.toNat ≠ 48 := fun e => hne (UInt8.toNat_inj.1 e)
              simp only [valD] at e
              have := valD_ge r (10 * (10 * 0 + (a.toNat - 48)) + (b.toNat - 48))
              omega
        · injection h with _ e; cases e
theorem ordT_list (n : Int) (h1 : n ≠ 0) (h2 : -8 ≤ n) (h3 : n ≤ 8) : (ordT n).data.toList = (if n > 0 then openL else shutL) ++ [UInt8.ofNat (48 + n.natAbs)] := by
  unfold ordT
  split
  · rw [app_list, decB_list, Lib.decDigits_one (by omega)]; rfl
  · rw [app_list, decB_list, Lib.decDigits_one (by omega)]; rfl
theorem word_iff (t : ByteArray) (n : Int) (h1 : n ≠ 0) (h2 : -8 ≤ n) (h3 : n ≤ 8) : ordT n = t ↔ wordN t = some n := by
  have hl := ordT_list n h1 h2 h3
  have hd := numR_dig ⟨n.natAbs, by omega⟩ (by simp; omega)
  simp only at hd
  constructor
  · rintro rfl
    unfold wordN
    rw [hl]
    by_cases c : n > 0
    · rw [if_pos c]
      rw [show (openL ++ [UInt8.ofNat (48 + n.natAbs)]).drop 4 = [UInt8.ofNat (48 + n.natAbs)] from rfl, show (openL ++ [UInt8.ofNat (48 + n.natAbs)]).take 4 = openL from rfl, hd, if_neg (by simp [openL]), if_pos ⟨rfl, by simp only; omega⟩, if_pos rfl]
      congr 1
      simp only
      omega
    · rw [if_neg c]
      rw [show (shutL ++ [UInt8.ofNat (48 + n.natAbs)]).drop 4 = [UInt8.ofNat (48 + n.natAbs)] from rfl, show (shutL ++ [UInt8.ofNat (48 + n.natAbs)]).take 4 = shutL from rfl, hd, if_neg (by simp [shutL]), if_pos ⟨rfl, by simp only; omega⟩, if_neg (by decide), if_pos rfl]
      congr 1
      simp only
      omega
  · intro h
    unfold wordN at h
    split at h
    · cases h
    · split at h
      · rename_i c5 c
        have hsp := (List.take_append_drop 4 t.data.toList)
        generalize hv : numR (t.data.toList.drop 4) = v at c h
        obtain ⟨m, ok⟩ := v
        simp only at c h
        obtain ⟨rfl, hm⟩ := c
        apply bytes_ext
        rw [hl]
        split at h
        · rename_i co
          have e := Option.some.inj h
          subst e
          have hr := numR_small hv hm h3
          rw [if_pos (by omega), ← hsp, co, hr]
          congr 3
          omega
        · split at h
          · rename_i _ co
            have e := Option.some.inj h
            have hr := numR_small hv hm (by omega)
            rw [if_neg (by omega), ← hsp, co, hr]
            congr 3
            omega
          · cases h
      · cases h
/-- The same, where the order's valve is one of eight. -/
def wordF (t : ByteArray) : Option Int := match wordN t with | some n => if -8 ≤ n ∧ n ≤ 8 then some n else none | none => none
theorem wordN_ne {t : ByteArray} {n : Int} (h : wordN t = some n) : n ≠ 0 := by
  unfold wordN at h
  split at h
  · cases h
  · split at h
    · rename_i c
      split at h
      · have := Option.some.inj h; omega
      · split at h
        · have := Option.some.inj h; omega
        · cases h
    · cases h
theorem wordF_some {t : ByteArray} {n : Int} : wordF t = some n ↔ n ≠ 0 ∧ -8 ≤ n ∧ n ≤ 8 ∧ ordT n = t := by
  unfold wordF
  constructor
  · intro h
    cases hw : wordN t with
    | none => rw [hw] at h; cases h
    | some m =>
      rw [hw] at h
      simp only at h
      split at h
      · rename_i c
        have e := Option.some.inj h
        subst e
        exact ⟨wordN_ne hw, c.1, c.2, (word_iff t m (wordN_ne hw) c.1 c.2).2 hw⟩
      · cases h
  · rintro ⟨h1, h2, h3, h4⟩
    rw [(word_iff t n h1 h2 h3).1 h4]
    simp only
    rw [if_pos ⟨h2, h3⟩]
theorem wordF_N {t : ByteArray} {n : Int} (h : wordF t = some n) : wordN t = some n := by
  obtain ⟨h1, h2, h3, h4⟩ := wordF_some.1 h
  exact (word_iff t n h1 h2 h3).1 h4
/-! all words of a text -/
def accO (f : ByteArray → Option Int) : List ByteArray → List Int → Option (List Int)
  | [], os => some os
  | t :: ws, os => match f t with | some n => accO f ws (os ++ [n]) | none => none
theorem accO_some (f : ByteArray → Option Int) : ∀ (ws : List ByteArray) (os r : List Int), accO f ws os = some r ↔ ∃ ns, r = os ++ ns ∧ ws.map f = ns.map some
  | [], os, r => by
    constructor
    · intro h
      exact ⟨[], by simpa [accO] using h.symm, rfl⟩
    · rintro ⟨ns, rfl, h⟩
      have : ns = [] := by simpa using h.symm
      subst this
      simp [accO]
  | t :: ws, os, r => by
    unfold accO
    cases hf : f t with
    | none =>
      constructor
      · intro h; cases h
      · rintro ⟨ns, _, h⟩
        cases ns with
        | nil => simp at h
        | cons n ns => simp [hf] at h
    | some n =>
      simp only
      rw [accO_some f ws (os ++ [n]) r]
      constructor
      · rintro ⟨ns, rfl, h⟩
        exact ⟨n :: ns, by simp, by simp [hf, h]⟩
      · rintro ⟨ns, rfl, h⟩
        cases ns with
        | nil => simp at h
        | cons m ns =>
          simp only [List.map_cons, List.cons.injEq, hf, Option.some.injEq] at h
          obtain ⟨rfl, h⟩ := h
          exact ⟨ns, by simp, h⟩
theorem leastI_none (p : Int → Bool) : ∀ (d : Nat) (lo : Int), (∀ m, lo ≤ m → m < lo + (d : Int) → p m = false) → leastI p d lo = (0, false)
  | 0, lo, _ => rfl
  | d + 1, lo, h => by
    unfold leastI
    rw [if_neg (by rw [h lo (by omega) (by omega)]; simp)]
    exact leastI_none p d (lo + 1) (fun m h1 h2 => h m (by omega) (by omega))
theorem leastI_one (p : Int → Bool) (n : Int) : ∀ (d : Nat) (lo : Int), lo ≤ n → n < lo + (d : Int) → (∀ m, lo ≤ m → m < lo + (d : Int) → p m = decide (m = n)) → leastI p d lo = (n, true)
  | 0, lo, h1, h2, _ => by omega
  | d + 1, lo, h1, h2, h => by
    unfold leastI
    rw [h lo (by omega) (by omega)]
    by_cases c : lo = n
    · subst c; simp
    · rw [decide_eq_false c, if_neg (by simp)]
      exact leastI_one p n d (lo + 1) (by omega) (by omega) (fun m h1 h2 => h m (by omega) (by omega))
theorem least_word (t : ByteArray) : leastI (wordP t) 17 (-8) = match wordF t with | some n => (n, true) | none => (0, false) := by
  have hp : ∀ m, (-8 : Int) ≤ m → m < -8 + ((17 : Nat) : Int) → wordP t m = decide (wordF t = some m) := fun m h1 h2 => by
    unfold wordP
    rw [orderText_eq m h1 (by omega)]
    simp only
    rw [Bool.eq_iff_iff]
    simp only [Bool.and_eq_true, Bool.not_eq_true', decide_eq_false_iff_not, decide_eq_true_eq]
    rw [wordF_some]
    constructor
    · rintro ⟨h3, h4⟩
      exact ⟨h3, h1, by omega, toList_inj h4⟩
    · rintro ⟨h3, _, _, h4⟩
      exact ⟨h3, by rw [h4]⟩
  cases hw : wordF t with
  | none =>
    simp only
    refine leastI_none _ 17 (-8) (fun m h1 h2 => ?_)
    rw [hp m h1 h2, hw]; rfl
  | some n =>
    simp only
    obtain ⟨h1, h2, h3, h4⟩ := wordF_some.1 hw
    refine leastI_one _ n 17 (-8) h2 (by omega) (fun m h5 h6 => ?_)
    rw [hp m h5 h6, hw]
    exact decide_eq_decide.2 ⟨fun e => (Option.some.inj e).symm, fun e => by rw [e]⟩
theorem readO_acc : ∀ (ws : List ByteArray) (os : List Int), readO ws os = accO wordF ws os
  | [], os => rfl
  | t :: ws, os => by
    unfold readO accO
    rw [least_word]
    cases wordF t with
    | none => rfl
    | some n => simp only [if_true]; exact readO_acc ws _
theorem mapS_get {f : ByteArray → Option Int} {W : List ByteArray} {ns : List Int} (h : W.map f = ns.map some) : W.length = ns.length ∧ ∀ i (h1 : i < W.length) (h2 : i < ns.length), f W[i] = some ns[i] := by
  have hl : W.length = ns.length := by have := congrArg List.length h; simpa using this
  refine ⟨hl, fun i h1 h2 => ?_⟩
  have := congrArg (fun l => l[i]?) h
  simpa [h1, h2] using this
def specRes (W : List ByteArray) : List Int × Bool := match accO wordN W [] with | none => ([], false) | some os => if validOrders os = true then (os, true) else ([], false)
def readRes (s : ByteArray) (W : List ByteArray) : List Int × Bool := if s.toList = [45] then ([], true) else specRes W
theorem validOrders_mk {os : List Int} (hl : os.length ≤ 24) (h : ∀ i (hi : i < os.length), os[i] ≠ 0 ∧ -8 ≤ os[i] ∧ os[i] ≤ 8) : validOrders os = true := by
  unfold validOrders
  rw [Bool.and_eq_true, allB_true]
  refine ⟨fun i hi => ?_, decide_eq_true (by omega)⟩
  have := h i hi
  unfold okO
  rw [rd_at os i hi, decide_eq_false this.1, decide_eq_true this.2.1, decide_eq_true this.2.2]; rfl
theorem toList_data (s : ByteArray) : s.toList = s.data.toList := by rw [ByteArray.toList_eq]
theorem impl_read_ev (s : ByteArray) (hs : s.size ≤ 1048576) (W : List ByteArray) (hW : W.map (·.data.toList) = spl 32 s.data.toList) : Ev (fun k => impl_ReadOrders.f k s) (readRes s W) := by
  unfold impl_ReadOrders.f readRes
  simp only [if_pos hs]
  by_cases cd : s.toList = [45]
  · simp only [if_pos cd]; exact Ev.now _
  · simp only [if_neg cd, readO_acc]
    have hsz := Lib.size_eq s
    have hWl : W.length = (spl 32 s.data.toList).length := by have := congrArg List.length hW; simpa using this
    have hWn : W.length ≠ 0 := by
      rw [hWl]
      exact fun e => spl_ne 32 s.data.toList (List.length_eq_zero_iff.1 e)
    have hsl := spl_len 32 s.data.toList
    have hPd : (wordsB s).map (·.data.toList) = Lib.splitK [32] 0 (min 25 (s.size + 1) - 1) s.data.toList := Lib.splitB_data _ _ _ _
    by_cases c25 : W.length ≤ 25
    · have hPW : wordsB s = W := by
        have e : (wordsB s).map (·.data.toList) = W.map (·.data.toList) := by
          rw [hPd, hW, splitK_all 32 _ _ (by omega)]
        have hlen : (wordsB s).length = W.length := by have := congrArg List.length e; simpa using this
        apply List.ext_getElem hlen
        intro i h1 h2
        have := congrArg (fun l => l[i]?) e
        exact bytes_ext (by simpa [h1, h2] using this)
      rw [hPW]
      cases hF : accO wordF W [] with
      | none =>
        have : specRes W = ([], false) := by
          unfold specRes
          cases hN : accO wordN W [] with
          | none => rfl
          | some os =>
            simp only
            rw [if_neg]
            intro hv
            obtain ⟨ns, e, hm⟩ := (accO_some wordN W [] os).1 hN
            rw [List.nil_append] at e
            subst e
            obtain ⟨hl, hg⟩ := mapS_get hm
            have hv2 := validOrders_at hv
            have : accO wordF W [] = some os := (accO_some wordF W [] os).2 ⟨os, by simp, by
              apply List.ext_getElem
              · simpa using hl
              · intro i h1 h2
                simp only [List.getElem_map]
                have h3 : i < W.length := by simpa using h1
                have h4 : i < os.length := by simpa using h2
                have hvi := hv2 i h4
                exact wordF_some.2 ⟨hvi.1, hvi.2.1, hvi.2.2, (word_iff _ _ hvi.1 hvi.2.1 hvi.2.2).2 (hg i h3 h4)⟩⟩
            rw [hF] at this
            cases this
        rw [this]
        exact Ev.now _
      | some os =>
        obtain ⟨ns, e, hm⟩ := (accO_some wordF W [] os).1 hF
        rw [List.nil_append] at e
        subst e
        obtain ⟨hl, hg⟩ := mapS_get hm
        have hgw : ∀ i (h1 : i < W.length) (h2 : i < os.length), os[i] ≠ 0 ∧ -8 ≤ os[i] ∧ os[i] ≤ 8 ∧ ordT os[i] = W[i] := fun i h1 h2 => wordF_some.1 (hg i h1 h2)
        have hN : accO wordN W [] = some os := (accO_some wordN W [] os).2 ⟨os, by simp, by
          apply List.ext_getElem
          · simpa using hl
          · intro i h1 h2
            simp only [List.getElem_map]
            exact wordF_N (hg i (by simpa using h1) (by simpa using h2))⟩
        have hWo : os.map ordT = W := by
          apply List.ext_getElem
          · simpa using hl.symm
          · intro i h1 h2
            simp only [List.getElem_map]
            exact (hgw i h2 (by simpa using h1)).2.2.2
        have hjoin : joinB W spB = s := bytes_ext (by
          rw [joinB_list, hW]
          exact spl_join 32 _)
        unfold specRes
        rw [hN]
        simp only
        refine Ev.bind (implText_ev os (by omega)) ?_
        by_cases c24 : os.length ≤ 24
        · have hv := validOrders_mk c24 (fun i hi => by have := hgw i (by omega) hi; exact ⟨this.1, this.2.1, this.2.2.1⟩)
          rw [if_pos hv]
          have ht : textRes os = s := by
            unfold textRes ordsT
            rw [if_pos hv, if_neg (by omega), if_neg (by omega), List.take_length, hWo, hjoin]
          rw [ht]
          simp only [if_true]
          exact Ev.now _
        · have hv : ¬ validOrders os = true := fun h => c24 (validOrders_len h)
          rw [if_neg hv]
          have ht : textRes os = ⟨#[]⟩ := by unfold textRes; rw [if_neg hv]
          rw [ht]
          have hne : ¬ (⟨#[]⟩ : ByteArray).toList = s.toList := fun e => by
            have e2 : s.data.toList = [] := by
              rw [toList_data, toList_data] at e
              exact e.symm
            rw [e2] at hWl
            simp [spl] at hWl
            omega
          simp only [if_neg hne]
          exact Ev.now _
    · obtain ⟨p, hp, hb⟩ := splitK_more 32 (min 25 (s.size + 1) - 1) s.data.toList (by omega)
      rw [← hPd] at hp
      obtain ⟨q, hq, rfl⟩ := List.mem_map.1 hp
      have hF : accO wordF (wordsB s) [] = none := by
        cases h : accO wordF (wordsB s) [] with
        | none => rfl
        | some os =>
          exfalso
          obtain ⟨ns, e, hm⟩ := (accO_some wordF _ [] os).1 h
          obtain ⟨hl, hg⟩ := mapS_get hm
          obtain ⟨i, hi, rfl⟩ := List.getElem_of_mem hq
          obtain ⟨h1, h2, h3, h4⟩ := wordF_some.1 (hg i hi (by omega))
          rw [← h4, ordT_list _ h1 h2 h3] at hb
          have hd : ∀ m : Fin 9, (32 : UInt8) ∉ openL ++ [UInt8.ofNat (48 + m.val)] ∧ (32 : UInt8) ∉ shutL ++ [UInt8.ofNat (48 + m.val)] := by decide
          have := hd ⟨(ns[i]'(by omega)).natAbs, by omega⟩
          split at hb
          · exact this.1 hb
          · exact this.2 hb
      have : specRes W = ([], false) := by
        unfold specRes
        cases hN : accO wordN W [] with
        | none => rfl
        | some os =>
          simp only
          rw [if_neg]
          intro hv
          obtain ⟨ns, e, hm⟩ := (accO_some wordN W [] os).1 hN
          rw [List.nil_append] at e
          subst e
          have := (mapS_get hm).1
          have := validOrders_len hv
          omega
      rw [hF, this]
      exact Ev.now _

theorem spec_read_ev (s : ByteArray) (hs : s.size ≤ 1048576) : ∃ W : List ByteArray, W.map (·.data.toList) = spl 32 s.data.toList ∧ Ev (fun k => spec_ReadOrders.f k s) (readRes s W) := by
  obtain ⟨W, hW, hE⟩ := split_ev s 32 hs
  refine ⟨W, hW, ?_⟩
  have hsz := Lib.size_eq s
  have hWl : W.length = (spl 32 s.data.toList).length := by have := congrArg List.length hW; simpa using this
  have hsl := spl_len 32 s.data.toList
  have hpc : ∀ i (h : i < W.length), W[i].size ≤ 1048576 := fun i h => by
    have hj := spl_join 32 s.data.toList
    have hmem : W[i].data.toList ∈ spl 32 s.data.toList := by rw [← hW]; exact List.mem_map.2 ⟨_, List.getElem_mem h, rfl⟩
    have hle : ∀ (L : List (List UInt8)) (x : List UInt8), x ∈ L → x.length ≤ (Lib.join L [32]).length := fun L x hx => by
      cases L with
      | nil => cases hx
      | cons y L =>
        rw [Lib.join_cons, List.length_append]
        rcases List.mem_cons.1 hx with rfl | hx
        · omega
        · unfold Lib.joinTail
          have : ([32] ++ x) ∈ L.map ([32] ++ ·) := List.mem_map.2 ⟨x, hx, rfl⟩
          have h2 : ([32] ++ x : List UInt8).length ≤ ((L.map ([32] ++ ·)).flatten).length := by
            obtain ⟨a, b, e⟩ := List.append_of_mem this
            rw [e]; simp; omega
          simp only [List.length_append, List.length_singleton] at h2
          omega
    have := hle _ _ hmem
    rw [hj] at this
    rw [Lib.size_eq]; omega
  unfold spec_ReadOrders.f readRes
  simp only [Option.bind_some]
  by_cases cd : s.toList = [45]
  · simp only [if_pos cd]; exact Ev.now _
  · simp only [if_neg cd]
    refine Ev.bind hE ?_
    unfold specRes
    have key : ∀ d i os, i + d = W.length → os.length ≤ i → Ev (fun k => spec_ReadOrders.l0 k os W (i : Int)) (match accO wordN (W.drop i) os with | none => ([], false) | some os => if validOrders os = true then (os, true) else ([], false)) := by
      intro d
      induction d with
      | zero =>
        intro i os hi ho
        rw [List.drop_eq_nil_of_le (by omega)]
        refine Ev.succ ?_
        simp only [spec_ReadOrders.l0, if_neg (show ¬ (i : Int) < (W.length : Int) by omega), accO]
        refine Ev.bind (specOrders_ev os (by omega)) ?_
        by_cases c : validOrders os = true
        · simp only [if_pos c]; exact Ev.now _
        · simp only [if_neg c]; exact Ev.now _
      | succ d ih =>
        intro i os hi ho
        have hlt : i < W.length := by omega
        rw [List.drop_eq_getElem_cons hlt]
        have hp := hpc i hlt
        have hr : rdOf ByteArray.empty W (i : Int) = W[i] := rdOf_cast W i hlt _
        have ih1 := fun n : Int => ih (i + 1) (os ++ [n]) (by omega) (by simp; omega)
        generalize W[i] = t at hp hr
        have hts := Lib.size_eq t
        unfold accO
        have hbad : Ev (fun k => spec_ReadOrders.j1 k os W (i : Int) (numR (t.data.toList.drop 4)).1 true) (([] : List Int), false) := Ev.succ (by simp only [spec_ReadOrders.j1, if_true]; exact Ev.now _)
        have hgood : Ev (fun k => spec_ReadOrders.j1 k os W (i : Int) (numR (t.data.toList.drop 4)).1 true) (([] : List Int), false) := hbad
        refine Ev.succ ?_
        simp only [spec_ReadOrders.l0, if_pos (show (i : Int) < (W.length : Int) by omega), if_pos (show 0 ≤ (i : Int) by omega), hr]
        by_cases c5 : t.size < 5
        · have hw : wordN t = none := by unfold wordN; rw [if_pos (by omega)]
          rw [hw]
          simp only [if_pos (show (t.size : Int) < 5 by omega)]
          exact Ev.now _
        · simp only [if_neg (show ¬ (t.size : Int) < 5 by omega), if_pos (show 4 ≤ (t.size : Int) by omega)]
          have hx : (t.extract 4 t.size).data.toList = t.data.toList.drop 4 := by
            rw [Lib.extract_data, List.take_of_length_le (by rw [List.length_drop]; omega)]
          have hx2 : (t.extract 0 4).toList = t.data.toList.take 4 := by
            rw [toList_data, Lib.extract_data, List.drop_zero]
          have hn := num_ev (t.extract 4 t.size) (by rw [Lib.size_eq, hx, List.length_drop]; omega)
          rw [hx] at hn
          refine Ev.bind hn ?_
          by_cases c : (numR (t.data.toList.drop 4)).2 = true ∧ 1 ≤ (numR (t.data.toList.drop 4)).1
          · have hb : (numR (t.data.toList.drop 4)).1 ≤ 1000000000000000000 := numR_le _
            simp only [if_pos c.1, decide_eq_false (show ¬ (numR (t.data.toList.drop 4)).1 < 1 by omega)]
            refine Ev.succ ?_
            have eo : ([111, 112, 101, 110] : List UInt8) = openL := rfl
            have es : ([115, 104, 117, 116] : List UInt8) = shutL := rfl
            simp only [spec_ReadOrders.j1, Bool.false_eq_true, if_false, if_pos (show 0 ≤ (i : Int) by omega), if_pos (show (i : Int) < (W.length : Int) by omega), hr, if_pos (show (0 : Int) ≤ 4 by omega), if_pos (show 4 ≤ (t.size : Int) by omega), hx2, eo, es, if_pos (show os.length < 17592186044416 by omega), w64s (show i < 9223372036854775807 by omega), w64 (x := -(numR (t.data.toList.drop 4)).1) (by omega) (by omega)]
            by_cases co : t.data.toList.take 4 = openL
            · have hw : wordN t = some (numR (t.data.toList.drop 4)).1 := by unfold wordN; rw [if_neg (by omega), if_pos c, if_pos co]
              rw [hw]
              simp only [if_pos co]
              exact ih1 _
            · by_cases cs : t.data.toList.take 4 = shutL
              · have hw : wordN t = some (-(numR (t.data.toList.drop 4)).1) := by unfold wordN; rw [if_neg (by omega), if_pos c, if_neg co, if_pos cs]
                rw [hw]
                simp only [if_neg co, if_pos cs]
                exact ih1 _
              · have hw : wordN t = none := by unfold wordN; rw [if_neg (by omega), if_pos c, if_neg co, if_neg cs]
                rw [hw]
                simp only [if_neg co, if_neg cs]
                exact Ev.now _
          · have hw : wordN t = none := by unfold wordN; rw [if_neg (by omega), if_neg c]
            rw [hw]
            by_cases ck : (numR (t.data.toList.drop 4)).2 = true
            · simp only [if_pos ck, decide_eq_true (show (numR (t.data.toList.drop 4)).1 < 1 from by
                have : ¬ 1 ≤ (numR (t.data.toList.drop 4)).1 := fun h => c ⟨ck, h⟩
                omega)]
              exact hbad
            · simp only [if_neg ck]
              exact hbad
    have := key W.length 0 [] (by omega) (Nat.le_refl _)
    rw [List.drop_zero] at this
    exact this

end Go.Proofs.YtffodlggihmonaaDoor.PFnExactReadOrders
namespace Go.Proofs.YtffodlggihmonaaDoor.Pure
open Go.RowKit Go.Proofs.YtffodlggihmonaaDoorW.PrintWords Go.Proofs.YtffodlggihmonaaDoorW.PLib Go.Proofs.YtffodlggihmonaaDoor.PFnExactReadOrders

theorem readRes_len (s : ByteArray) (W : List ByteArray) : (readRes s W).1.length < 4611686018427387904 := by
  unfold readRes specRes
  split
  · simp
  · split
    · simp
    · split
      · rename_i h
        have := validOrders_len h
        simp only; omega
      · simp
theorem FnExactReadOrders : PFnExactReadOrders.Pure := by
  intro s hx
  refine Ev.get ?_
  unfold laws_FnExactReadOrders.f
  by_cases cp : (s.size : Int) > 1048576
  · simp only [if_pos cp]; exact Ev.now _
  simp only [if_neg cp]
  obtain ⟨W, hW, h1⟩ := spec_read_ev s (by omega)
  have h2 := impl_read_ev s (by omega) W hW
  have hr := readRes_len s W
  refine Ev.bind h1 (Ev.bind h2 (Ev.bind (eqInts_ev _ (by omega)) ?_))
  simp only [if_true, bne_self_eq_false]
  refine Ev.succ ?_
  simp only [laws_FnExactReadOrders.j0, Bool.false_eq_true, if_false]
  refine Ev.bind (markInts_ev _ hr) (Ev.bind (heldInts_ev _ hr) ?_)
  simp only [if_neg (show ¬ ((readRes s W).1.length : Int) + 1 < 0 by omega), if_true]
  refine Ev.bind h2 (Ev.bind (eqInts_ev _ (by omega)) ?_)
  simp only [if_true, bne_self_eq_false]
  refine Ev.succ ?_
  simp only [laws_FnExactReadOrders.j1, Bool.false_eq_true, if_false]
  refine Ev.bind (heldInts_ev _ hr) ?_
  simp only [if_neg (show ¬ ((readRes s W).1.length : Int) + 1 < 0 by omega), if_true]
  exact Ev.now _
end Go.Proofs.YtffodlggihmonaaDoor.Pure

