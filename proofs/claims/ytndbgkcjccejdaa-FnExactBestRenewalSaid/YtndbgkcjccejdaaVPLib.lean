/- Plain lemmas on rounds, wrapped numbers and loops over lists, for the pure statements. Conditions: each theorem's own. -/
import Derived.Test.YtndbgkcjccejdaaVWords
set_option linter.unusedVariables false
namespace Go.Proofs.YtndbgkcjccejdaaW.PLib
open Go.RowKit Go.Proofs.YtndbgkcjccejdaaW.PrintWords

theorem w64 {x : Int} (h0 : -9223372036854775808 ≤ x) (h1 : x ≤ 9223372036854775807) : wrap64 x = x := by unfold wrap64; omega
theorem w64s {i : Nat} (h : i < 9223372036854775807) : wrap64 ((i : Int) + 1) = ((i + 1 : Nat) : Int) := by rw [w64] <;> omega
theorem wfI {x : Int} (h : (Lit.int .i64 x).wf = true) : -9223372036854775808 ≤ x ∧ x ≤ 9223372036854775807 := by
  simp only [Lit.wf, Bool.and_eq_true, decide_eq_true_eq] at h
  have h1 : IntKind.i64.min = -9223372036854775808 := by decide
  have h2 : IntKind.i64.max = 9223372036854775807 := by decide
  rw [h1, h2] at h
  exact h

theorem Ev.get {α : Type} {g : Nat → Option α} {r : α} (h : Ev g r) : ∃ k, g k = some r := h.rounds
theorem Ev.all {α : Type} {g : Nat → Option α} {r : α} (h : ∀ k, g k = some r) : Ev g r := ⟨0, fun k _ => h k⟩
theorem Ev.from_ {α : Type} {g : Nat → Option α} {r : α} (n : Nat) (h : ∀ k, n ≤ k → g k = some r) : Ev g r := ⟨n, h⟩
/-- The same answer for the two. -/
theorem Ev.same {α : Type} {g : Nat → Option α} {r s : α} (h : Ev g r) (h' : Ev g s) : r = s := by
  obtain ⟨a, ha⟩ := h; obtain ⟨b, hb⟩ := h'
  have := (ha (a + b) (by omega)).symm.trans (hb (a + b) (by omega))
  exact Option.some.inj this

theorem getD_cast {α : Type} (xs : List α) (i : Nat) (h : i < xs.length) (z : α) : xs.getD ((i : Int)).toNat z = xs[i] := by
  simp [List.getD_eq_getElem?_getD, h]

/-- A list written element by element out of another one. -/
theorem to_loop {α β : Type} (L : Nat → List β → Int → Option (List β)) (xs : List α) (cv : α → β)
    (hstep : ∀ k (ys : List β) (i : Nat) (h : i < xs.length), ys.length = xs.length → L (k + 1) ys i = L k (ys.set i (cv xs[i])) ((i + 1 : Nat) : Int))
    (hend : ∀ k (ys : List β), ys.length = xs.length → L (k + 1) ys xs.length = some ys) (ys : List β) (hl : ys.length = xs.length) (k : Nat) (hk : xs.length < k) :
    L k ys 0 = some (xs.map cv) := by
  have key : ∀ n, ∀ i : Nat, i + n = xs.length → ∀ ys : List β, ys.length = xs.length → (∀ j (h : j < i) (h' : j < xs.length) (h'' : j < ys.length), ys[j] = cv xs[j]) → ∀ k, n < k → L k ys i = some (xs.map cv) := by
    intro n
    induction n with
    | zero =>
      intro i hi ys hl hy k hk
      obtain ⟨k, rfl⟩ : ∃ m, k = m + 1 := ⟨k - 1, by omega⟩
      have : i = xs.length := by omega
      subst this
      rw [hend k ys hl]
      congr 1
      apply List.ext_getElem
      · simp [hl]
      · intro j h1 h2
        rw [hy j (by omega) (by omega) h1]
        simp
    | succ n ih =>
      intro i hi ys hl hy k hk
      obtain ⟨k, rfl⟩ : ∃ m, k = m + 1 := ⟨k - 1, by omega⟩
      rw [hstep k ys i (by omega) hl]
      refine ih (i + 1) (by omega) _ (by simp [hl]) (fun j h1 h2 h3 => ?_) k (by omega)
      by_cases e : j = i
      · subst e
        simp
      · rw [List.getElem_set_ne (by omega)]
        exact hy j (by omega) h2 (by simpa using h3)
  have := key xs.length 0 (by omega) ys hl (fun j h => by omega) k hk
  simpa using this

/-- A loop that stops at the first element that is not as it should be. -/
theorem all_loop {α : Type} (L : Nat → Int → Option Bool) (xs : List α) (fin : Bool) (ok : Nat → α → Bool)
    (hstep : ∀ k (i : Nat) (h : i < xs.length), L (k + 1) i = if ok i xs[i] = true then L k ((i + 1 : Nat) : Int) else some false)
    (hend : ∀ k, L (k + 1) xs.length = some fin) (k : Nat) (hk : xs.length < k) :
    L k 0 = some (decide (∀ i (h : i < xs.length), ok i xs[i] = true) && fin) := by
  have key : ∀ n, ∀ i : Nat, i + n = xs.length → ∀ k, n < k → L k i = some (decide (∀ j (h : j < xs.length), i ≤ j → ok j xs[j] = true) && fin) := by
    intro n
    induction n with
    | zero =>
      intro i hi k hk
      obtain ⟨k, rfl⟩ : ∃ m, k = m + 1 := ⟨k - 1, by omega⟩
      have : i = xs.length := by omega
      subst this
      rw [hend k]
      have : (∀ j (h : j < xs.length), xs.length ≤ j → ok j xs[j] = true) := fun j h h' => by omega
      rw [decide_eq_true this, Bool.true_and]
    | succ n ih =>
      intro i hi k hk
      obtain ⟨k, rfl⟩ : ∃ m, k = m + 1 := ⟨k - 1, by omega⟩
      rw [hstep k i (by omega)]
      by_cases c : ok i xs[i] = true
      · rw [if_pos c, ih (i + 1) (by omega) k (by omega)]
        congr 2
        apply decide_eq_decide.mpr
        constructor
        · intro h j hj hij
          by_cases e : j = i
          · subst e; exact c
          · exact h j hj (by omega)
        · intro h j hj hij
          exact h j hj (by omega)
      · rw [if_neg c]
        have : ¬ (∀ j (h : j < xs.length), i ≤ j → ok j xs[j] = true) := fun h => c (h i (by omega) (Nat.le_refl _))
        rw [decide_eq_false this, Bool.false_and]
  have := key xs.length 0 (by omega) k hk
  simpa using this

/-! Loops by what one round does; the rounds needed are not counted. -/
/-- A loop whose round at index i, state s ends with an answer, or goes on with a state. -/
def runF {σ ρ : Type} (step : Nat → σ → ρ ⊕ σ) (fin : σ → ρ) : Nat → Nat → σ → ρ
  | 0, _, s => fin s
  | d + 1, i, s => match step i s with | .inl r => r | .inr s' => runF step fin d (i + 1) s'
theorem run_ev {σ ρ : Type} (L : Nat → σ → Int → Option ρ) (n : Nat) (Inv : Nat → σ → Prop) (step : Nat → σ → ρ ⊕ σ) (fin : σ → ρ)
    (hs : ∀ i s, i < n → Inv i s → (∃ K, ∀ k, K ≤ k → L (k + 1) s (i : Int) = (match step i s with | .inl r => some r | .inr s' => L k s' ((i + 1 : Nat) : Int))) ∧ ∀ s', step i s = .inr s' → Inv (i + 1) s')
    (he : ∀ s, Inv n s → ∃ K, ∀ k, K ≤ k → L (k + 1) s (n : Int) = some (fin s)) :
    ∀ d i s, i + d = n → Inv i s → Ev (fun k => L k s (i : Int)) (runF step fin d i s) := by
  intro d
  induction d with
  | zero =>
    intro i s hi hI
    have : i = n := by omega
    subst this
    obtain ⟨K, hK⟩ := he s hI
    refine ⟨K + 1, fun k hk => ?_⟩
    obtain ⟨k, rfl⟩ : ∃ m, k = m + 1 := ⟨k - 1, by omega⟩
    exact hK k (by omega)
  | succ d ih =>
    intro i s hi hI
    obtain ⟨⟨K, hK⟩, hI'⟩ := hs i s (by omega) hI
    cases hst : step i s with
    | inl r =>
      refine ⟨K + 1, fun k hk => ?_⟩
      obtain ⟨k, rfl⟩ : ∃ m, k = m + 1 := ⟨k - 1, by omega⟩
      show L (k + 1) s (i : Int) = _
      rw [hK k (by omega), hst]
      simp [runF, hst]
    | inr s' =>
      obtain ⟨K2, hK2⟩ := ih (i + 1) s' (by omega) (hI' s' hst)
      refine ⟨K + K2 + 1, fun k hk => ?_⟩
      obtain ⟨k, rfl⟩ : ∃ m, k = m + 1 := ⟨k - 1, by omega⟩
      show L (k + 1) s (i : Int) = _
      rw [hK k (by omega), hst]
      simp only [runF, hst]
      exact hK2 k (by omega)
/-- A loop that only tests. -/
def allB (ok : Nat → Bool) (n : Nat) : Bool := (List.range n).all ok
theorem allB_true {ok : Nat → Bool} {n : Nat} : allB ok n = true ↔ ∀ i, i < n → ok i = true := by simp [allB]
theorem allB_const (n : Nat) : allB (fun _ => true) n = true := by rw [allB_true]; exact fun _ _ => rfl
theorem allB_congr {ok ok' : Nat → Bool} {n : Nat} (h : ∀ i, i < n → ok i = ok' i) : allB ok n = allB ok' n := by
  rw [Bool.eq_iff_iff, allB_true, allB_true]
  exact ⟨fun hh i hi => (h i hi) ▸ hh i hi, fun hh i hi => (h i hi) ▸ hh i hi⟩
theorem all_ev (L : Nat → Int → Option Bool) (n : Nat) (fin : Bool) (ok : Nat → Bool)
    (hs : ∀ i, i < n → ∃ K, ∀ k, K ≤ k → L (k + 1) (i : Int) = if ok i = true then L k ((i + 1 : Nat) : Int) else some false)
    (he : ∃ K, ∀ k, K ≤ k → L (k + 1) (n : Int) = some fin) : Ev (fun k => L k 0) (allB ok n && fin) := by
  have h := run_ev (σ := Unit) (fun k _ i => L k i) n (fun _ _ => True) (fun i _ => if ok i = true then .inr () else .inl false) (fun _ => fin)
    (fun i _ hi _ => ⟨by
      obtain ⟨K, hK⟩ := hs i hi
      refine ⟨K, fun k hk => ?_⟩
      rw [hK k hk]
      by_cases c : ok i = true <;> simp [c], fun _ _ => trivial⟩) (fun _ _ => he) n 0 () (by omega) trivial
  have e : ∀ d i, runF (σ := Unit) (fun i _ => if ok i = true then .inr () else .inl false) (fun _ => fin) d i () = ((List.range' i d).all ok && fin) := by
    intro d
    induction d with
    | zero => intro i; simp [runF]
    | succ d ih =>
      intro i
      by_cases c : ok i = true
      · simp only [runF, c, if_true]
        rw [ih (i + 1), List.range'_succ]
        simp [c]
      · simp only [Bool.not_eq_true] at c
        simp only [runF, c, Bool.false_eq_true, if_false]
        rw [List.range'_succ]
        simp [c]
  rw [e n 0, ← List.range_eq_range'] at h
  exact h
/-- A loop that ends, whatever it answers. -/
theorem tot_ev {σ ρ : Type} (L : Nat → σ → Int → Option ρ) (n : Nat)
    (hs : ∀ i s, i < n → (∃ r K, ∀ k, K ≤ k → L (k + 1) s (i : Int) = some r) ∨ (∃ s' K, ∀ k, K ≤ k → L (k + 1) s (i : Int) = L k s' ((i + 1 : Nat) : Int)))
    (he : ∀ s, ∃ r K, ∀ k, K ≤ k → L (k + 1) s (n : Int) = some r) : ∀ d i s, i + d = n → ∃ r, Ev (fun k => L k s (i : Int)) r := by
  intro d
  induction d with
  | zero =>
    intro i s hi
    have : i = n := by omega
    subst this
    obtain ⟨r, K, hK⟩ := he s
    refine ⟨r, K + 1, fun k hk => ?_⟩
    obtain ⟨k, rfl⟩ : ∃ m, k = m + 1 := ⟨k - 1, by omega⟩
    exact hK k (by omega)
  | succ d ih =>
    intro i s hi
    rcases hs i s (by omega) with ⟨r, K, hK⟩ | ⟨s', K, hK⟩
    · refine ⟨r, K + 1, fun k hk => ?_⟩
      obtain ⟨k, rfl⟩ : ∃ m, k = m + 1 := ⟨k - 1, by omega⟩
      exact hK k (by omega)
    · obtain ⟨r, K2, hK2⟩ := ih (i + 1) s' (by omega)
      refine ⟨r, K + K2 + 1, fun k hk => ?_⟩
      obtain ⟨k, rfl⟩ : ∃ m, k = m + 1 := ⟨k - 1, by omega⟩
      show L (k + 1) s (i : Int) = some r
      rw [hK k (by omega)]
      exact hK2 k (by omega)
theorem Ev.ex {α : Type} {g : Nat → Option α} {r : α} (h : Ev g r) : ∃ K, ∀ k, K ≤ k → g k = some r := h
/-- A call whose answer is known, in a round. -/
theorem Ev.with_ {α : Type} {g : Nat → Option α} {r : α} (h : Ev g r) {P : Nat → Prop} (hp : ∀ k, g k = some r → P k) : ∃ K, ∀ k, K ≤ k → P k := by
  obtain ⟨K, hK⟩ := h
  exact ⟨K, fun k hk => hp k (hK k hk)⟩
theorem Ev.then_ {α β : Type} {g : Nat → Option α} {r : α} (h : Ev g r) {f : Nat → Option β} {s : β} (hp : ∀ k, g k = some r → f k = some s) : Ev f s := by
  obtain ⟨K, hK⟩ := h
  exact ⟨K, fun k hk => hp k (hK k hk)⟩
theorem ifs (b c : Bool) : (if b = true then some c else some false) = some (b && c) := by cases b <;> rfl
theorem ifn (p : Prop) [Decidable p] (c : Bool) : (if p then some false else some c) = some (!decide p && c) := by by_cases h : p <;> simp [h]
theorem inv_ev {σ ρ : Type} (L : Nat → σ → Int → Option ρ) (n : Nat) (Inv : Nat → σ → Prop) (Post : ρ → Prop)
    (hs : ∀ i s, i < n → Inv i s → (∃ r K, Post r ∧ ∀ k, K ≤ k → L (k + 1) s (i : Int) = some r) ∨ (∃ s' K, Inv (i + 1) s' ∧ ∀ k, K ≤ k → L (k + 1) s (i : Int) = L k s' ((i + 1 : Nat) : Int)))
    (he : ∀ s, Inv n s → ∃ r K, Post r ∧ ∀ k, K ≤ k → L (k + 1) s (n : Int) = some r) : ∀ d i s, i + d = n → Inv i s → ∃ r, Post r ∧ Ev (fun k => L k s (i : Int)) r := by
  intro d
  induction d with
  | zero =>
    intro i s hi hI
    have : i = n := by omega
    subst this
    obtain ⟨r, K, hp, hK⟩ := he s hI
    refine ⟨r, hp, K + 1, fun k hk => ?_⟩
    obtain ⟨k, rfl⟩ : ∃ m, k = m + 1 := ⟨k - 1, by omega⟩
    exact hK k (by omega)
  | succ d ih =>
    intro i s hi hI
    rcases hs i s (by omega) hI with ⟨r, K, hp, hK⟩ | ⟨s', K, hI', hK⟩
    · refine ⟨r, hp, K + 1, fun k hk => ?_⟩
      obtain ⟨k, rfl⟩ : ∃ m, k = m + 1 := ⟨k - 1, by omega⟩
      exact hK k (by omega)
    · obtain ⟨r, hp, K2, hK2⟩ := ih (i + 1) s' (by omega) hI'
      refine ⟨r, hp, K + K2 + 1, fun k hk => ?_⟩
      obtain ⟨k, rfl⟩ : ∃ m, k = m + 1 := ⟨k - 1, by omega⟩
      show L (k + 1) s (i : Int) = some r
      rw [hK k (by omega)]
      exact hK2 k (by omega)
/-- A loop that goes through all its rounds with a state, to one answer. -/
theorem fold_ev {σ ρ : Type} (L : Nat → σ → Int → Option ρ) (n : Nat) (st : Nat → σ) (r : ρ)
    (hs : ∀ i, i < n → ∃ K, ∀ k, K ≤ k → L (k + 1) (st i) (i : Int) = L k (st (i + 1)) ((i + 1 : Nat) : Int))
    (he : ∃ K, ∀ k, K ≤ k → L (k + 1) (st n) (n : Int) = some r) (i : Nat) (hi : i ≤ n) : Ev (fun k => L k (st i) (i : Int)) r := by
  obtain ⟨r', rfl, h⟩ := inv_ev L n (fun i s => s = st i) (fun q => q = r)
    (fun i s h1 h2 => by subst h2; obtain ⟨K, hK⟩ := hs i h1; exact .inr ⟨_, K, rfl, hK⟩) (fun s h2 => by subst h2; obtain ⟨K, hK⟩ := he; exact ⟨r, K, rfl, hK⟩) (n - i) i (st i) (by omega) rfl
  exact h
/-- A loop that only tests; a round may use up any number of rounds. -/
theorem all_evE (L : Nat → Int → Option Bool) (n : Nat) (fin : Bool) (ok : Nat → Bool)
    (hs : ∀ i, i < n → ∀ r, Ev (fun k => L k ((i + 1 : Nat) : Int)) r → Ev (fun k => L k (i : Int)) (if ok i = true then r else false))
    (he : Ev (fun k => L k (n : Int)) fin) : Ev (fun k => L k 0) (allB ok n && fin) := by
  have key : ∀ d i, i + d = n → Ev (fun k => L k (i : Int)) ((List.range' i d).all ok && fin) := by
    intro d
    induction d with
    | zero =>
      intro i hi
      have : i = n := by omega
      subst this
      simpa using he
    | succ d ih =>
      intro i hi
      have h := hs i (by omega) _ (ih (i + 1) (by omega))
      rw [List.range'_succ, List.all_cons]
      cases c : ok i
      · rw [c] at h; simpa using h
      · rw [c] at h; simpa using h
  have h := key n 0 (by omega)
  rw [← List.range_eq_range'] at h
  exact h
theorem inv_evE {σ ρ : Type} (L : Nat → σ → Int → Option ρ) (n : Nat) (Inv : Nat → σ → Prop) (Post : ρ → Prop)
    (hs : ∀ i s, i < n → Inv i s → (∃ r, Post r ∧ Ev (fun k => L k s (i : Int)) r) ∨ (∃ s', Inv (i + 1) s' ∧ ∀ r, Ev (fun k => L k s' ((i + 1 : Nat) : Int)) r → Ev (fun k => L k s (i : Int)) r))
    (he : ∀ s, Inv n s → ∃ r, Post r ∧ Ev (fun k => L k s (n : Int)) r) : ∀ d i s, i + d = n → Inv i s → ∃ r, Post r ∧ Ev (fun k => L k s (i : Int)) r := by
  intro d
  induction d with
  | zero =>
    intro i s hi hI
    have : i = n := by omega
    subst this
    exact he s hI
  | succ d ih =>
    intro i s hi hI
    rcases hs i s (by omega) hI with h | ⟨s', hI', hE⟩
    · exact h
    · obtain ⟨r, hp, hr⟩ := ih (i + 1) s' (by omega) hI'
      exact ⟨r, hp, hE r hr⟩
theorem Ev.step' {α : Type} {g f : Nat → Option α} {r : α} (k : Ev f r) (h : ∀ k, g (k + 1) = f k) : Ev g r := Ev.step h k
theorem Ev.succ {α : Type} {g : Nat → Option α} {r : α} (h : Ev (fun k => g (k + 1)) r) : Ev g r := Ev.step (fun _ => rfl) h
theorem fold_from {σ ρ : Type} (L : Nat → σ → Int → Option ρ) (lo n : Nat) (st : Nat → σ) (r : ρ) (hlo : lo ≤ n)
    (hs : ∀ i, lo ≤ i → i < n → ∀ r, Ev (fun k => L k (st (i + 1)) ((i + 1 : Nat) : Int)) r → Ev (fun k => L k (st i) (i : Int)) r)
    (he : Ev (fun k => L k (st n) (n : Int)) r) : Ev (fun k => L k (st lo) (lo : Int)) r := by
  obtain ⟨r', rfl, h⟩ := inv_evE L n (fun i s => lo ≤ i ∧ s = st i) (fun q => q = r)
    (fun i s h1 h2 => by obtain ⟨h2, rfl⟩ := h2; exact .inr ⟨_, ⟨by omega, rfl⟩, hs i h2 h1⟩) (fun s h2 => by obtain ⟨h2, rfl⟩ := h2; exact ⟨r, rfl, he⟩) (n - lo) lo (st lo) (by omega) ⟨Nat.le_refl _, rfl⟩
  exact h
/-- A loop that stops with 'bad' at the first element that is not as it should be. -/
theorem scan_evE {ρ : Type} (L : Nat → Int → Option ρ) (n : Nat) (fin bad : ρ) (ok : Nat → Bool)
    (hs : ∀ i, i < n → ∀ r, Ev (fun k => L k ((i + 1 : Nat) : Int)) r → Ev (fun k => L k (i : Int)) (if ok i = true then r else bad))
    (he : Ev (fun k => L k (n : Int)) fin) : Ev (fun k => L k 0) (if allB ok n = true then fin else bad) := by
  have key : ∀ d i, i + d = n → Ev (fun k => L k (i : Int)) (if (List.range' i d).all ok = true then fin else bad) := by
    intro d
    induction d with
    | zero =>
      intro i hi
      have : i = n := by omega
      subst this
      simpa using he
    | succ d ih =>
      intro i hi
      have h := hs i (by omega) _ (ih (i + 1) (by omega))
      rw [List.range'_succ, List.all_cons]
      cases c : ok i
      · rw [c, if_neg (by simp)] at h
        rw [Bool.false_and, if_neg (by simp)]; exact h
      · rw [c, if_pos rfl] at h
        rw [Bool.true_and]; exact h
  have h := key n 0 (by omega)
  rw [← List.range_eq_range'] at h
  exact h
theorem rdOf_cast {α : Type} (xs : List α) (i : Nat) (h : i < xs.length) (z : α) : rdOf z xs (i : Int) = xs[i] := by unfold rdOf; exact getD_cast xs i h z
theorem toList_inj {a b : ByteArray} (h : a.toList = b.toList) : a = b := by
  have : a.data.toList = b.data.toList := by simpa [ByteArray.toList_eq] using h
  cases a; cases b
  simp_all
end Go.Proofs.YtndbgkcjccejdaaW.PLib
