-- written by a program of this session (mkp.py) out of the translation; Lean checks it.
import Derived.Test.YtndbgkcjccejdaaPFnExactCheapestPumpsx0
import Derived.Test.YtndbgkcjccejdaaPFnExactCheapestPumpsx12
namespace Go.Proofs.Ytndbgkcjccejdaa.PFnExactCheapestPumps
open Go.RowKit Go.Proofs.YtndbgkcjccejdaaW.PrintWords Go.Proofs.YtndbgkcjccejdaaW.PrintLast Go.Proofs.YtndbgkcjccejdaaW.PrintMore
attribute [local go_sem] bin_leq bin_gtr bin_geq max2_int min2_int max_two min_two max_three min_three max_four min_four   -- for this text's walks alone
set_option linter.unusedVariables false
set_option linter.unusedSimpArgs false

/-! ### laws_markPumpS: function 13 -/
/-- What a marked cell holds is of the kind of what it held; a row's header stays. -/
def SimV (v v' : Value) : Prop := v' = v ∨ (∃ s s', v = .string s ∧ v' = .string s') ∨ (∃ a a', v = .int .i64 a ∧ v' = .int .i64 a')
theorem SimV.trans {a b c : Value} (h : SimV a b) (k : SimV b c) : SimV a c := by
  rcases h with rfl | ⟨s, s', rfl, rfl⟩ | ⟨x, x', rfl, rfl⟩
  · exact k
  · rcases k with rfl | ⟨t, t', _, rfl⟩ | ⟨x, x', h, _⟩
    · exact .inr (.inl ⟨_, _, rfl, rfl⟩)
    · exact .inr (.inl ⟨_, _, rfl, rfl⟩)
    · cases h
  · rcases k with rfl | ⟨t, t', h, _⟩ | ⟨y, y', _, rfl⟩
    · exact .inr (.inr ⟨_, _, rfl, rfl⟩)
    · cases h
    · exact .inr (.inr ⟨_, _, rfl, rfl⟩)
def SimC (cur cur' : Array Value) : Prop := cur'.size = cur.size ∧ ∀ (m : Nat) v, cur[m]? = some v → ∃ v', cur'[m]? = some v' ∧ SimV v v'
theorem SimC.refl (cur : Array Value) : SimC cur cur := ⟨rfl, fun m v h => ⟨v, h, .inl rfl⟩⟩
theorem SimC.trans {a b c : Array Value} (h : SimC a b) (k : SimC b c) : SimC a c := ⟨k.1.trans h.1, fun m v hv => by
  obtain ⟨v1, h1, s1⟩ := h.2 m v hv
  obtain ⟨v2, h2, s2⟩ := k.2 m v1 h1
  exact ⟨v2, h2, s1.trans s2⟩⟩
/-- What marking does: blocks that are ok, from base on alone, cell by cell of the same kind. -/
structure Marked (ok : Nat → Prop) (base : Nat) (w w' : World) : Prop where
  os : w'.os = w.os
  tape : w'.tape = w.tape
  output : w'.output = w.output
  size : w.heap.size ≤ w'.heap.size
  blk : ∀ k, k < w.heap.size → w'.heap[k]? = w.heap[k]? ∨ (ok k ∧ base ≤ k ∧ ∃ cur cur' t, w.heap[k]? = some (.cells cur t (0, 0)) ∧ w'.heap[k]? = some (.cells cur' t (0, 0)) ∧ SimC cur cur')
theorem Marked.refl (ok : Nat → Prop) (base : Nat) (w : World) : Marked ok base w w := ⟨rfl, rfl, rfl, Nat.le_refl _, fun _ _ => .inl rfl⟩
theorem Marked.trans {ok : Nat → Prop} {base : Nat} {w w1 w2 : World} (h : Marked ok base w w1) (k : Marked ok base w1 w2) : Marked ok base w w2 := by
  refine ⟨k.os.trans h.os, k.tape.trans h.tape, k.output.trans h.output, Nat.le_trans h.size k.size, fun i hi => ?_⟩
  rcases h.blk i hi with h1 | ⟨ho, hb, c, c1, t, e0, e1, s1⟩
  · rcases k.blk i (Nat.lt_of_lt_of_le hi h.size) with k1 | ⟨ho, hb, c, c1, t, e0, e1, s1⟩
    · exact .inl (k1.trans h1)
    · exact .inr ⟨ho, hb, c, c1, t, by rw [← h1]; exact e0, e1, s1⟩
  · rcases k.blk i (Nat.lt_of_lt_of_le hi h.size) with k1 | ⟨_, _, d, d1, t', f0, f1, s2⟩
    · exact .inr ⟨ho, hb, c, c1, t, e0, by rw [k1]; exact e1, s1⟩
    · rw [e1] at f0
      injection f0 with f0
      injection f0 with fa fb
      subst fa
      subst fb
      exact .inr ⟨ho, hb, c, d1, t, e0, f1, s1.trans s2⟩
theorem Marked.of_below {ok : Nat → Prop} {base : Nat} {w w' : World} (h : Below w.heap.size w w') : Marked ok base w w' := ⟨h.os, h.tape, h.output, h.size, fun k hk => .inl (h.block k hk)⟩
theorem Marked.setCell {ok : Nat → Prop} {base g t : Nat} {w : World} {cur : Array Value} (hg : w.heap[g]? = some (.cells cur t (0, 0))) (ho : ok g) (hb : base ≤ g) {i : Nat} {v u : Value} (hv : cur[i]? = some v) (hs : SimV v u) : Marked ok base w (w.setCell ⟨g, i, none⟩ u) := by
  refine ⟨rfl, rfl, rfl, by simp [World.setCell], fun k hk => ?_⟩
  by_cases e : k = g
  · subst e
    refine .inr ⟨ho, hb, cur, cur.setIfInBounds i u, t, hg, blk_set hg i u, by simp, fun m x hx => ?_⟩
    by_cases e2 : m = i
    · subst e2
      rw [hv] at hx
      injection hx with hx
      subst hx
      have hm : m < cur.size := (Array.getElem?_eq_some_iff.1 hv).1
      exact ⟨u, by simp [Array.getElem?_setIfInBounds, hm], hs⟩
    · exact ⟨x, by rw [Array.getElem?_setIfInBounds_ne (by omega)]; exact hx, .inl rfl⟩
  · exact .inl (Below.heap_setCell w _ u k e)
/-- A row of n whole numbers that may be written. -/
def IntRow (w : World) (ok : Nat → Prop) (base : Nat) (v : Value) (n : Nat) : Prop := (v = .slice none 0 0 ∧ n = 0) ∨ ∃ g cap cur, v = .slice (some ⟨g, 0, none⟩) n cap ∧ ok g ∧ base ≤ g ∧ w.heap[g]? = some (.cells cur 2 (0, 0)) ∧ ∀ m : Nat, m < n → ∃ a, cur[m]? = some (.int .i64 a)
theorem IntRow.marked {w w' : World} {ok : Nat → Prop} {base : Nat} {v : Value} {n : Nat} (h : IntRow w ok base v n) (k : Marked ok base w w') : IntRow w' ok base v n := by
  rcases h with h | ⟨g, cap, cur, rfl, ho, hb, hg, hs⟩
  · exact .inl h
  · have hlt := blk_lt hg
    rcases k.blk g hlt with k1 | ⟨_, _, c, c1, t, e0, e1, s1⟩
    · exact .inr ⟨g, cap, cur, rfl, ho, hb, k1.trans hg, hs⟩
    · rw [hg] at e0
      injection e0 with e0
      injection e0 with fa fb
      subst fa
      subst fb
      refine .inr ⟨g, cap, c1, rfl, ho, hb, e1, fun m hm => ?_⟩
      obtain ⟨s, hx⟩ := hs m hm
      obtain ⟨v', hv', sv⟩ := s1.2 m _ hx
      rcases sv with rfl | ⟨q, q', h, _⟩ | ⟨a, a', _, rfl⟩
      · exact ⟨s, hv'⟩
      · cases h
      · exact ⟨a', hv'⟩
theorem IntRow.of_R {w : World} {ok : Nat → Prop} {base : Nat} {v : Value} {xs : List Int} (h : (Kd.int .i64).R 2 w base ok v xs) : IntRow w ok base v xs.length := by
  have hok := h.1
  have ho := Kd.own_of_R (enc := Value.int .i64) (h1 := fun _ => rfl) h
  rcases ho.2 with ⟨hv, hn⟩ | ⟨g, cap, cur, hv, hb, hg, _, _, hsz, hcur⟩
  · exact .inl ⟨hv, hn⟩
  · refine .inr ⟨g, cap, cur, hv, hok g (by rw [hv]; rfl), hb, hg, fun m hm => ⟨xs.getD m 0, ?_⟩⟩
    have e := encs_get (enc := Value.int .i64) (d := 0) xs m hm
    rw [← hcur, List.getElem?_take] at e
    rw [if_pos (by omega)] at e
    simpa using e
theorem IntRow.mono {w : World} {ok ok' : Nat → Prop} {base : Nat} {v : Value} {n : Nat} (h : IntRow w ok base v n) (hm : ∀ k, ok k → ok' k) : IntRow w ok' base v n := by
  rcases h with h | ⟨g, cap, cur, rfl, ho, hb, hg, hs⟩
  · exact .inl h
  · exact .inr ⟨g, cap, cur, rfl, hm g ho, hb, hg, hs⟩
/-- What a row of numbers comes to that is told apart from what is marked. -/
theorem marked_int {e : Nat} {w w1 : World} {base b : Nat} {ok okm : Nat → Prop} {v : Value} {xs : List Int} (h : (Kd.int .i64).R e w base ok v xs) (hb : Marked okm b w w1) (hne : ∀ k, okm k → some k ≠ v.ownBlock) : (Kd.int .i64).R e w1 base ok v xs := by
  have h1 : (Kd.int .i64).R e w base (fun k => some k = v.ownBlock) v xs := ⟨fun k hk => hk.symm, h.2⟩
  have h2 := Kd.R_move (Kd.R_bound h1) (w1 := w1) (fun k hk => by
    rcases hb.blk k hk.2.2.1 with h1 | ⟨ho, _⟩
    · exact h1
    · exact absurd hk.1 (hne k ho))
  exact ⟨h.1, h2.2⟩
theorem marked_below {ok : Nat → Prop} {b : Nat} {w0 w w1 : World} (h : Below b w0 w) (k : Marked ok b w w1) (hs : b ≤ w.heap.size) : Below b w0 w1 :=
  ⟨k.os.trans h.os, k.tape.trans h.tape, k.output.trans h.output, Nat.le_trans h.size k.size, fun i hi => by
    rcases k.blk i (Nat.lt_of_lt_of_le hi hs) with h1 | ⟨_, hb, _⟩
    · exact h1.trans (h.block i hi)
    · omega⟩
theorem marked_step {ok : Nat → Prop} {w0 w w1 : World} (h : Below w0.heap.size w0 w) (k : Marked ok w0.heap.size w w1) : Below w0.heap.size w0 w1 := marked_below h k h.size
/-- A row that has been marked is told no more. -/
theorem marked_gone {α : Type} {d : Kd α} {e : Nat} {w w1 : World} {base b : Nat} {ok okm : Nat → Prop} {v : Value} {xs : List α} (_ : d.R e w base ok v xs) (_ : Marked okm b w w1) : d.R e w1 base ok (.slice none 0 0) [] := Kd.R_nil _ _ _ _ _
/-- The number behind n numbers. -/
def mkI : Nat → Int → Int
  | 0, a => a
  | d + 1, a => mkI d (wrap64 (a + 1))
set_option maxHeartbeats 8000000 in
set_option maxRecDepth 100000 in
theorem markInt_in.calls (A : Option Addr) (n cap : Nat) (a : Int) (ok : Nat → Prop) (base : Nat) (w : World) (hs : IntRow w ok base (.slice A n cap) n) (hn : n ≤ 4611686018427387904) :
    Calls Try.prog 14 #[.slice A n cap, .int .i64 a] w fun e w' => e = .returned (.int .i64 (mkI n a)) ∧ Marked ok base w w' := by
  have HS := Aside0.mk hs
  have HN := Aside0.mk hn
  clear hs hn
  go_enter Try.func14, Try.ntmps14
  go_wp2
  go_loopg [1, 5] n (fun gg s1 s5 wr => ∃ (kk : Nat) (a' : Int), s1 = .int .i64 a' ∧ s5 = .int .i64 kk ∧ Aside0 (kk ≤ n) ∧ Aside0 (n - kk ≤ gg) ∧ Aside0 (mkI (n - kk) a' = mkI n a) ∧ Aside0 (Marked ok base w wr))
  case atStart => exact ⟨0, a, rfl, rfl, ⟨Nat.zero_le _⟩, ⟨by omega⟩, ⟨rfl⟩, ⟨Marked.refl _ _ _⟩⟩
  case round =>
    obtain ⟨kk, a', rfl, rfl, hkk, hg, hq, hM⟩ := hrel
    by_cases hlt : kk < n
    · have hltz : decide ((kk : Int) < (n : Int)) = true := decide_eq_true (by omega)
      have hlt1 : ((kk : Int) < (n : Int)) = True := eq_true (by omega)
      rcases HS.out.marked hM.out with ⟨_, h0⟩ | ⟨g, cap', cur, hv, ho, hb, hcur, hstr⟩
      · omega
      · injection hv with hA _ hC
        subst hA
        subst hC
        obtain ⟨s0, hs0⟩ := hstr kk hlt
        have hq2 := hq.out
        rw [show n - kk = (n - (kk + 1)) + 1 by omega] at hq2
        unfold mkI at hq2
        have hM1 := hM.out.trans (Marked.setCell hcur ho hb hs0 (u := .int .i64 a') (.inr (.inr ⟨s0, a', rfl, rfl⟩)))
        have hc1 : wr.cell? ⟨g, kk, none⟩ = some (.int .i64 s0) := (blk_cell hcur kk).trans hs0
        have hf1 := blk_frozen hcur kk
        have HQ := Aside0.mk hq2
        have HM1 := Aside0.mk hM1
        (try clear hM1); clear hq2 hstr hcur hs0
        go_wp2
        go_roundg (n - (kk + 1))
        case measure => have := hg.out; omega
        case rel => exact ⟨kk + 1, wrap64 (a' + 1), rfl, by rw [show wrap64 ((kk : Int) + 1) = ((kk + 1 : Nat) : Int) by have := HN.out; unfold wrap64; omega], ⟨by omega⟩, ⟨by omega⟩, ⟨by have := HQ.out; cases n with | zero => omega | succ n => exact this⟩, HM1⟩
    · have hltz : decide ((kk : Int) < (n : Int)) = false := decide_eq_false (by omega)
      go_wp2
      go_ret
      refine ⟨?_, hM.out⟩
      have := hq.out
      rw [show n - kk = 0 by omega] at this
      rw [← this]
      rfl
/-- The number behind rows of numbers. -/
def mkRows : List (List Int) → Int → Int
  | [], a => a
  | x :: xs, a => mkRows xs (mkI x.length a)
/-- Rows of numbers that may be written. -/
def RowsRow (w : World) (ok : Nat → Prop) (base : Nat) (v : Value) (xs : List (List Int)) : Prop := (v = .slice none 0 0 ∧ xs.length = 0) ∨ ∃ g cap cur, v = .slice (some ⟨g, 0, none⟩) xs.length cap ∧ ok g ∧ base ≤ g ∧ w.heap[g]? = some (.cells cur 24 (0, 0)) ∧ ∀ (i : Nat) (h : i < xs.length), ∃ A c, cur[i]? = some (.slice A xs[i].length c) ∧ IntRow w ok base (.slice A xs[i].length c) xs[i].length
theorem RowsRow.marked {w w' : World} {ok : Nat → Prop} {base : Nat} {v : Value} {xs : List (List Int)} (h : RowsRow w ok base v xs) (k : Marked ok base w w') : RowsRow w' ok base v xs := by
  rcases h with h | ⟨g, cap, cur, rfl, ho, hb, hg, hs⟩
  · exact .inl h
  · have hlt := blk_lt hg
    rcases k.blk g hlt with k1 | ⟨_, _, c, c1, t, e0, e1, s1⟩
    · refine .inr ⟨g, cap, cur, rfl, ho, hb, k1.trans hg, fun i h => ?_⟩
      obtain ⟨A, c, q3, q4⟩ := hs i h
      exact ⟨A, c, q3, q4.marked k⟩
    · rw [hg] at e0
      injection e0 with e0
      injection e0 with fa fb
      subst fa
      subst fb
      refine .inr ⟨g, cap, c1, rfl, ho, hb, e1, fun i h => ?_⟩
      obtain ⟨A, c, q3, q4⟩ := hs i h
      obtain ⟨v3, p3, t3⟩ := s1.2 _ _ q3
      obtain rfl : v3 = .slice A xs[i].length c := by
        rcases t3 with rfl | ⟨_, _, h, _⟩ | ⟨_, _, h, _⟩
        · rfl
        · cases h
        · cases h
      exact ⟨A, c, p3, q4.marked k⟩
theorem RowsRow.of_R {w : World} {ok : Nat → Prop} {base : Nat} {v : Value} {xs : List (List Int)} (h : (Kd.slice 2 (Kd.int .i64)).R 24 w base ok v xs) : RowsRow w ok base v xs := by
  obtain ⟨hok, inner, ho, hr⟩ := h
  have hsz : (Kd.slice 2 (Kd.int .i64)).sz = 1 := rfl
  rcases ho.2 with ⟨hv, hn⟩ | ⟨g, cap, cur, hv, hb, hg, _, _, hcs, hcur⟩
  · exact .inl ⟨hv, hn⟩
  · refine .inr ⟨g, cap, cur, hv, hok g (by rw [hv]; rfl), hb, hg, fun i hi => ?_⟩
    have hp := hr.2 i xs[i] (List.getElem?_eq_getElem hi)
    obtain ⟨v3, hcs3, hR3⟩ := hp
    obtain ⟨A, c, rfl⟩ := Kd.R_slice hR3
    rw [hsz] at hcs3 hcur
    have at_ : cur[i]? = ((inner.drop (i * 1)).take 1)[0]? := by
      rw [← hcur, List.getElem?_take, if_pos (by omega), List.getElem?_drop, List.getElem?_take, if_pos (by omega)]
      simp
    rw [hcs3] at at_
    exact ⟨A, c, at_, (IntRow.of_R hR3).mono (fun k hk => hk.1)⟩
theorem RowsRow.mono {w : World} {ok ok' : Nat → Prop} {base : Nat} {v : Value} {xs : List (List Int)} (h : RowsRow w ok base v xs) (hm : ∀ k, ok k → ok' k) : RowsRow w ok' base v xs := by
  rcases h with h | ⟨g, cap, cur, rfl, ho, hb, hg, hs⟩
  · exact .inl h
  · refine .inr ⟨g, cap, cur, rfl, hm g ho, hb, hg, fun i h => ?_⟩
    obtain ⟨A, c, q3, q4⟩ := hs i h
    exact ⟨A, c, q3, q4.mono hm⟩
set_option maxHeartbeats 8000000 in
set_option maxRecDepth 100000 in
theorem markRows_in.calls (A0 : Option Addr) (c0 : Nat) (l0 : List (List Int)) (a : Int) (ok : Nat → Prop) (base : Nat) (w : World) (hs : RowsRow w ok base (.slice A0 l0.length c0) l0) (hn : l0.length ≤ 4611686018427387904) (hn2 : ∀ x ∈ l0, x.length ≤ 4611686018427387904) :
    Calls Try.prog 56 #[.slice A0 l0.length c0, .int .i64 a] w fun e w' => e = .returned (.int .i64 (mkRows l0 a)) ∧ Marked ok base w w' := by
  have HS := Aside0.mk hs
  have HN := Aside0.mk hn
  have HN2 := Aside0.mk hn2
  clear hs hn hn2
  go_enter Try.func56, Try.ntmps56
  go_wp2
  go_loopg [1, 5] l0.length (fun gg s1 s5 wr => ∃ (kk : Nat) (a' : Int), s1 = .int .i64 a' ∧ s5 = .int .i64 kk ∧ Aside0 (kk ≤ l0.length) ∧ Aside0 (l0.length - kk ≤ gg) ∧ Aside0 (mkRows (l0.drop kk) a' = mkRows l0 a) ∧ Aside0 (Marked ok base w wr))
  case atStart => exact ⟨0, a, rfl, rfl, ⟨Nat.zero_le _⟩, ⟨by omega⟩, ⟨rfl⟩, ⟨Marked.refl _ _ _⟩⟩
  case round =>
    obtain ⟨kk, a', rfl, rfl, hkk, hg, hq, hM⟩ := hrel
    by_cases hlt : kk < l0.length
    · have hltz : decide ((kk : Int) < (l0.length : Int)) = true := decide_eq_true (by omega)
      have hlt1 : ((kk : Int) < (l0.length : Int)) = True := eq_true (by omega)
      have hsm := HN2.out l0[kk] (List.getElem_mem hlt)
      have hdrop := List.drop_eq_getElem_cons hlt
      rcases HS.out.marked hM.out with ⟨_, h0⟩ | ⟨g, cap', cur, hv, ho, hb, hcur, hrow⟩
      · omega
      · injection hv with hA _ hC
        subst hA
        subst hC
        obtain ⟨A3, c3, q3, q4⟩ := hrow kk hlt
        have hq2 := hq.out
        rw [hdrop] at hq2
        unfold mkRows at hq2
        generalize l0[kk].length = n3 at q3 q4 hq2 hsm
        have hc1 : wr.cell? ⟨g, kk, none⟩ = some (.slice A3 n3 c3) := (blk_cell hcur kk).trans q3
        have HQ := Aside0.mk hq2
        have Z4 := Aside0.mk q4
        have HB := Aside0.mk hb
        have HSM := Aside0.mk hsm
        clear hq2 hrow hcur q3 q4 hdrop hsm hb
        go_wp2_with (go_at_call 14; refine (markInt_in.calls A3 n3 c3 a' ok base _ Z4.out HSM.out).mono ?_; rintro e w'' ⟨rfl, hM2⟩)
        go_roundg (l0.length - (kk + 1))
        case measure => have := hg.out; omega
        case rel => exact ⟨kk + 1, mkI n3 a', rfl, by rw [show wrap64 ((kk : Int) + 1) = ((kk + 1 : Nat) : Int) by have := HN.out; unfold wrap64; omega], ⟨by omega⟩, ⟨by omega⟩, ⟨by have := HQ.out; cases l0 with | nil => simp at hlt | cons y ys => exact this⟩, ⟨hM.out.trans hM2⟩⟩
    · have hltz : decide ((kk : Int) < (l0.length : Int)) = false := decide_eq_false (by omega)
      go_wp2
      go_ret
      refine ⟨?_, hM.out⟩
      have := hq.out
      rw [List.drop_eq_nil_of_le (by omega)] at this
      rw [← this]
      rfl
/-- The number that marking one pump after the other comes to. -/
def mkP (k : Nat) : List S38 → Int → Option Int
  | [], a => some a
  | x :: xs, a => (laws_markText.f k a).bind fun _ => mkP k xs (mkRows x.f1 (wrap64 (a + 1)))
theorem mkP_mono (k : Nat) : ∀ xs a, LeO (mkP k xs a) (mkP (k + 1) xs a)
  | [], a => LeO.refl _
  | x :: xs, a => by
    unfold mkP
    exact LeO.bind (laws_markText.mono _ k) (fun _ => mkP_mono k xs _)
def smallP (x : S38) : Bool := decide (x.f1.length ≤ 4611686018427387904) && x.f1.all (fun y => decide (y.length ≤ 4611686018427387904))
def laws_markPumpS.f (k : Nat) (l0 : List S38) (a1 : Int) : Option Int := if (decide (l0.length ≤ 4611686018427387904) && l0.all smallP) = true then mkP k l0 a1 else none
theorem laws_markPumpS.mono : ∀ a0 a1 k, LeO (laws_markPumpS.f k a0 a1) (laws_markPumpS.f (k + 1) a0 a1) := fun a0 a1 k => LeO.ite (mkP_mono k a0 a1) (LeO.none _)
/-- A row of pumps that may be marked. -/
def PmpRow (w : World) (ok : Nat → Prop) (base : Nat) (v : Value) (xs : List S38) : Prop := (v = .slice none 0 0 ∧ xs.length = 0) ∨ ∃ g cap cur, v = .slice (some ⟨g, 0, none⟩) xs.length cap ∧ ok g ∧ base ≤ g ∧ w.heap[g]? = some (.cells cur 38 (0, 0)) ∧ ∀ (i : Nat) (h : i < xs.length), ∃ s A c, cur[i * 2]? = some (.string s) ∧ cur[i * 2 + 1]? = some (.slice A xs[i].f1.length c) ∧ RowsRow w ok base (.slice A xs[i].f1.length c) xs[i].f1
theorem PmpRow.marked {w w' : World} {ok : Nat → Prop} {base : Nat} {v : Value} {xs : List S38} (h : PmpRow w ok base v xs) (k : Marked ok base w w') : PmpRow w' ok base v xs := by
  rcases h with h | ⟨g, cap, cur, rfl, ho, hb, hg, hs⟩
  · exact .inl h
  · have hlt := blk_lt hg
    rcases k.blk g hlt with k1 | ⟨_, _, c, c1, t, e0, e1, s1⟩
    · refine .inr ⟨g, cap, cur, rfl, ho, hb, k1.trans hg, fun i h => ?_⟩
      obtain ⟨s, A, c, q0, q3, q4⟩ := hs i h
      exact ⟨s, A, c, q0, q3, q4.marked k⟩
    · rw [hg] at e0
      injection e0 with e0
      injection e0 with fa fb
      subst fa
      subst fb
      refine .inr ⟨g, cap, c1, rfl, ho, hb, e1, fun i h => ?_⟩
      obtain ⟨s, A, c, q0, q3, q4⟩ := hs i h
      obtain ⟨v0, p0, t0⟩ := s1.2 _ _ q0
      obtain ⟨v3, p3, t3⟩ := s1.2 _ _ q3
      obtain ⟨s', rfl⟩ : ∃ s', v0 = .string s' := by
        rcases t0 with rfl | ⟨_, q', _, rfl⟩ | ⟨_, _, h, _⟩
        · exact ⟨_, rfl⟩
        · exact ⟨_, rfl⟩
        · cases h
      obtain rfl : v3 = .slice A xs[i].f1.length c := by
        rcases t3 with rfl | ⟨_, _, h, _⟩ | ⟨_, _, h, _⟩
        · rfl
        · cases h
        · cases h
      exact ⟨s', A, c, p0, p3, q4.marked k⟩
theorem PmpRow.of_R {w : World} {ok : Nat → Prop} {base : Nat} {v : Value} {xs : List S38} (h : k38.R 38 w base ok v xs) : PmpRow w ok base v xs := by
  obtain ⟨hok, inner, ho, hr⟩ := h
  have hsz : k38.sz = 2 := rfl
  rcases ho.2 with ⟨hv, hn⟩ | ⟨g, cap, cur, hv, hb, hg, _, _, hcs, hcur⟩
  · exact .inl ⟨hv, hn⟩
  · refine .inr ⟨g, cap, cur, hv, hok g (by rw [hv]; rfl), hb, hg, fun i hi => ?_⟩
    have hp := hr.2 i xs[i] (List.getElem?_eq_getElem hi)
    obtain ⟨v3, hcs3, hR3⟩ := k38_openM hp
    obtain ⟨A, c, rfl⟩ := Kd.R_slice hR3
    rw [hsz] at hcs3 hcur
    have at_ : ∀ j, j < 2 → cur[i * 2 + j]? = ((inner.drop (i * 2)).take 2)[j]? := fun j hj => by
      rw [← hcur, List.getElem?_take, if_pos hj, List.getElem?_drop, List.getElem?_take, if_pos (by omega)]
      simp
    rw [hcs3] at at_
    exact ⟨xs[i].f0, A, c, at_ 0 (by omega), at_ 1 (by omega), (RowsRow.of_R hR3).mono (fun k hk => hk.1)⟩
theorem pmp_write {ok : Nat → Prop} {base g : Nat} {W : World} {cur : Array Value} (hk1 : W.heap[g]? = some (.cells cur 38 (0, 0))) (ho : ok g) (hb : base ≤ g) {i : Nat} {s0 : ByteArray} {x1 : Value} (q0 : cur[i]? = some (.string s0)) (q1 : cur[i + 1]? = some x1) (s : ByteArray) :
    (W.cell? ⟨g, i, none⟩ = some (.string s0) ∧ W.frozen? ⟨g, i, none⟩ = false) ∧
    (W.setCell ⟨g, i, none⟩ (.string s)).cell? ⟨g, i + 1, none⟩ = some x1 ∧ Marked ok base W (W.setCell ⟨g, i, none⟩ (.string s)) := by
  have hk2 := blk_set hk1 i (.string s)
  have y1 : (cur.setIfInBounds i (.string s))[i + 1]? = some x1 := by
    rw [Array.getElem?_setIfInBounds_ne (by omega)]
    exact q1
  exact ⟨⟨(blk_cell hk1 i).trans q0, blk_frozen hk1 i⟩, (blk_cell hk2 _).trans y1, Marked.setCell hk1 ho hb q0 (.inr (.inl ⟨s0, s, rfl, rfl⟩))⟩
-- @cut
set_option maxHeartbeats 8000000 in
set_option maxRecDepth 100000 in
theorem laws_markPumpS.calls (k : Nat) (A0 : Option Addr) (c0 : Nat) (l0 : List S38) (a1 : Int) (r1 : Int) (w : World) (ok : Nat → Prop) (base : Nat) (hr0 : PmpRow w ok base (.slice A0 l0.length c0) l0) (h0 : laws_markPumpS.f k l0 a1 = some r1) :
    Calls Try.prog 13 #[.slice A0 l0.length c0, .int .i64 a1] w fun e w' => e = .returned (.int .i64 r1) ∧ Marked ok base w w' := by
  have hc0 : l0.length ≤ 4611686018427387904 ∧ ∀ x ∈ l0, x.f1.length ≤ 4611686018427387904 ∧ ∀ y ∈ x.f1, y.length ≤ 4611686018427387904 := by
    unfold laws_markPumpS.f at h0
    split at h0
    · rename_i hc
      simpa only [smallP, Bool.and_eq_true, decide_eq_true_eq, List.all_eq_true] using hc
    · cases h0
  have h : mkP k l0 a1 = some r1 := by
    unfold laws_markPumpS.f at h0
    split at h0
    · exact h0
    · cases h0
  clear h0
  have H0 := Aside0.mk h
  have HS := Aside0.mk hr0
  have HN := Aside0.mk hc0
  clear h hr0 hc0
  go_enter Try.func13, Try.ntmps13
  go_wp2
  go_loopg [1, 5] l0.length (fun gg s1 s5 wr => ∃ (kk : Nat) (a' : Int), s1 = .int .i64 a' ∧ s5 = .int .i64 kk ∧ Aside0 (kk ≤ l0.length) ∧ Aside0 (l0.length - kk ≤ gg) ∧ Aside0 (mkP k (l0.drop kk) a' = some r1) ∧ Aside0 (Marked ok base w wr))
  case atStart => exact ⟨0, a1, rfl, rfl, ⟨Nat.zero_le _⟩, ⟨by omega⟩, ⟨H0.out⟩, ⟨Marked.refl _ _ _⟩⟩
  case round =>
    obtain ⟨kk, a', rfl, rfl, hkk, hg, hq, hM⟩ := hrel
    by_cases hlt : kk < l0.length
    · have hltz : decide ((kk : Int) < (l0.length : Int)) = true := decide_eq_true (by omega)
      have hlt1 : ((kk : Int) < (l0.length : Int)) = True := eq_true (by omega)
      have hsm := HN.out.2 l0[kk] (List.getElem_mem hlt)
      have hdrop := List.drop_eq_getElem_cons hlt
      rcases HS.out.marked hM.out with ⟨_, h0⟩ | ⟨g, cap', cur, hv, ho, hb, hcur, hrow⟩
      · omega
      · injection hv with hA _ hC
        subst hA
        subst hC
        obtain ⟨s0, A3, c3, q0, q1, q4⟩ := hrow kk hlt
        have hq2 := hq.out
        rw [hdrop] at hq2
        unfold mkP at hq2
        obtain ⟨s, hs1, hq2⟩ := Option.bind_eq_some_iff.1 hq2
        generalize l0[kk].f1 = x3 at q1 q4 hq2 hsm
        have HQ := Aside0.mk hq2
        have HC := Aside0.mk hcur
        have Z0 := Aside0.mk q0
        have Z1 := Aside0.mk q1
        have Z4 := Aside0.mk q4
        have HB := Aside0.mk hb
        have HO := Aside0.mk ho
        have hcall := fun W => laws_markText.calls k a' s W hs1
        have hmark := fun W (hW : RowsRow W ok base (.slice A3 x3.length c3) x3) => markRows_in.calls A3 c3 x3 (wrap64 (a' + 1)) ok base W hW hsm.1 hsm.2
        clear hq2 hrow hcur q0 q1 q4 hdrop hs1 hsm hb
        go_wp2_with (first | (go_at_call 55; refine (hcall _).mono ?_; rintro e w' ⟨rfl, hb'⟩; obtain ⟨⟨hc1, hf1⟩, hc2, hM⟩ := pmp_write (blk_below HC.out hb') HO.out HB.out Z0.out Z1.out s; have hM1 := Aside0.mk ((Marked.of_below (ok := ok) (base := base) hb').trans hM); clear hM) | (go_at_call 56; refine (hmark _ (Z4.out.marked hM1.out)).mono ?_; rintro e w'' ⟨rfl, hM2⟩))
        go_roundg (l0.length - (kk + 1))
        case measure => have := hg.out; omega
        case rel => exact ⟨kk + 1, _, rfl, by rw [show wrap64 ((kk : Int) + 1) = ((kk + 1 : Nat) : Int) by have := HN.out.1; unfold wrap64; omega], ⟨by omega⟩, ⟨by omega⟩, HQ, ⟨hM.out.trans (hM1.out.trans hM2)⟩⟩
    · have hltz : decide ((kk : Int) < (l0.length : Int)) = false := decide_eq_false (by omega)
      go_wp2
      go_ret
      refine ⟨?_, hM.out⟩
      have := hq.out
      rw [List.drop_eq_nil_of_le (by omega)] at this
      unfold mkP at this
      rw [← Option.some.inj this]
      rfl

/-! ### laws_heldInt64S: function 15 -/
def laws_heldInt64S.l0 : Nat → List Int → Int → Int → Option (Int)
  | 0, _, _, _ => none
  | k + 1, x0, x1, x5 => if x5 < (x0.length : Int) then (if 0 ≤ x5 then (if (rd x0 x5) = x1 then (laws_heldInt64S.l0 k x0 (wrap64 (x1 + 1)) (wrap64 (x5 + 1))) else (some (-1))) else (none)) else (some x1)
def laws_heldInt64S.f (k : Nat) (l0 : List Int) (a1 : Int) : Option (Int) := laws_heldInt64S.l0 k l0 a1 0
theorem laws_heldInt64S.mono_l : ∀ k, (∀ y0 y1 y2, LeO (laws_heldInt64S.l0 k y0 y1 y2) (laws_heldInt64S.l0 (k + 1) y0 y1 y2))
  | 0 => fun _ _ _ r h => by simp [laws_heldInt64S.l0] at h
  | k + 1 => by
    have ih0 := laws_heldInt64S.mono_l k
    · intro y0 y1 y2
      unfold laws_heldInt64S.l0
      repeat' first
      | (with_reducible exact ih0 _ _ _)
      | (with_reducible exact LeO.refl _)
      | (with_reducible exact LeO.none _)
      | (with_reducible refine LeO.ite ?_ ?_)
      | (with_reducible refine LeO.bind ?_ (fun _ => ?_))
      | exact ih0 _ _ _
      | exact LeO.none _
      | refine LeO.ite ?_ ?_
      | refine LeO.bind ?_ (fun _ => ?_)
theorem laws_heldInt64S.mono : ∀ a0 a1 k, LeO (laws_heldInt64S.f k a0 a1) (laws_heldInt64S.f (k + 1) a0 a1) := by
  intro a0 a1 k
  have ih0 := laws_heldInt64S.mono_l k
  unfold laws_heldInt64S.f
  repeat' first
      | (with_reducible exact ih0 _ _ _)
      | (with_reducible exact LeO.refl _)
      | (with_reducible exact LeO.none _)
      | (with_reducible refine LeO.ite ?_ ?_)
      | (with_reducible refine LeO.bind ?_ (fun _ => ?_))
      | exact ih0 _ _ _
      | exact LeO.none _
      | refine LeO.ite ?_ ?_
      | refine LeO.bind ?_ (fun _ => ?_)
set_option maxHeartbeats 8000000 in
set_option maxRecDepth 100000 in
theorem laws_heldInt64S.calls (k : Nat) (A0 : Option Addr) (c0 : Nat) (l0 : List Int) (a1 : Int) (r : Int) (w : World) (hr0 : Kd.C (Kd.int .i64) w A0 l0.length l0) (hc0 : l0.length ≤ c0) (h : laws_heldInt64S.f k l0 a1 = some r) :
    Calls Try.prog 15 #[.slice A0 l0.length c0, .int .i64 a1] w fun e w' => e = .returned (.int .i64 r) ∧ Drawn0 w w' := by
  have HR0 := Aside0.mk hr0
  have HC0 := Aside0.mk hc0
  clear hr0 hc0
  have H : (laws_heldInt64S.l0 k l0 a1 0) = some r := h
  clear h
  have H' := Aside0.mk H
  clear H
  go_enter Try.func15, Try.ntmps15
  go_wp2
  go_loopg [1, 5] k (fun kq v1 v5 w' => ∃ (x1_1 : Int) (x5_1 : Int), v1 = .int .i64 x1_1 ∧ v5 = .int .i64 x5_1 ∧ Aside0 (laws_heldInt64S.l0 kq l0 x1_1 x5_1 = some r) ∧ Aside0 (kq ≤ k) ∧ Drawn0 w w')
  case atStart => exact ⟨(a1), (0), (by first | rfl | (simp; done) | (simp [*]; done)), (by first | rfl | (simp; done) | (simp [*]; done)), H', ⟨Nat.le_refl _⟩, by repeat (first | exact Drawn0.refl _ | apply Drawn0.step)⟩
  case round =>
    clear H'
    try clear c1
    try clear p2
    obtain ⟨x1_1, x5_1, rfl, rfl, HA, HK1, ⟨m1, rfl⟩⟩ := hrel
    cases gk with
    | zero => exact absurd HA.out (by simp [laws_heldInt64S.l0])
    | succ k1 =>
      have H := HA.out
      clear HA
      simp only [laws_heldInt64S.l0] at H
      by_cases c3 : x5_1 < (l0.length : Int)
      · rw [if_pos c3] at H
        have c3b0 : decide (x5_1 < (l0.length : Int)) = true := decide_eq_true c3
        clear c3
        by_cases c4 : 0 ≤ x5_1
        · rw [if_pos c4] at H
          have c4b0 : decide (0 ≤ x5_1) = true := decide_eq_true c4
          clear c4
          by_cases c5 : (rd l0 x5_1) = x1_1
          · rw [if_pos c5] at H
            have c5b0 : ((rd l0 x5_1) == x1_1) = true := beq_iff_eq.mpr c5
            have c5b1 : ((rd l0 x5_1) != x1_1) = false := bne_eq_false_iff_eq.mpr c5
            clear c5
            have H' := Aside0.mk H
            clear H
            have p268 : 0 ≤ (x5_1 : Int) := of_decide_eq_true (by first | (with_reducible assumption) | assumption)
            have q268 : x5_1 < (l0.length : Int) := of_decide_eq_true (by first | (with_reducible assumption) | assumption)
            obtain ⟨ad268, e268, hx268_0⟩ := Kd.at_int HR0.out x5_1 p268 q268
            cases e268
            replace p268 := eq_true p268
            replace q268 := eq_true q268
            go_wp2
            go_roundg k1
            case measure => have := HK1.out; omega
            case rel => exact ⟨(wrap64 (x1_1 + 1)), (wrap64 (x5_1 + 1)), (by first | rfl | (simp; done) | (simp [*]; done)), (by first | rfl | (simp; done) | (simp [*]; done)), H', ⟨by have := HK1.out; omega⟩, by repeat (first | exact Drawn0.refl _ | apply Drawn0.step)⟩
          · rw [if_neg c5] at H
            have c5b0 : ((rd l0 x5_1) == x1_1) = false := beq_eq_false_iff_ne.mpr c5
            have c5b1 : ((rd l0 x5_1) != x1_1) = true := bne_iff_ne.mpr c5
            obtain rfl := Option.some.inj H
            have p268 : 0 ≤ (x5_1 : Int) := of_decide_eq_true (by first | (with_reducible assumption) | assumption)
            have q268 : x5_1 < (l0.length : Int) := of_decide_eq_true (by first | (with_reducible assumption) | assumption)
            obtain ⟨ad268, e268, hx268_0⟩ := Kd.at_int HR0.out x5_1 p268 q268
            cases e268
            replace p268 := eq_true p268
            replace q268 := eq_true q268
            go_wp2
            go_ret
            exact ⟨by first | rfl | (simp; done) | (simp [*]; done), by repeat (first | exact Drawn0.refl _ | apply Drawn0.step)⟩
        · rw [if_neg c4] at H
          exact absurd H (by simp)
      · rw [if_neg c3] at H
        have c3b0 : decide (x5_1 < (l0.length : Int)) = false := decide_eq_false c3
        clear c3
        obtain rfl := Option.some.inj H
        go_wp2
        go_ret
        exact ⟨by first | rfl | (simp; done) | (simp [*]; done), by repeat (first | exact Drawn0.refl _ | apply Drawn0.step)⟩

end Go.Proofs.Ytndbgkcjccejdaa.PFnExactCheapestPumps
