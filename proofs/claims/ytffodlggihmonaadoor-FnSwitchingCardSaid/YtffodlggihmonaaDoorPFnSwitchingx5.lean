-- written by a program of this session (mkp.py) out of the translation; Lean checks it. -- squeezed
import Derived.Test.YtffodlggihmonaaDoorPFnSwitchingx0
import Derived.Test.YtffodlggihmonaaDoorPFnSwitchingx2
namespace Go.Proofs.YtffodlggihmonaaDoor.PFnSwitching
open Go.RowKit Go.Proofs.YtffodlggihmonaaDoorW.PrintWords Go.Proofs.YtffodlggihmonaaDoorW.PrintLast Go.Proofs.YtffodlggihmonaaDoorW.PrintMore
attribute [local go_sem] bin_leq bin_gtr bin_geq max2_int min2_int max_two min_two max_three min_three max_four min_four   -- for this text's walks alone
set_option linter.unusedVariables false
set_option linter.unusedSimpArgs false

/-! ### impl_CountAllowed: function 10 -/
def impl_CountAllowed.l0 : Nat → List (S51) → Int → Int → Int → Option (Int × Int)
 | 0, _, _, _, _ => none
 | k + 1, x1, x6, x13, x14 => if x14 < x13 then ((impl_switches_allowed.f x14 x1).bind fun t184 => (if t184 = true then (impl_CountAllowed.l0 k x1 (wrap64 (x6 + 1)) x13 (wrap64 (x14 + 1))) else (impl_CountAllowed.l0 k x1 x6 x13 (wrap64 (x14 + 1))))) else (some (x6, 0))
def impl_CountAllowed.f (k : Nat) (a0 : Int) (l1 : List (S51)) : Option (Int × Int) := (impl_ValidRules.f k a0 l1).bind fun t183 => (if t183 = true then (if 0 ≤ a0 then (impl_CountAllowed.l0 k l1 0 (shl .i64 1 a0) 0) else (none)) else (some (0, 1)))
theorem impl_CountAllowed.mono_l : ∀ k, (∀ y0 y1 y2 y3, LeO (impl_CountAllowed.l0 k y0 y1 y2 y3) (impl_CountAllowed.l0 (k + 1) y0 y1 y2 y3))
 | 0 => fun _ _ _ _ r h => by simp [impl_CountAllowed.l0] at h
 | k + 1 => by
  have ih0 := impl_CountAllowed.mono_l k
  ·
   intro y0 y1 y2 y3
   unfold impl_CountAllowed.l0
   repeat' first
   | (with_reducible exact ih0 _ _ _ _)
   | (with_reducible exact impl_ValidRules.mono _ _ _)
   | (with_reducible exact LeO.refl _)
   | (with_reducible exact LeO.none _)
   | (with_reducible refine LeO.ite ?_ ?_)
   | (with_reducible refine LeO.bind ?_ (fun _ => ?_))
   | exact ih0 _ _ _ _
   | exact impl_ValidRules.mono _ _ _
   | exact LeO.none _
   | refine LeO.ite ?_ ?_
   | refine LeO.bind ?_ (fun _ => ?_)
theorem impl_CountAllowed.mono : ∀ a0 a1 k, LeO (impl_CountAllowed.f k a0 a1) (impl_CountAllowed.f (k + 1) a0 a1) := by
 intro a0 a1 k
 have ih0 := impl_CountAllowed.mono_l k
 unfold impl_CountAllowed.f
 repeat' first
  | (with_reducible exact ih0 _ _ _ _)
  | (with_reducible exact impl_ValidRules.mono _ _ _)
  | (with_reducible exact LeO.refl _)
  | (with_reducible exact LeO.none _)
  | (with_reducible refine LeO.ite ?_ ?_)
  | (with_reducible refine LeO.bind ?_ (fun _ => ?_))
  | exact ih0 _ _ _ _
  | exact impl_ValidRules.mono _ _ _
  | exact LeO.none _
  | refine LeO.ite ?_ ?_
  | refine LeO.bind ?_ (fun _ => ?_)
set_option maxHeartbeats 8000000 in
set_option maxRecDepth 100000 in
theorem impl_CountAllowed.calls (k : Nat) (a0 : Int) (A1 : Option Addr) (c1 : Nat) (l1 : List (S51)) (r1 : Int) (r2 : Int) (w : World) (hr1 : Kd.C k51 w A1 l1.length l1) (hc1 : l1.length ≤ c1) (h : impl_CountAllowed.f k a0 l1 = some (r1, r2)) :
  Calls Tryd.prog 10 #[.int .i64 a0, .slice A1 l1.length c1] w fun e w' => e = .returned (.tuple #[.int .i64 r1, .int .i64 r2]) ∧ Below w.heap.size w w' := by
 have HR1 := Aside0.mk hr1
 have HC1 := Aside0.mk hc1
 clear hr1 hc1
 have HB := Aside0.mk (Below.refl w.heap.size w)
 have H : ((impl_ValidRules.f k a0 l1).bind fun t183 => (if t183 = true then (if 0 ≤ a0 then (impl_CountAllowed.l0 k l1 0 (shl .i64 1 a0) 0) else (none)) else (some (0, 1)))) = some (r1, r2) := h
 clear h
 replace H := Option.bind_eq_some_iff.mp H
 obtain ⟨t183, A30, H⟩ := H
 replace H : (if t183 = true then (if 0 ≤ a0 then (impl_CountAllowed.l0 k l1 0 (shl .i64 1 a0) 0) else (none)) else (some (0, 1))) = some (r1, r2) := H
 have A3 := Aside0.mk A30
 clear A30
 by_cases c4 : t183 = true
 ·
  subst c4
  have H1 : (if 0 ≤ a0 then (impl_CountAllowed.l0 k l1 0 (shl .i64 1 a0) 0) else (none)) = some (r1, r2) := by rw [if_pos rfl] at H; exact H
  clear H
  have H := H1
  clear H1
  by_cases c5 : 0 ≤ a0
  ·
   rw [if_pos c5] at H
   have c5b0 := eq_true c5
   have c5b1 : decide (0 ≤ a0) = true := decide_eq_true c5
   clear c5
   obtain ⟨ji6, hji6⟩ : ∃ j_ : Int, (shl .i64 1 a0) = j_ := ⟨_, rfl⟩
   replace H : (impl_CountAllowed.l0 k l1 0 ji6 0) = some (r1, r2) := by first | (rw [hji6] at H; exact H) | (simp only [hji6] at H ⊢; exact H)
   (try rw [hji6] at A3)
   have hji6_ : (IntKind.i64.wrap (1 * 2 ^ min a0.toNat 64)) = ji6 := hji6
   have hji6z : a0 ≤ 64 → (IntKind.i64.wrap (1 * 2 ^ a0.toNat)) = ji6 := shl_small hji6
   have hji6u : (IntKind.i64.wrap (2 ^ min a0.toNat 64)) = ji6 := by have h_ := hji6_; rw [Int.one_mul] at h_; exact h_
   have hji6v : a0 ≤ 64 → (IntKind.i64.wrap (2 ^ a0.toNat)) = ji6 := fun hle_ => by have h_ := hji6z hle_; rw [Int.one_mul] at h_; exact h_
   have hji6y : (wrap64 (1 * 2 ^ min a0.toNat 64)) = ji6 := (i64_w _).symm.trans hji6_
   have hji6x : a0 ≤ 64 → (wrap64 (1 * 2 ^ a0.toNat)) = ji6 := fun h_ => (i64_w _).symm.trans (hji6z h_)
   have H' := Aside0.mk H
   clear H
   go_enter Tryd.func10, Tryd.ntmps10
   go_wp2_with (first | ((with_reducible refine gate_callee (f := 28) rfl ?_); refine goesA_ (some 10) Tryd.func28 #[.int .i64 a0, .slice A1 l1.length c1] ?_; (with_reducible refine (impl_ValidRules.calls k a0 _ _ l1 true _ ?side1 ?side2 A3.out).mono ?_); (case side1 => exact mvC HR1.out); (case side2 => exact HC1.out); rintro e w7 ⟨rfl, hb⟩; refine ⟨_, rfl, ?_⟩; have n0_ := Aside0.mk (below_step (mvB HB.out) hb); clear HB; revert n0_; intro HB; (try clear hb)))
   go_loopg [6, 14] k (fun kq v6 v14 w' => ∃ (x6_1 : Int) (x14_1 : Int), v6 = .int .i64 x6_1 ∧ v14 = .int .i64 x14_1 ∧ Aside0 (impl_CountAllowed.l0 kq l1 x6_1 ji6 x14_1 = some (r1, r2)) ∧ Aside0 (kq ≤ k) ∧ Aside0 (Below w.heap.size w w'))
   case atStart => exact ⟨(0), (0), rs, rs, H', ⟨Nat.le_refl _⟩, ⟨mvB HB.out⟩⟩
   case round =>
    clear H'
    try clear c4
    try clear c5b0
    try clear c5b1
    obtain ⟨x6_1, x14_1, rfl, rfl, HA, HK1, HB⟩ := hrel
    cases gk with
    | zero => exact absurd HA.out (by simp [impl_CountAllowed.l0])
    | succ k1 =>
     have H := HA.out
     clear HA
     simp only [impl_CountAllowed.l0] at H
     by_cases c8 : x14_1 < ji6
     ·
      rw [if_pos c8] at H
      have c8b0 : decide (x14_1 < ji6) = true := decide_eq_true c8
      clear c8
      replace H := Option.bind_eq_some_iff.mp H
      obtain ⟨t184, A90, H⟩ := H
      replace H : (if t184 = true then (impl_CountAllowed.l0 k1 l1 (wrap64 (x6_1 + 1)) ji6 (wrap64 (x14_1 + 1))) else (impl_CountAllowed.l0 k1 l1 x6_1 ji6 (wrap64 (x14_1 + 1)))) = some (r1, r2) := H
      have A9 := Aside0.mk A90
      clear A90
      by_cases c10 : t184 = true
      ·
       subst c10
       have H1 : (impl_CountAllowed.l0 k1 l1 (wrap64 (x6_1 + 1)) ji6 (wrap64 (x14_1 + 1))) = some (r1, r2) := by rw [if_pos rfl] at H; exact H
       clear H
       have H := H1
       clear H1
       have H' := Aside0.mk H
       clear H
       go_wp2_with (first | ((with_reducible refine gate_callee (f := 31) rfl ?_); refine goesA_ (some 19) Tryd.func31 #[.int .i64 x14_1, .slice A1 l1.length c1] ?_; (with_reducible refine (impl_switches_allowed.calls x14_1 _ _ l1 true _ ?side1 ?side2 A9.out).mono ?_); (case side1 => exact mvC (Kd.C_below HR1.out HB.out)); (case side2 => exact HC1.out); rintro e w11 ⟨rfl, hb⟩; refine ⟨_, rfl, ?_⟩; have n0_ := Aside0.mk (below_step (mvB HB.out) hb); clear HB; revert n0_; intro HB; (try clear hb)))
       go_roundg k1
       case measure => have := HK1.out; omega
       case rel => exact ⟨(wrap64 (x6_1 + 1)), (wrap64 (x14_1 + 1)), rs, rs, H', ⟨by have := HK1.out; omega⟩, ⟨mvB HB.out⟩⟩
      ·
       replace c10 := Bool.eq_false_iff.mpr c10
       subst c10
       have H1 : (impl_CountAllowed.l0 k1 l1 x6_1 ji6 (wrap64 (x14_1 + 1))) = some (r1, r2) := by rw [if_neg (show ¬ (false = true) by decide)] at H; exact H
       clear H
       have H := H1
       clear H1
       have H' := Aside0.mk H
       clear H
       go_wp2_with (first | ((with_reducible refine gate_callee (f := 31) rfl ?_); refine goesA_ (some 19) Tryd.func31 #[.int .i64 x14_1, .slice A1 l1.length c1] ?_; (with_reducible refine (impl_switches_allowed.calls x14_1 _ _ l1 false _ ?side1 ?side2 A9.out).mono ?_); (case side1 => exact mvC (Kd.C_below HR1.out HB.out)); (case side2 => exact HC1.out); rintro e w12 ⟨rfl, hb⟩; refine ⟨_, rfl, ?_⟩; have n0_ := Aside0.mk (below_step (mvB HB.out) hb); clear HB; revert n0_; intro HB; (try clear hb)))
       go_roundg k1
       case measure => have := HK1.out; omega
       case rel => exact ⟨(x6_1), (wrap64 (x14_1 + 1)), rs, rs, H', ⟨by have := HK1.out; omega⟩, ⟨mvB HB.out⟩⟩
     ·
      rw [if_neg c8] at H
      have c8b0 : decide (x14_1 < ji6) = false := decide_eq_false c8
      clear c8
      simp only [Option.some.injEq, Prod.mk.injEq] at H
      obtain ⟨rfl, rfl⟩ := H
      go_wp2
      go_ret2
      exact ⟨by first | rfl | (simp [errW_none, errW_some] <;> rfl) | (simp only [← hji6]; first | rfl | (simp [errW_none, errW_some] <;> rfl)) | (simp [*, errW_none, errW_some] <;> rfl), mvB HB.out⟩
  ·
   rw [if_neg c5] at H
   exact absurd H (by simp)
 ·
  replace c4 := Bool.eq_false_iff.mpr c4
  subst c4
  have H1 : (some (0, 1)) = some (r1, r2) := by rw [if_neg (show ¬ (false = true) by decide)] at H; exact H
  clear H
  have H := H1
  clear H1
  simp only [Option.some.injEq, Prod.mk.injEq] at H
  obtain ⟨rfl, rfl⟩ := H
  go_enter Tryd.func10, Tryd.ntmps10
  go_wp2_with (first | ((with_reducible refine gate_callee (f := 28) rfl ?_); refine goesA_ (some 10) Tryd.func28 #[.int .i64 a0, .slice A1 l1.length c1] ?_; (with_reducible refine (impl_ValidRules.calls k a0 _ _ l1 false _ ?side1 ?side2 A3.out).mono ?_); (case side1 => exact mvC HR1.out); (case side2 => exact HC1.out); rintro e w13 ⟨rfl, hb⟩; refine ⟨_, rfl, ?_⟩; have n0_ := Aside0.mk (below_step (mvB HB.out) hb); clear HB; revert n0_; intro HB; (try clear hb)))
  go_ret2
  exact ⟨by first | rfl | (simp [errW_none, errW_some] <;> rfl) | (simp [*, errW_none, errW_some] <;> rfl), mvB HB.out⟩

/-! ### impl_switches_53: function 53 -/
def impl_switches_53.l0 : Nat → List Int → Int → Int → Int → Option (Int)
 | 0, _, _, _, _ => none
 | k + 1, x0, x1, x7, x8 => if x8 < x7 then (if 0 ≤ x8 then (if x8 < (x0.length : Int) then (if x1 = (rd x0 x8) then (some x8) else (impl_switches_53.l0 k x0 x1 x7 (wrap64 (x8 + 1)))) else (none)) else (none)) else (some (-1))
def impl_switches_53.f (k : Nat) (l0 : List Int) (a1 : Int) : Option (Int) := impl_switches_53.l0 k l0 a1 (l0.length : Int) 0
theorem impl_switches_53.mono_l : ∀ k, (∀ y0 y1 y2 y3, LeO (impl_switches_53.l0 k y0 y1 y2 y3) (impl_switches_53.l0 (k + 1) y0 y1 y2 y3))
 | 0 => fun _ _ _ _ r h => by simp [impl_switches_53.l0] at h
 | k + 1 => by
  have ih0 := impl_switches_53.mono_l k
  ·
   intro y0 y1 y2 y3
   unfold impl_switches_53.l0
   repeat' first
   | (with_reducible exact ih0 _ _ _ _)
   | (with_reducible exact LeO.refl _)
   | (with_reducible exact LeO.none _)
   | (with_reducible refine LeO.ite ?_ ?_)
   | (with_reducible refine LeO.bind ?_ (fun _ => ?_))
   | exact ih0 _ _ _ _
   | exact LeO.none _
   | refine LeO.ite ?_ ?_
   | refine LeO.bind ?_ (fun _ => ?_)
theorem impl_switches_53.mono : ∀ a0 a1 k, LeO (impl_switches_53.f k a0 a1) (impl_switches_53.f (k + 1) a0 a1) := by
 intro a0 a1 k
 have ih0 := impl_switches_53.mono_l k
 unfold impl_switches_53.f
 repeat' first
  | (with_reducible exact ih0 _ _ _ _)
  | (with_reducible exact LeO.refl _)
  | (with_reducible exact LeO.none _)
  | (with_reducible refine LeO.ite ?_ ?_)
  | (with_reducible refine LeO.bind ?_ (fun _ => ?_))
  | exact ih0 _ _ _ _
  | exact LeO.none _
  | refine LeO.ite ?_ ?_
  | refine LeO.bind ?_ (fun _ => ?_)
set_option maxHeartbeats 8000000 in
set_option maxRecDepth 100000 in
theorem impl_switches_53.calls (k : Nat) (A0 : Option Addr) (c0 : Nat) (l0 : List Int) (a1 : Int) (r : Int) (w : World) (hr0 : Kd.C (Kd.int .i64) w A0 l0.length l0) (hc0 : l0.length ≤ c0) (h : impl_switches_53.f k l0 a1 = some r) :
  Calls Tryd.prog 53 #[.slice A0 l0.length c0, .int .i64 a1] w fun e w' => e = .returned (.int .i64 r) ∧ Drawn0 w w' := by
 have HR0 := Aside0.mk hr0
 have HC0 := Aside0.mk hc0
 clear hr0 hc0
 have H : (impl_switches_53.l0 k l0 a1 (l0.length : Int) 0) = some r := h
 clear h
 have H' := Aside0.mk H
 clear H
 go_enter Tryd.func53, Tryd.ntmps53
 go_wp2
 go_loopg [8] k (fun kq v8 w' => ∃ (x8_1 : Int), v8 = .int .i64 x8_1 ∧ Aside0 (impl_switches_53.l0 kq l0 a1 (l0.length : Int) x8_1 = some r) ∧ Aside0 (kq ≤ k) ∧ Drawn0 w w')
 case atStart => exact ⟨(0), rs, H', ⟨Nat.le_refl _⟩, dr0⟩
 case round =>
  clear H'
  obtain ⟨x8_1, rfl, HA, HK1, ⟨m1, rfl⟩⟩ := hrel
  cases gk with
  | zero => exact absurd HA.out (by simp [impl_switches_53.l0])
  | succ k1 =>
   have H := HA.out
   clear HA
   simp only [impl_switches_53.l0] at H
   by_cases c3 : x8_1 < (l0.length : Int)
   ·
    rw [if_pos c3] at H
    have c3b0 : decide (x8_1 < (l0.length : Int)) = true := decide_eq_true c3
    clear c3
    by_cases c4 : 0 ≤ x8_1
    ·
     rw [if_pos c4] at H
     have c4b0 : decide (0 ≤ x8_1) = true := decide_eq_true c4
     clear c4
     by_cases c5 : x8_1 < (l0.length : Int)
     ·
      rw [if_pos c5] at H
      have c5b0 : decide (x8_1 < (l0.length : Int)) = true := decide_eq_true c5
      clear c5
      by_cases c6 : a1 = (rd l0 x8_1)
      ·
       rw [if_pos c6] at H
       have c6b0 : (a1 == (rd l0 x8_1)) = true := beq_iff_eq.mpr c6
       have c6b1 : (a1 != (rd l0 x8_1)) = false := bne_eq_false_iff_eq.mpr c6
       clear c6
       obtain rfl := Option.some.inj H
       have p185 : 0 ≤ (x8_1 : Int) := od
       have q185 : x8_1 < (l0.length : Int) := od
       obtain ⟨ad185, e185, hx185_0⟩ := Kd.at_int HR0.out x8_1 p185 q185
       cases e185
       replace p185 := eq_true p185
       replace q185 := eq_true q185
       go_wp2
       go_ret
       exact ⟨rs, dr0⟩
      ·
       rw [if_neg c6] at H
       have c6b0 : (a1 == (rd l0 x8_1)) = false := beq_eq_false_iff_ne.mpr c6
       have c6b1 : (a1 != (rd l0 x8_1)) = true := bne_iff_ne.mpr c6
       have H' := Aside0.mk H
       clear H
       have p185 : 0 ≤ (x8_1 : Int) := od
       have q185 : x8_1 < (l0.length : Int) := od
       obtain ⟨ad185, e185, hx185_0⟩ := Kd.at_int HR0.out x8_1 p185 q185
       cases e185
       replace p185 := eq_true p185
       replace q185 := eq_true q185
       go_wp2
       go_roundg k1
       case measure => have := HK1.out; omega
       case rel => exact ⟨(wrap64 (x8_1 + 1)), rs, H', ⟨by have := HK1.out; omega⟩, dr0⟩
     ·
      rw [if_neg c5] at H
      exact absurd H (by simp)
    ·
     rw [if_neg c4] at H
     exact absurd H (by simp)
   ·
    rw [if_neg c3] at H
    have c3b0 : decide (x8_1 < (l0.length : Int)) = false := decide_eq_false c3
    clear c3
    obtain rfl := Option.some.inj H
    go_wp2
    go_ret
    exact ⟨rs, dr0⟩

/-! ### impl_switches_34: function 34 -/
def impl_switches_34.f (k : Nat) (l0 : List Int) (a1 : Int) : Option (Bool) := (impl_switches_53.f k l0 a1).bind fun t186 => (some (decide (t186 ≥ 0)))
theorem impl_switches_34.mono : ∀ a0 a1 k, LeO (impl_switches_34.f k a0 a1) (impl_switches_34.f (k + 1) a0 a1) := by
 intro a0 a1 k
 unfold impl_switches_34.f
 repeat' first
  | (with_reducible exact impl_switches_53.mono _ _ _)
  | (with_reducible exact LeO.refl _)
  | (with_reducible exact LeO.none _)
  | (with_reducible refine LeO.ite ?_ ?_)
  | (with_reducible refine LeO.bind ?_ (fun _ => ?_))
  | exact impl_switches_53.mono _ _ _
  | exact LeO.none _
  | refine LeO.ite ?_ ?_
  | refine LeO.bind ?_ (fun _ => ?_)
set_option maxHeartbeats 8000000 in
set_option maxRecDepth 100000 in
theorem impl_switches_34.calls (k : Nat) (A0 : Option Addr) (c0 : Nat) (l0 : List Int) (a1 : Int) (r : Bool) (w : World) (hr0 : Kd.C (Kd.int .i64) w A0 l0.length l0) (hc0 : l0.length ≤ c0) (h : impl_switches_34.f k l0 a1 = some r) :
  Calls Tryd.prog 34 #[.slice A0 l0.length c0, .int .i64 a1] w fun e w' => e = .returned (.bool r) ∧ Drawn0 w w' := by
 have HR0 := Aside0.mk hr0
 have HC0 := Aside0.mk hc0
 clear hr0 hc0
 have H : ((impl_switches_53.f k l0 a1).bind fun t186 => (some (decide (t186 ≥ 0)))) = some r := h
 clear h
 replace H := Option.bind_eq_some_iff.mp H
 obtain ⟨t186, A30, H⟩ := H
 replace H : (some (decide (t186 ≥ 0))) = some r := H
 have A3 := Aside0.mk A30
 clear A30
 obtain rfl := Option.some.inj H
 go_enter Tryd.func34, Tryd.ntmps34
 go_wp2_with (first | ((with_reducible refine gate_callee (f := 53) rfl ?_); refine goesA_ (some 7) Tryd.func53 #[.slice A0 l0.length c0, .int .i64 a1] ?_; (with_reducible refine (impl_switches_53.calls k _ _ l0 a1 t186 _ ?side1 ?side2 A3.out).mono ?_); (case side1 => exact mvC HR0.out); (case side2 => exact HC0.out); rintro e w' ⟨rfl, ⟨nd, rfl⟩⟩; refine ⟨_, rfl, ?_⟩))
 go_ret
 exact ⟨rs, dr0⟩

/-! ### impl_CountReached: function 11 -/
mutual
def impl_CountReached.l0 : Nat → List Bool → List (S51) → List Int → Int → Option (Int × Int)
 | 0, _, _, _, _ => none
 | k + 1, x0, x1, x6, x7 => if x7 < (x6.length : Int) then (impl_CountReached.l1 k x0 x1 x6 x7 (x0.length : Int) 0) else (some ((x6.length : Int), 0))
def impl_CountReached.l1 : Nat → List Bool → List (S51) → List Int → Int → Int → Int → Option (Int × Int)
 | 0, _, _, _, _, _, _ => none
 | k + 1, x0, x1, x6, x7, x25, x26 => if x26 < x25 then (if 0 ≤ x7 then (if x7 < (x6.length : Int) then (if 0 ≤ x26 then ((impl_switches_allowed.f (Go.bits .xor .i64 (rd x6 x7) (shl .i64 1 x26)) x1).bind fun t193 => (if t193 = true then ((impl_switches_34.f k x6 (Go.bits .xor .i64 (rd x6 x7) (shl .i64 1 x26))).bind fun t194 => (if t194 = true then (impl_CountReached.l1 k x0 x1 x6 x7 x25 (wrap64 (x26 + 1))) else (if x6.length < 17592186044416 then (impl_CountReached.l1 k x0 x1 (x6 ++ [Go.bits .xor .i64 (rd x6 x7) (shl .i64 1 x26)]) x7 x25 (wrap64 (x26 + 1))) else (none)))) else (impl_CountReached.l1 k x0 x1 x6 x7 x25 (wrap64 (x26 + 1))))) else (none)) else (none)) else (none)) else (impl_CountReached.l0 k x0 x1 x6 (wrap64 (x7 + 1)))
end
def impl_CountReached.f (k : Nat) (l0 : List Bool) (l1 : List (S51)) : Option (Int × Int) := (impl_ValidRules.f k (l0.length : Int) l1).bind fun t187 => (if t187 = true then ((impl_switchSet.f k l0).bind fun t188 => (impl_CountReached.l0 k l0 l1 (([t188] : List Int)) 0)) else (some (0, 1)))
theorem impl_CountReached.mono_l : ∀ k, (∀ y0 y1 y2 y3, LeO (impl_CountReached.l0 k y0 y1 y2 y3) (impl_CountReached.l0 (k + 1) y0 y1 y2 y3)) ∧ (∀ y0 y1 y2 y3 y4 y5, LeO (impl_CountReached.l1 k y0 y1 y2 y3 y4 y5) (impl_CountReached.l1 (k + 1) y0 y1 y2 y3 y4 y5))
 | 0 => ⟨fun _ _ _ _ r h => by simp [impl_CountReached.l0] at h, fun _ _ _ _ _ _ r h => by simp [impl_CountReached.l1] at h⟩
 | k + 1 => by
  obtain ⟨ih0, ih1⟩ := impl_CountReached.mono_l k
  refine ⟨?_, ?_⟩
  ·
   intro y0 y1 y2 y3
   unfold impl_CountReached.l0
   repeat' first
   | (with_reducible exact ih0 _ _ _ _)
   | (with_reducible exact ih1 _ _ _ _ _ _)
   | (with_reducible exact impl_ValidRules.mono _ _ _)
   | (with_reducible exact impl_switchSet.mono _ _)
   | (with_reducible exact impl_switches_34.mono _ _ _)
   | (with_reducible exact LeO.refl _)
   | (with_reducible exact LeO.none _)
   | (with_reducible refine LeO.ite ?_ ?_)
   | (with_reducible refine LeO.bind ?_ (fun _ => ?_))
   | exact ih0 _ _ _ _
   | exact ih1 _ _ _ _ _ _
   | exact impl_ValidRules.mono _ _ _
   | exact impl_switchSet.mono _ _
   | exact impl_switches_34.mono _ _ _
   | exact LeO.none _
   | refine LeO.ite ?_ ?_
   | refine LeO.bind ?_ (fun _ => ?_)
  ·
   intro y0 y1 y2 y3 y4 y5
   unfold impl_CountReached.l1
   repeat' first
   | (with_reducible exact ih0 _ _ _ _)
   | (with_reducible exact ih1 _ _ _ _ _ _)
   | (with_reducible exact impl_ValidRules.mono _ _ _)
   | (with_reducible exact impl_switchSet.mono _ _)
   | (with_reducible exact impl_switches_34.mono _ _ _)
   | (with_reducible exact LeO.refl _)
   | (with_reducible exact LeO.none _)
   | (with_reducible refine LeO.ite ?_ ?_)
   | (with_reducible refine LeO.bind ?_ (fun _ => ?_))
   | exact ih0 _ _ _ _
   | exact ih1 _ _ _ _ _ _
   | exact impl_ValidRules.mono _ _ _
   | exact impl_switchSet.mono _ _
   | exact impl_switches_34.mono _ _ _
   | exact LeO.none _
   | refine LeO.ite ?_ ?_
   | refine LeO.bind ?_ (fun _ => ?_)
theorem impl_CountReached.mono : ∀ a0 a1 k, LeO (impl_CountReached.f k a0 a1) (impl_CountReached.f (k + 1) a0 a1) := by
 intro a0 a1 k
 obtain ⟨ih0, ih1⟩ := impl_CountReached.mono_l k
 unfold impl_CountReached.f
 repeat' first
  | (with_reducible exact ih0 _ _ _ _)
  | (with_reducible exact ih1 _ _ _ _ _ _)
  | (with_reducible exact impl_ValidRules.mono _ _ _)
  | (with_reducible exact impl_switchSet.mono _ _)
  | (with_reducible exact impl_switches_34.mono _ _ _)
  | (with_reducible exact LeO.refl _)
  | (with_reducible exact LeO.none _)
  | (with_reducible refine LeO.ite ?_ ?_)
  | (with_reducible refine LeO.bind ?_ (fun _ => ?_))
  | exact ih0 _ _ _ _
  | exact ih1 _ _ _ _ _ _
  | exact impl_ValidRules.mono _ _ _
  | exact impl_switchSet.mono _ _
  | exact impl_switches_34.mono _ _ _
  | exact LeO.none _
  | refine LeO.ite ?_ ?_
  | refine LeO.bind ?_ (fun _ => ?_)
set_option maxHeartbeats 8000000 in
set_option maxRecDepth 100000 in
theorem impl_CountReached.calls (k : Nat) (A0 : Option Addr) (c0 : Nat) (l0 : List Bool) (A1 : Option Addr) (c1 : Nat) (l1 : List (S51)) (r1 : Int) (r2 : Int) (w : World) (hr0 : Kd.C Kd.bool w A0 l0.length l0) (hc0 : l0.length ≤ c0) (hr1 : Kd.C k51 w A1 l1.length l1) (hc1 : l1.length ≤ c1) (h : impl_CountReached.f k l0 l1 = some (r1, r2)) :
  Calls Tryd.prog 11 #[.slice A0 l0.length c0, .slice A1 l1.length c1] w fun e w' => e = .returned (.tuple #[.int .i64 r1, .int .i64 r2]) ∧ Below w.heap.size w w' := by
 have HR0 := Aside0.mk hr0
 have HC0 := Aside0.mk hc0
 clear hr0 hc0
 have HR1 := Aside0.mk hr1
 have HC1 := Aside0.mk hc1
 clear hr1 hc1
 have HB := Aside0.mk (Below.refl w.heap.size w)
 have H : ((impl_ValidRules.f k (l0.length : Int) l1).bind fun t187 => (if t187 = true then ((impl_switchSet.f k l0).bind fun t188 => (impl_CountReached.l0 k l0 l1 (([t188] : List Int)) 0)) else (some (0, 1)))) = some (r1, r2) := h
 clear h
 replace H := Option.bind_eq_some_iff.mp H
 obtain ⟨t187, A30, H⟩ := H
 replace H : (if t187 = true then ((impl_switchSet.f k l0).bind fun t188 => (impl_CountReached.l0 k l0 l1 (([t188] : List Int)) 0)) else (some (0, 1))) = some (r1, r2) := H
 have A3 := Aside0.mk A30
 clear A30
 by_cases c4 : t187 = true
 ·
  subst c4
  have H1 : ((impl_switchSet.f k l0).bind fun t188 => (impl_CountReached.l0 k l0 l1 (([t188] : List Int)) 0)) = some (r1, r2) := by rw [if_pos rfl] at H; exact H
  clear H
  have H := H1
  clear H1
  replace H := Option.bind_eq_some_iff.mp H
  obtain ⟨t188, A50, H⟩ := H
  replace H : (impl_CountReached.l0 k l0 l1 (([t188] : List Int)) 0) = some (r1, r2) := H
  have A5 := Aside0.mk A50
  clear A50
  obtain ⟨y189, hy189⟩ : ∃ y_ : List Int, y_ = (([t188] : List Int)) := ⟨_, rfl⟩
  replace H : (impl_CountReached.l0 k l0 l1 y189 0) = some (r1, r2) := by first | (rw [hy189]; with_reducible exact H) | (have H2_ := (Option.bind_some _ _).symm.trans H; rw [hy189]; with_reducible exact H2_) | (have H2_ := (Option.bind_some _ _).symm.trans H; with_reducible exact H2_) | with_reducible exact H | (rw [hy189]; exact H) | exact H
  have Ny189 := Aside0.mk hy189
  clear hy189
  have H' := Aside0.mk H
  clear H
  go_enter Tryd.func11, Tryd.ntmps11
  go_wp2_with (first | (go_at_call 28; (with_reducible refine (impl_ValidRules.calls k (l0.length : Int) _ _ l1 true _ ?side1 ?side2 A3.out).mono ?_); (case side1 => exact mvC HR1.out); (case side2 => exact HC1.out); rintro e w6 ⟨rfl, hb⟩; have n0_ := Aside0.mk (below_step (mvB HB.out) hb); clear HB; revert n0_; intro HB; (try clear hb); (try clear hk)) | (go_at_call 29; (with_reducible refine (impl_switchSet.calls k _ _ l0 t188 _ ?side1 ?side2 A5.out).mono ?_); (case side1 => exact mvC (Kd.C_below HR0.out HB.out)); (case side2 => exact HC0.out); rintro e w' ⟨rfl, ⟨nd, rfl⟩⟩; (try first | exact ⟨rfl, _, World.drewN_drewN _ _ _⟩ | exact ⟨rfl, _, Eq.trans (World.drewN_drewN _ _ _) (congrArg (World.drewN _) (Nat.add_assoc _ _ _))⟩)) | ((with_reducible refine gate_dst (N := 17) rfl ?_); refine Kd.R_lit (Kd.int .i64) _ 53 ?hg (N := 17) ?hd (xs := ([t188] : List Int)) (inner := [.int .i64 t188]) (ok := fun _ => True) (okp := fun _ => True) ?hr ?hp (fun _ hk => hk) trivial (Below.refl _ _) (Nat.le_refl _) (by simp) ?_; (case hd => rfl); (case hg => rfl); (case hr => first | (go_simp; done) | (go_simp; rfl)); (case hp => exact (Reps.one (show Kd.M (Kd.int .i64) _ _ _ t188 [.int .i64 t188] from rfl) (Reps.none _ _))); intro v190 w7 ho8 hb hg_ hnew_; clear hg_ hnew_; (first | rw [← Ny189.out] at ho8 | (simp only [Int.reduceToNat] at ho8; rw [← Ny189.out] at ho8)); have n0_ := Aside0.mk (Kd.R_lower ho8 (below_size (mvB HB.out))); have n1_ := Aside0.mk (below_step (mvB HB.out) hb); clear HB; revert n0_ n1_; intro HO191 HB; clear hb ho8))
  repeat (go_quiet (first | (go_at_call 28; (with_reducible refine (impl_ValidRules.calls k (l0.length : Int) _ _ l1 true _ ?side1 ?side2 A3.out).mono ?_); (case side1 => exact mvC HR1.out); (case side2 => exact HC1.out); rintro e w6 ⟨rfl, hb⟩; have n0_ := Aside0.mk (below_step (mvB HB.out) hb); clear HB; revert n0_; intro HB; (try clear hb); (try clear hk)) | (go_at_call 29; (with_reducible refine (impl_switchSet.calls k _ _ l0 t188 _ ?side1 ?side2 A5.out).mono ?_); (case side1 => exact mvC (Kd.C_below HR0.out HB.out)); (case side2 => exact HC0.out); rintro e w' ⟨rfl, ⟨nd, rfl⟩⟩; (try first | exact ⟨rfl, _, World.drewN_drewN _ _ _⟩ | exact ⟨rfl, _, Eq.trans (World.drewN_drewN _ _ _) (congrArg (World.drewN _) (Nat.add_assoc _ _ _))⟩)) | ((with_reducible refine gate_dst (N := 17) rfl ?_); refine Kd.R_lit (Kd.int .i64) _ 53 ?hg (N := 17) ?hd (xs := ([t188] : List Int)) (inner := [.int .i64 t188]) (ok := fun _ => True) (okp := fun _ => True) ?hr ?hp (fun _ hk => hk) trivial (Below.refl _ _) (Nat.le_refl _) (by simp) ?_; (case hd => rfl); (case hg => rfl); (case hr => first | (go_simp; done) | (go_simp; rfl)); (case hp => exact (Reps.one (show Kd.M (Kd.int .i64) _ _ _ t188 [.int .i64 t188] from rfl) (Reps.none _ _))); intro v190 w7 ho8 hb hg_ hnew_; clear hg_ hnew_; (first | rw [← Ny189.out] at ho8 | (simp only [Int.reduceToNat] at ho8; rw [← Ny189.out] at ho8)); have n0_ := Aside0.mk (Kd.R_lower ho8 (below_size (mvB HB.out))); have n1_ := Aside0.mk (below_step (mvB HB.out) hb); clear HB; revert n0_ n1_; intro HO191 HB; clear hb ho8)); try go_wp2_with (first | (go_at_call 28; (with_reducible refine (impl_ValidRules.calls k (l0.length : Int) _ _ l1 true _ ?side1 ?side2 A3.out).mono ?_); (case side1 => exact mvC HR1.out); (case side2 => exact HC1.out); rintro e w6 ⟨rfl, hb⟩; have n0_ := Aside0.mk (below_step (mvB HB.out) hb); clear HB; revert n0_; intro HB; (try clear hb); (try clear hk)) | (go_at_call 29; (with_reducible refine (impl_switchSet.calls k _ _ l0 t188 _ ?side1 ?side2 A5.out).mono ?_); (case side1 => exact mvC (Kd.C_below HR0.out HB.out)); (case side2 => exact HC0.out); rintro e w' ⟨rfl, ⟨nd, rfl⟩⟩; (try first | exact ⟨rfl, _, World.drewN_drewN _ _ _⟩ | exact ⟨rfl, _, Eq.trans (World.drewN_drewN _ _ _) (congrArg (World.drewN _) (Nat.add_assoc _ _ _))⟩)) | ((with_reducible refine gate_dst (N := 17) rfl ?_); refine Kd.R_lit (Kd.int .i64) _ 53 ?hg (N := 17) ?hd (xs := ([t188] : List Int)) (inner := [.int .i64 t188]) (ok := fun _ => True) (okp := fun _ => True) ?hr ?hp (fun _ hk => hk) trivial (Below.refl _ _) (Nat.le_refl _) (by simp) ?_; (case hd => rfl); (case hg => rfl); (case hr => first | (go_simp; done) | (go_simp; rfl)); (case hp => exact (Reps.one (show Kd.M (Kd.int .i64) _ _ _ t188 [.int .i64 t188] from rfl) (Reps.none _ _))); intro v190 w7 ho8 hb hg_ hnew_; clear hg_ hnew_; (first | rw [← Ny189.out] at ho8 | (simp only [Int.reduceToNat] at ho8; rw [← Ny189.out] at ho8)); have n0_ := Aside0.mk (Kd.R_lower ho8 (below_size (mvB HB.out))); have n1_ := Aside0.mk (below_step (mvB HB.out) hb); clear HB; revert n0_ n1_; intro HO191 HB; clear hb ho8)))
  go_loopg [6, 7] k (fun kq v6 v7 w' => ∃ (x6_1 : List Int) (x7_1 : Int), v7 = .int .i64 x7_1 ∧ Aside0 (impl_CountReached.l0 kq l0 l1 x6_1 x7_1 = some (r1, r2)) ∧ Aside0 (kq ≤ k) ∧ Aside0 (Kd.R (Kd.int .i64) 53 w' w.heap.size (fun _ => True) v6 x6_1) ∧ Aside0 (Below w.heap.size w w'))
  case atStart => exact ⟨(y189), (0), rs, H', ⟨Nat.le_refl _⟩, ⟨mv HO191.out⟩, ⟨mvB HB.out⟩⟩
  case round =>
   clear H'
   try clear c4
   obtain ⟨x6_1, x7_1, rfl, HA, HK1, HO_6, HB⟩ := hrel
   cases gk with
   | zero => exact absurd HA.out (by simp [impl_CountReached.l0])
   | succ k1 =>
    have H := HA.out
    clear HA
    simp only [impl_CountReached.l0] at H
    by_cases c9 : x7_1 < (x6_1.length : Int)
    ·
     rw [if_pos c9] at H
     have c9b0 : decide (x7_1 < (x6_1.length : Int)) = true := decide_eq_true c9
     clear c9
     have H' := Aside0.mk H
     clear H
     obtain ⟨Ao10, co10, eo10⟩ := Kd.R_slice HO_6.out
     subst eo10
     go_wp2
     repeat (go_quiet (fail); try go_wp2)
     go_loopg [6, 26] k1 (fun kq v6 v26 w' => ∃ (x6_2 : List Int) (x26_2 : Int), v26 = .int .i64 x26_2 ∧ Aside0 (impl_CountReached.l1 kq l0 l1 x6_2 x7_1 (l0.length : Int) x26_2 = some (r1, r2)) ∧ Aside0 (kq ≤ k1) ∧ Aside0 (Kd.R (Kd.int .i64) 53 w' w.heap.size (fun _ => True) v6 x6_2) ∧ Aside0 (Below w.heap.size w w'))
     case atStart => exact ⟨(x6_1), (0), rs, H', ⟨Nat.le_refl _⟩, ⟨mv HO_6.out⟩, ⟨mvB HB.out⟩⟩
     case round =>
      clear H'
      try clear c4
      try clear c9b0
      obtain ⟨x6_2, x26_2, rfl, HA, HK2, HO_6, HB⟩ := hrel
      cases gk with
      | zero => exact absurd HA.out (by simp [impl_CountReached.l1])
      | succ k2 =>
       have H := HA.out
       clear HA
       simp only [impl_CountReached.l1] at H
       by_cases c11 : x26_2 < (l0.length : Int)
       ·
        rw [if_pos c11] at H
        have c11b0 : decide (x26_2 < (l0.length : Int)) = true := decide_eq_true c11
        clear c11
        by_cases c12 : 0 ≤ x7_1
        ·
         rw [if_pos c12] at H
         have c12b0 : decide (0 ≤ x7_1) = true := decide_eq_true c12
         clear c12
         by_cases c13 : x7_1 < (x6_2.length : Int)
         ·
          rw [if_pos c13] at H
          have c13b0 : decide (x7_1 < (x6_2.length : Int)) = true := decide_eq_true c13
          clear c13
          by_cases c14 : 0 ≤ x26_2
          ·
           rw [if_pos c14] at H
           have c14b0 := eq_true c14
           have c14b1 : decide (0 ≤ x26_2) = true := decide_eq_true c14
           clear c14
           obtain ⟨ji15, hji15⟩ : ∃ j_ : Int, (shl .i64 1 x26_2) = j_ := ⟨_, rfl⟩
           replace H : ((impl_switches_allowed.f (Go.bits .xor .i64 (rd x6_2 x7_1) (ji15)) l1).bind fun t193 => (if t193 = true then ((impl_switches_34.f k2 x6_2 (Go.bits .xor .i64 (rd x6_2 x7_1) (ji15))).bind fun t194 => (if t194 = true then (impl_CountReached.l1 k2 l0 l1 x6_2 x7_1 (l0.length : Int) (wrap64 (x26_2 + 1))) else (if x6_2.length < 17592186044416 then (impl_CountReached.l1 k2 l0 l1 (x6_2 ++ [Go.bits .xor .i64 (rd x6_2 x7_1) (ji15)]) x7_1 (l0.length : Int) (wrap64 (x26_2 + 1))) else (none)))) else (impl_CountReached.l1 k2 l0 l1 x6_2 x7_1 (l0.length : Int) (wrap64 (x26_2 + 1))))) = some (r1, r2) := by first | (rw [hji15] at H; exact H) | (simp only [hji15] at H ⊢; exact H)
           have hji15_ : (IntKind.i64.wrap (1 * 2 ^ min x26_2.toNat 64)) = ji15 := hji15
           have hji15z : x26_2 ≤ 64 → (IntKind.i64.wrap (1 * 2 ^ x26_2.toNat)) = ji15 := shl_small hji15
           have hji15u : (IntKind.i64.wrap (2 ^ min x26_2.toNat 64)) = ji15 := by have h_ := hji15_; rw [Int.one_mul] at h_; exact h_
           have hji15v : x26_2 ≤ 64 → (IntKind.i64.wrap (2 ^ x26_2.toNat)) = ji15 := fun hle_ => by have h_ := hji15z hle_; rw [Int.one_mul] at h_; exact h_
           have hji15y : (wrap64 (1 * 2 ^ min x26_2.toNat 64)) = ji15 := (i64_w _).symm.trans hji15_
           have hji15x : x26_2 ≤ 64 → (wrap64 (1 * 2 ^ x26_2.toNat)) = ji15 := fun h_ => (i64_w _).symm.trans (hji15z h_)
           replace H := Option.bind_eq_some_iff.mp H
           obtain ⟨t193, A160, H⟩ := H
           replace H : (if t193 = true then ((impl_switches_34.f k2 x6_2 (Go.bits .xor .i64 (rd x6_2 x7_1) (ji15))).bind fun t194 => (if t194 = true then (impl_CountReached.l1 k2 l0 l1 x6_2 x7_1 (l0.length : Int) (wrap64 (x26_2 + 1))) else (if x6_2.length < 17592186044416 then (impl_CountReached.l1 k2 l0 l1 (x6_2 ++ [Go.bits .xor .i64 (rd x6_2 x7_1) (ji15)]) x7_1 (l0.length : Int) (wrap64 (x26_2 + 1))) else (none)))) else (impl_CountReached.l1 k2 l0 l1 x6_2 x7_1 (l0.length : Int) (wrap64 (x26_2 + 1)))) = some (r1, r2) := H
           have A16 := Aside0.mk A160
           clear A160
           by_cases c17 : t193 = true
           ·
            subst c17
            have H1 : ((impl_switches_34.f k2 x6_2 (Go.bits .xor .i64 (rd x6_2 x7_1) (ji15))).bind fun t194 => (if t194 = true then (impl_CountReached.l1 k2 l0 l1 x6_2 x7_1 (l0.length : Int) (wrap64 (x26_2 + 1))) else (if x6_2.length < 17592186044416 then (impl_CountReached.l1 k2 l0 l1 (x6_2 ++ [Go.bits .xor .i64 (rd x6_2 x7_1) (ji15)]) x7_1 (l0.length : Int) (wrap64 (x26_2 + 1))) else (none)))) = some (r1, r2) := by rw [if_pos rfl] at H; exact H
            clear H
            have H := H1
            clear H1
            replace H := Option.bind_eq_some_iff.mp H
            obtain ⟨t194, A180, H⟩ := H
            replace H : (if t194 = true then (impl_CountReached.l1 k2 l0 l1 x6_2 x7_1 (l0.length : Int) (wrap64 (x26_2 + 1))) else (if x6_2.length < 17592186044416 then (impl_CountReached.l1 k2 l0 l1 (x6_2 ++ [Go.bits .xor .i64 (rd x6_2 x7_1) (ji15)]) x7_1 (l0.length : Int) (wrap64 (x26_2 + 1))) else (none))) = some (r1, r2) := H
            have A18 := Aside0.mk A180
            clear A180
            by_cases c19 : t194 = true
            ·
             subst c19
             have H1 : (impl_CountReached.l1 k2 l0 l1 x6_2 x7_1 (l0.length : Int) (wrap64 (x26_2 + 1))) = some (r1, r2) := by rw [if_pos rfl] at H; exact H
             clear H
             have H := H1
             clear H1
             have H' := Aside0.mk H
             clear H
             obtain ⟨Ao20, co20, eo20⟩ := Kd.R_slice HO_6.out
             subst eo20
             have p192 : 0 ≤ (x7_1 : Int) := od
             have q192 : x7_1 < (x6_2.length : Int) := od
             obtain ⟨ad192, e192, hx192_0⟩ := Kd.at_int (Kd.R_reads' HO_6.out).2.2 x7_1 p192 q192
             cases e192
             replace p192 := eq_true p192
             replace q192 := eq_true q192
             go_wp2_with (first | (go_at_call 31; (with_reducible refine (impl_switches_allowed.calls (Go.bits .xor .i64 (rd x6_2 x7_1) (ji15)) _ _ l1 true _ ?side1 ?side2 A16.out).mono ?_); (case side1 => exact mvC (Kd.C_below HR1.out HB.out)); (case side2 => exact HC1.out); rintro e w21 ⟨rfl, hb⟩; have n0_ := Aside0.mk (Kd.R_below (mv HO_6.out) hb); have n1_ := Aside0.mk (below_step (mvB HB.out) hb); clear HO_6 HB; revert n0_ n1_; intro HO_6 HB; (try clear hb)) | (go_at_call 34; (with_reducible refine (impl_switches_34.calls k2 _ _ x6_2 (Go.bits .xor .i64 (rd x6_2 x7_1) (ji15)) true _ ?side1 ?side2 A18.out).mono ?_); (case side1 => exact mvC (Kd.R_reads' HO_6.out).2.2); (case side2 => exact (Kd.R_reads' HO_6.out).2.1); rintro e w' ⟨rfl, ⟨nd, rfl⟩⟩; (try first | exact ⟨rfl, _, World.drewN_drewN _ _ _⟩ | exact ⟨rfl, _, Eq.trans (World.drewN_drewN _ _ _) (congrArg (World.drewN _) (Nat.add_assoc _ _ _))⟩)))
             repeat (go_quiet (first | (go_at_call 31; (with_reducible refine (impl_switches_allowed.calls (Go.bits .xor .i64 (rd x6_2 x7_1) (ji15)) _ _ l1 true _ ?side1 ?side2 A16.out).mono ?_); (case side1 => exact mvC (Kd.C_below HR1.out HB.out)); (case side2 => exact HC1.out); rintro e w21 ⟨rfl, hb⟩; have n0_ := Aside0.mk (Kd.R_below (mv HO_6.out) hb); have n1_ := Aside0.mk (below_step (mvB HB.out) hb); clear HO_6 HB; revert n0_ n1_; intro HO_6 HB; (try clear hb)) | (go_at_call 34; (with_reducible refine (impl_switches_34.calls k2 _ _ x6_2 (Go.bits .xor .i64 (rd x6_2 x7_1) (ji15)) true _ ?side1 ?side2 A18.out).mono ?_); (case side1 => exact mvC (Kd.R_reads' HO_6.out).2.2); (case side2 => exact (Kd.R_reads' HO_6.out).2.1); rintro e w' ⟨rfl, ⟨nd, rfl⟩⟩; (try first | exact ⟨rfl, _, World.drewN_drewN _ _ _⟩ | exact ⟨rfl, _, Eq.trans (World.drewN_drewN _ _ _) (congrArg (World.drewN _) (Nat.add_assoc _ _ _))⟩))); try go_wp2_with (first | (go_at_call 31; (with_reducible refine (impl_switches_allowed.calls (Go.bits .xor .i64 (rd x6_2 x7_1) (ji15)) _ _ l1 true _ ?side1 ?side2 A16.out).mono ?_); (case side1 => exact mvC (Kd.C_below HR1.out HB.out)); (case side2 => exact HC1.out); rintro e w21 ⟨rfl, hb⟩; have n0_ := Aside0.mk (Kd.R_below (mv HO_6.out) hb); have n1_ := Aside0.mk (below_step (mvB HB.out) hb); clear HO_6 HB; revert n0_ n1_; intro HO_6 HB; (try clear hb)) | (go_at_call 34; (with_reducible refine (impl_switches_34.calls k2 _ _ x6_2 (Go.bits .xor .i64 (rd x6_2 x7_1) (ji15)) true _ ?side1 ?side2 A18.out).mono ?_); (case side1 => exact mvC (Kd.R_reads' HO_6.out).2.2); (case side2 => exact (Kd.R_reads' HO_6.out).2.1); rintro e w' ⟨rfl, ⟨nd, rfl⟩⟩; (try first | exact ⟨rfl, _, World.drewN_drewN _ _ _⟩ | exact ⟨rfl, _, Eq.trans (World.drewN_drewN _ _ _) (congrArg (World.drewN _) (Nat.add_assoc _ _ _))⟩))))
             go_roundg k2
             case measure => have := HK1.out; have := HK2.out; omega
             case rel => exact ⟨(x6_2), (wrap64 (x26_2 + 1)), rs, H', ⟨by have := HK1.out; have := HK2.out; omega⟩, ⟨mv HO_6.out⟩, ⟨mvB HB.out⟩⟩
            ·
             replace c19 := Bool.eq_false_iff.mpr c19
             subst c19
             have H1 : (if x6_2.length < 17592186044416 then (impl_CountReached.l1 k2 l0 l1 (x6_2 ++ [Go.bits .xor .i64 (rd x6_2 x7_1) (ji15)]) x7_1 (l0.length : Int) (wrap64 (x26_2 + 1))) else (none)) = some (r1, r2) := by rw [if_neg (show ¬ (false = true) by decide)] at H; exact H
             clear H
             have H := H1
             clear H1
             by_cases c22 : x6_2.length < 17592186044416
             ·
              rw [if_pos c22] at H
              have LMc22 := Aside0.mk c22
              clear c22
              obtain ⟨y195, hy195⟩ : ∃ y_ : List Int, y_ = (x6_2 ++ [Go.bits .xor .i64 (rd x6_2 x7_1) (ji15)]) := ⟨_, rfl⟩
              replace H : (impl_CountReached.l1 k2 l0 l1 y195 x7_1 (l0.length : Int) (wrap64 (x26_2 + 1))) = some (r1, r2) := by first | (rw [hy195]; with_reducible exact H) | (have H2_ := (Option.bind_some _ _).symm.trans H; rw [hy195]; with_reducible exact H2_) | (have H2_ := (Option.bind_some _ _).symm.trans H; with_reducible exact H2_) | with_reducible exact H | (rw [hy195]; exact H) | exact H
              have Ny195 := Aside0.mk hy195
              clear hy195
              have H' := Aside0.mk H
              clear H
              obtain ⟨Ao23, co23, eo23⟩ := Kd.R_slice HO_6.out
              subst eo23
              have p192 : 0 ≤ (x7_1 : Int) := od
              have q192 : x7_1 < (x6_2.length : Int) := od
              obtain ⟨ad192, e192, hx192_0⟩ := Kd.at_int (Kd.R_reads' HO_6.out).2.2 x7_1 p192 q192
              cases e192
              replace p192 := eq_true p192
              replace q192 := eq_true q192
              go_wp2_with (first | (go_at_call 31; (with_reducible refine (impl_switches_allowed.calls (Go.bits .xor .i64 (rd x6_2 x7_1) (ji15)) _ _ l1 true _ ?side1 ?side2 A16.out).mono ?_); (case side1 => exact mvC (Kd.C_below HR1.out HB.out)); (case side2 => exact HC1.out); rintro e w24 ⟨rfl, hb⟩; have n0_ := Aside0.mk (Kd.R_below (mv HO_6.out) hb); have n1_ := Aside0.mk (below_step (mvB HB.out) hb); clear HO_6 HB; revert n0_ n1_; intro HO_6 HB; (try clear hb); (try clear hk)) | (go_at_call 34; (with_reducible refine (impl_switches_34.calls k2 _ _ x6_2 (Go.bits .xor .i64 (rd x6_2 x7_1) (ji15)) false _ ?side1 ?side2 A18.out).mono ?_); (case side1 => exact mvC (Kd.R_reads' HO_6.out).2.2); (case side2 => exact (Kd.R_reads' HO_6.out).2.1); rintro e w' ⟨rfl, ⟨nd, rfl⟩⟩; (try first | exact ⟨rfl, _, World.drewN_drewN _ _ _⟩ | exact ⟨rfl, _, Eq.trans (World.drewN_drewN _ _ _) (congrArg (World.drewN _) (Nat.add_assoc _ _ _))⟩)) | ((with_reducible refine gate_builtin (b := .append) (xs := #[.tmp 45, .tmp 47]) rfl ?_); at_builtin; refine Kd.R_append (Kd.int .i64) (w0 := w) w.heap.size rfl (.tmp 45) (.tmp 47) 58 53 (.int .i64 0) 8 rfl Tryd.underlying58 info53 rfl (by decide) (by omega) (.slice (some ad192) x6_2.length co23) x6_2 (Go.bits .xor .i64 (rd x6_2 x7_1) (ji15)) [.int .i64 (Go.bits .xor .i64 (rd x6_2 x7_1) (ji15))] (fun _ => True) (fun _ => False) rfl rfl ?aP (fun _ hk => hk.elim) ?aF ?aO ?aB ?aS ?aL ?_; (case aP => exact rfl); (case aB => exact (mvB HB.out)); (case aF => exact (fun _ _ => trivial)); (case aO => exact (mv HO_6.out)); (case aS => exact (below_size (mvB HB.out))); (case aL => have := LMc22.out; omega); intro v196 w25 ho hb hg hat; rw [← Ny195.out] at ho; have n0_ := Aside0.mk (hb); have n1_ := Aside0.mk (ho); clear HB HO_6; revert n0_ n1_; intro HB HO197; clear ho hb hg hat))
              repeat (go_quiet (first | (go_at_call 31; (with_reducible refine (impl_switches_allowed.calls (Go.bits .xor .i64 (rd x6_2 x7_1) (ji15)) _ _ l1 true _ ?side1 ?side2 A16.out).mono ?_); (case side1 => exact mvC (Kd.C_below HR1.out HB.out)); (case side2 => exact HC1.out); rintro e w24 ⟨rfl, hb⟩; have n0_ := Aside0.mk (Kd.R_below (mv HO_6.out) hb); have n1_ := Aside0.mk (below_step (mvB HB.out) hb); clear HO_6 HB; revert n0_ n1_; intro HO_6 HB; (try clear hb); (try clear hk)) | (go_at_call 34; (with_reducible refine (impl_switches_34.calls k2 _ _ x6_2 (Go.bits .xor .i64 (rd x6_2 x7_1) (ji15)) false _ ?side1 ?side2 A18.out).mono ?_); (case side1 => exact mvC (Kd.R_reads' HO_6.out).2.2); (case side2 => exact (Kd.R_reads' HO_6.out).2.1); rintro e w' ⟨rfl, ⟨nd, rfl⟩⟩; (try first | exact ⟨rfl, _, World.drewN_drewN _ _ _⟩ | exact ⟨rfl, _, Eq.trans (World.drewN_drewN _ _ _) (congrArg (World.drewN _) (Nat.add_assoc _ _ _))⟩)) | ((with_reducible refine gate_builtin (b := .append) (xs := #[.tmp 45, .tmp 47]) rfl ?_); at_builtin; refine Kd.R_append (Kd.int .i64) (w0 := w) w.heap.size rfl (.tmp 45) (.tmp 47) 58 53 (.int .i64 0) 8 rfl Tryd.underlying58 info53 rfl (by decide) (by omega) (.slice (some ad192) x6_2.length co23) x6_2 (Go.bits .xor .i64 (rd x6_2 x7_1) (ji15)) [.int .i64 (Go.bits .xor .i64 (rd x6_2 x7_1) (ji15))] (fun _ => True) (fun _ => False) rfl rfl ?aP (fun _ hk => hk.elim) ?aF ?aO ?aB ?aS ?aL ?_; (case aP => exact rfl); (case aB => exact (mvB HB.out)); (case aF => exact (fun _ _ => trivial)); (case aO => exact (mv HO_6.out)); (case aS => exact (below_size (mvB HB.out))); (case aL => have := LMc22.out; omega); intro v196 w25 ho hb hg hat; rw [← Ny195.out] at ho; have n0_ := Aside0.mk (hb); have n1_ := Aside0.mk (ho); clear HB HO_6; revert n0_ n1_; intro HB HO197; clear ho hb hg hat)); try go_wp2_with (first | (go_at_call 31; (with_reducible refine (impl_switches_allowed.calls (Go.bits .xor .i64 (rd x6_2 x7_1) (ji15)) _ _ l1 true _ ?side1 ?side2 A16.out).mono ?_); (case side1 => exact mvC (Kd.C_below HR1.out HB.out)); (case side2 => exact HC1.out); rintro e w24 ⟨rfl, hb⟩; have n0_ := Aside0.mk (Kd.R_below (mv HO_6.out) hb); have n1_ := Aside0.mk (below_step (mvB HB.out) hb); clear HO_6 HB; revert n0_ n1_; intro HO_6 HB; (try clear hb); (try clear hk)) | (go_at_call 34; (with_reducible refine (impl_switches_34.calls k2 _ _ x6_2 (Go.bits .xor .i64 (rd x6_2 x7_1) (ji15)) false _ ?side1 ?side2 A18.out).mono ?_); (case side1 => exact mvC (Kd.R_reads' HO_6.out).2.2); (case side2 => exact (Kd.R_reads' HO_6.out).2.1); rintro e w' ⟨rfl, ⟨nd, rfl⟩⟩; (try first | exact ⟨rfl, _, World.drewN_drewN _ _ _⟩ | exact ⟨rfl, _, Eq.trans (World.drewN_drewN _ _ _) (congrArg (World.drewN _) (Nat.add_assoc _ _ _))⟩)) | ((with_reducible refine gate_builtin (b := .append) (xs := #[.tmp 45, .tmp 47]) rfl ?_); at_builtin; refine Kd.R_append (Kd.int .i64) (w0 := w) w.heap.size rfl (.tmp 45) (.tmp 47) 58 53 (.int .i64 0) 8 rfl Tryd.underlying58 info53 rfl (by decide) (by omega) (.slice (some ad192) x6_2.length co23) x6_2 (Go.bits .xor .i64 (rd x6_2 x7_1) (ji15)) [.int .i64 (Go.bits .xor .i64 (rd x6_2 x7_1) (ji15))] (fun _ => True) (fun _ => False) rfl rfl ?aP (fun _ hk => hk.elim) ?aF ?aO ?aB ?aS ?aL ?_; (case aP => exact rfl); (case aB => exact (mvB HB.out)); (case aF => exact (fun _ _ => trivial)); (case aO => exact (mv HO_6.out)); (case aS => exact (below_size (mvB HB.out))); (case aL => have := LMc22.out; omega); intro v196 w25 ho hb hg hat; rw [← Ny195.out] at ho; have n0_ := Aside0.mk (hb); have n1_ := Aside0.mk (ho); clear HB HO_6; revert n0_ n1_; intro HB HO197; clear ho hb hg hat)))
              go_roundg k2
              case measure => have := HK1.out; have := HK2.out; omega
              case rel => exact ⟨(y195), (wrap64 (x26_2 + 1)), rs, H', ⟨by have := HK1.out; have := HK2.out; omega⟩, ⟨mv HO197.out⟩, ⟨mvB HB.out⟩⟩
             ·
              rw [if_neg c22] at H
              exact absurd H (by simp)
           ·
            replace c17 := Bool.eq_false_iff.mpr c17
            subst c17
            have H1 : (impl_CountReached.l1 k2 l0 l1 x6_2 x7_1 (l0.length : Int) (wrap64 (x26_2 + 1))) = some (r1, r2) := by rw [if_neg (show ¬ (false = true) by decide)] at H; exact H
            clear H
            have H := H1
            clear H1
            have H' := Aside0.mk H
            clear H
            obtain ⟨Ao26, co26, eo26⟩ := Kd.R_slice HO_6.out
            subst eo26
            have p192 : 0 ≤ (x7_1 : Int) := od
            have q192 : x7_1 < (x6_2.length : Int) := od
            obtain ⟨ad192, e192, hx192_0⟩ := Kd.at_int (Kd.R_reads' HO_6.out).2.2 x7_1 p192 q192
            cases e192
            replace p192 := eq_true p192
            replace q192 := eq_true q192
            go_wp2_with (first | (go_at_call 31; (with_reducible refine (impl_switches_allowed.calls (Go.bits .xor .i64 (rd x6_2 x7_1) (ji15)) _ _ l1 false _ ?side1 ?side2 A16.out).mono ?_); (case side1 => exact mvC (Kd.C_below HR1.out HB.out)); (case side2 => exact HC1.out); rintro e w27 ⟨rfl, hb⟩; have n0_ := Aside0.mk (Kd.R_below (mv HO_6.out) hb); have n1_ := Aside0.mk (below_step (mvB HB.out) hb); clear HO_6 HB; revert n0_ n1_; intro HO_6 HB; (try clear hb)))
            repeat (go_quiet (first | (go_at_call 31; (with_reducible refine (impl_switches_allowed.calls (Go.bits .xor .i64 (rd x6_2 x7_1) (ji15)) _ _ l1 false _ ?side1 ?side2 A16.out).mono ?_); (case side1 => exact mvC (Kd.C_below HR1.out HB.out)); (case side2 => exact HC1.out); rintro e w27 ⟨rfl, hb⟩; have n0_ := Aside0.mk (Kd.R_below (mv HO_6.out) hb); have n1_ := Aside0.mk (below_step (mvB HB.out) hb); clear HO_6 HB; revert n0_ n1_; intro HO_6 HB; (try clear hb))); try go_wp2_with (first | (go_at_call 31; (with_reducible refine (impl_switches_allowed.calls (Go.bits .xor .i64 (rd x6_2 x7_1) (ji15)) _ _ l1 false _ ?side1 ?side2 A16.out).mono ?_); (case side1 => exact mvC (Kd.C_below HR1.out HB.out)); (case side2 => exact HC1.out); rintro e w27 ⟨rfl, hb⟩; have n0_ := Aside0.mk (Kd.R_below (mv HO_6.out) hb); have n1_ := Aside0.mk (below_step (mvB HB.out) hb); clear HO_6 HB; revert n0_ n1_; intro HO_6 HB; (try clear hb))))
            go_roundg k2
            case measure => have := HK1.out; have := HK2.out; omega
            case rel => exact ⟨(x6_2), (wrap64 (x26_2 + 1)), rs, H', ⟨by have := HK1.out; have := HK2.out; omega⟩, ⟨mv HO_6.out⟩, ⟨mvB HB.out⟩⟩
          ·
           rw [if_neg c14] at H
           exact absurd H (by simp)
         ·
          rw [if_neg c13] at H
          exact absurd H (by simp)
        ·
         rw [if_neg c12] at H
         exact absurd H (by simp)
       ·
        rw [if_neg c11] at H
        have c11b0 : decide (x26_2 < (l0.length : Int)) = false := decide_eq_false c11
        clear c11
        have H' := Aside0.mk H
        clear H
        go_wp2
        repeat (go_quiet (fail); try go_wp2)
        go_roundg k2
        case measure => have := HK1.out; have := HK2.out; omega
        case rel => exact ⟨(x6_2), (wrap64 (x7_1 + 1)), rs, H', ⟨by have := HK1.out; have := HK2.out; omega⟩, ⟨mv HO_6.out⟩, ⟨mvB HB.out⟩⟩
    ·
     rw [if_neg c9] at H
     have c9b0 : decide (x7_1 < (x6_1.length : Int)) = false := decide_eq_false c9
     clear c9
     simp only [Option.some.injEq, Prod.mk.injEq] at H
     obtain ⟨rfl, rfl⟩ := H
     obtain ⟨Ao28, co28, eo28⟩ := Kd.R_slice HO_6.out
     subst eo28
     go_wp2
     repeat (go_quiet (fail); try go_wp2)
     go_ret2
     exact ⟨by first | rfl | (simp [errW_none, errW_some] <;> rfl) | (simp [*, errW_none, errW_some] <;> rfl), mvB HB.out⟩
 ·
  replace c4 := Bool.eq_false_iff.mpr c4
  subst c4
  have H1 : (some (0, 1)) = some (r1, r2) := by rw [if_neg (show ¬ (false = true) by decide)] at H; exact H
  clear H
  have H := H1
  clear H1
  simp only [Option.some.injEq, Prod.mk.injEq] at H
  obtain ⟨rfl, rfl⟩ := H
  go_enter Tryd.func11, Tryd.ntmps11
  go_wp2_with (first | (go_at_call 28; (with_reducible refine (impl_ValidRules.calls k (l0.length : Int) _ _ l1 false _ ?side1 ?side2 A3.out).mono ?_); (case side1 => exact mvC HR1.out); (case side2 => exact HC1.out); rintro e w29 ⟨rfl, hb⟩; have n0_ := Aside0.mk (below_step (mvB HB.out) hb); clear HB; revert n0_; intro HB; (try clear hb)))
  repeat (go_quiet (first | (go_at_call 28; (with_reducible refine (impl_ValidRules.calls k (l0.length : Int) _ _ l1 false _ ?side1 ?side2 A3.out).mono ?_); (case side1 => exact mvC HR1.out); (case side2 => exact HC1.out); rintro e w29 ⟨rfl, hb⟩; have n0_ := Aside0.mk (below_step (mvB HB.out) hb); clear HB; revert n0_; intro HB; (try clear hb))); try go_wp2_with (first | (go_at_call 28; (with_reducible refine (impl_ValidRules.calls k (l0.length : Int) _ _ l1 false _ ?side1 ?side2 A3.out).mono ?_); (case side1 => exact mvC HR1.out); (case side2 => exact HC1.out); rintro e w29 ⟨rfl, hb⟩; have n0_ := Aside0.mk (below_step (mvB HB.out) hb); clear HB; revert n0_; intro HB; (try clear hb))))
  go_ret2
  exact ⟨by first | rfl | (simp [errW_none, errW_some] <;> rfl) | (simp [*, errW_none, errW_some] <;> rfl), mvB HB.out⟩

/-! ### impl_BrokenRules: function 12 -/
def impl_BrokenRules.l0 : Nat → Int → List Int → List (S51) → Int → Int → Option (List Int × Int)
 | 0, _, _, _, _, _ => none
 | k + 1, x6, x7, x17, x18, x19 => if x19 < x18 then (if 0 ≤ x19 then (if x19 < (x17.length : Int) then ((impl_switches_breaks.f x6 ((rd_T51 x17 x19).f0) ((rd_T51 x17 x19).f1) ((rd_T51 x17 x19).f2)).bind fun t202 => (if t202 = true then (if x7.length < 17592186044416 then (impl_BrokenRules.l0 k x6 (x7 ++ [x19]) x17 x18 (wrap64 (x19 + 1))) else (none)) else (impl_BrokenRules.l0 k x6 x7 x17 x18 (wrap64 (x19 + 1))))) else (none)) else (none)) else (some (x7, 0))
def impl_BrokenRules.f (k : Nat) (l0 : List Bool) (l1 : List (S51)) : Option (List Int × Int) := (impl_ValidRules.f k (l0.length : Int) l1).bind fun t198 => (if t198 = true then ((impl_switchSet.f k l0).bind fun t199 => (impl_BrokenRules.l0 k t199 ([] : List Int) l1 (l1.length : Int) 0)) else (some (([] : List Int), 1)))
theorem impl_BrokenRules.mono_l : ∀ k, (∀ y0 y1 y2 y3 y4, LeO (impl_BrokenRules.l0 k y0 y1 y2 y3 y4) (impl_BrokenRules.l0 (k + 1) y0 y1 y2 y3 y4))
 | 0 => fun _ _ _ _ _ r h => by simp [impl_BrokenRules.l0] at h
 | k + 1 => by
  have ih0 := impl_BrokenRules.mono_l k
  ·
   intro y0 y1 y2 y3 y4
   unfold impl_BrokenRules.l0
   repeat' first
   | (with_reducible exact ih0 _ _ _ _ _)
   | (with_reducible exact impl_ValidRules.mono _ _ _)
   | (with_reducible exact impl_switchSet.mono _ _)
   | (with_reducible exact LeO.refl _)
   | (with_reducible exact LeO.none _)
   | (with_reducible refine LeO.ite ?_ ?_)
   | (with_reducible refine LeO.bind ?_ (fun _ => ?_))
   | exact ih0 _ _ _ _ _
   | exact impl_ValidRules.mono _ _ _
   | exact impl_switchSet.mono _ _
   | exact LeO.none _
   | refine LeO.ite ?_ ?_
   | refine LeO.bind ?_ (fun _ => ?_)
theorem impl_BrokenRules.mono : ∀ a0 a1 k, LeO (impl_BrokenRules.f k a0 a1) (impl_BrokenRules.f (k + 1) a0 a1) := by
 intro a0 a1 k
 have ih0 := impl_BrokenRules.mono_l k
 unfold impl_BrokenRules.f
 repeat' first
  | (with_reducible exact ih0 _ _ _ _ _)
  | (with_reducible exact impl_ValidRules.mono _ _ _)
  | (with_reducible exact impl_switchSet.mono _ _)
  | (with_reducible exact LeO.refl _)
  | (with_reducible exact LeO.none _)
  | (with_reducible refine LeO.ite ?_ ?_)
  | (with_reducible refine LeO.bind ?_ (fun _ => ?_))
  | exact ih0 _ _ _ _ _
  | exact impl_ValidRules.mono _ _ _
  | exact impl_switchSet.mono _ _
  | exact LeO.none _
  | refine LeO.ite ?_ ?_
  | refine LeO.bind ?_ (fun _ => ?_)
set_option maxHeartbeats 8000000 in
set_option maxRecDepth 100000 in
theorem impl_BrokenRules.calls (k : Nat) (A0 : Option Addr) (c0 : Nat) (l0 : List Bool) (A1 : Option Addr) (c1 : Nat) (l1 : List (S51)) (r1 : List Int) (r2 : Int) (w : World) (hr0 : Kd.C Kd.bool w A0 l0.length l0) (hc0 : l0.length ≤ c0) (hr1 : Kd.C k51 w A1 l1.length l1) (hc1 : l1.length ≤ c1) (h : impl_BrokenRules.f k l0 l1 = some (r1, r2)) :
  Calls Tryd.prog 12 #[.slice A0 l0.length c0, .slice A1 l1.length c1] w fun e w' => ∃ v0_ : Value, e = .returned (.tuple #[v0_, .int .i64 r2]) ∧ Kd.R (Kd.int .i64) 2 w' w.heap.size (fun _ => True) v0_ r1 ∧ Below w.heap.size w w' := by
 have hu51 := Tryd.underlying51
 have HR0 := Aside0.mk hr0
 have HC0 := Aside0.mk hc0
 clear hr0 hc0
 have HR1 := Aside0.mk hr1
 have HC1 := Aside0.mk hc1
 clear hr1 hc1
 have HB := Aside0.mk (Below.refl w.heap.size w)
 have H : ((impl_ValidRules.f k (l0.length : Int) l1).bind fun t198 => (if t198 = true then ((impl_switchSet.f k l0).bind fun t199 => (impl_BrokenRules.l0 k t199 ([] : List Int) l1 (l1.length : Int) 0)) else (some (([] : List Int), 1)))) = some (r1, r2) := h
 clear h
 replace H := Option.bind_eq_some_iff.mp H
 obtain ⟨t198, A30, H⟩ := H
 replace H : (if t198 = true then ((impl_switchSet.f k l0).bind fun t199 => (impl_BrokenRules.l0 k t199 ([] : List Int) l1 (l1.length : Int) 0)) else (some (([] : List Int), 1))) = some (r1, r2) := H
 have A3 := Aside0.mk A30
 clear A30
 by_cases c4 : t198 = true
 ·
  subst c4
  have H1 : ((impl_switchSet.f k l0).bind fun t199 => (impl_BrokenRules.l0 k t199 ([] : List Int) l1 (l1.length : Int) 0)) = some (r1, r2) := by rw [if_pos rfl] at H; exact H
  clear H
  have H := H1
  clear H1
  replace H := Option.bind_eq_some_iff.mp H
  obtain ⟨t199, A50, H⟩ := H
  replace H : (impl_BrokenRules.l0 k t199 ([] : List Int) l1 (l1.length : Int) 0) = some (r1, r2) := H
  have A5 := Aside0.mk A50
  clear A50
  have H' := Aside0.mk H
  clear H
  go_enter Tryd.func12, Tryd.ntmps12
  go_wp2_with (first | ((with_reducible refine gate_callee (f := 28) rfl ?_); refine goesA_ (some 13) Tryd.func28 #[.int .i64 (l0.length : Int), .slice A1 l1.length c1] ?_; (with_reducible refine (impl_ValidRules.calls k (l0.length : Int) _ _ l1 true _ ?side1 ?side2 A3.out).mono ?_); (case side1 => exact mvC HR1.out); (case side2 => exact HC1.out); rintro e w6 ⟨rfl, hb⟩; refine ⟨_, rfl, ?_⟩; have n0_ := Aside0.mk (below_step (mvB HB.out) hb); clear HB; revert n0_; intro HB; (try clear hb)) | ((with_reducible refine gate_callee (f := 29) rfl ?_); refine goesA_ (some 16) Tryd.func29 #[.slice A0 l0.length c0] ?_; (with_reducible refine (impl_switchSet.calls k _ _ l0 t199 _ ?side1 ?side2 A5.out).mono ?_); (case side1 => exact mvC (Kd.C_below HR0.out HB.out)); (case side2 => exact HC0.out); rintro e w' ⟨rfl, ⟨nd, rfl⟩⟩; refine ⟨_, rfl, ?_⟩))
  go_loopg [7, 19] k (fun kq v7 v19 w' => ∃ (x7_1 : List Int) (x19_1 : Int), v19 = .int .i64 x19_1 ∧ Aside0 (impl_BrokenRules.l0 kq t199 x7_1 l1 (l1.length : Int) x19_1 = some (r1, r2)) ∧ Aside0 (kq ≤ k) ∧ Aside0 (Kd.R (Kd.int .i64) 2 w' w.heap.size (fun _ => True) v7 x7_1) ∧ Aside0 (Below w.heap.size w w'))
  case atStart => exact ⟨(([] : List Int)), (0), rs, H', ⟨Nat.le_refl _⟩, ⟨by first | exact Kd.R_nil _ _ _ _ _ | exact Kd.N_nil _ _ _ _ _ | exact Kd.V_nil _ _ _ _ _ | exact Kd.Q_nil _ _ _ _ _ | exact Kd.S_nil _ _ _ _ _⟩, ⟨mvB HB.out⟩⟩
  case round =>
   clear H'
   try clear c4
   obtain ⟨x7_1, x19_1, rfl, HA, HK1, HO_7, HB⟩ := hrel
   cases gk with
   | zero => exact absurd HA.out (by simp [impl_BrokenRules.l0])
   | succ k1 =>
    have H := HA.out
    clear HA
    simp only [impl_BrokenRules.l0] at H
    by_cases c7 : x19_1 < (l1.length : Int)
    ·
     rw [if_pos c7] at H
     have c7b0 : decide (x19_1 < (l1.length : Int)) = true := decide_eq_true c7
     clear c7
     by_cases c8 : 0 ≤ x19_1
     ·
      rw [if_pos c8] at H
      have c8b0 : decide (0 ≤ x19_1) = true := decide_eq_true c8
      clear c8
      by_cases c9 : x19_1 < (l1.length : Int)
      ·
       rw [if_pos c9] at H
       have c9b0 : decide (x19_1 < (l1.length : Int)) = true := decide_eq_true c9
       clear c9
       replace H := Option.bind_eq_some_iff.mp H
       obtain ⟨t202, A100, H⟩ := H
       replace H : (if t202 = true then (if x7_1.length < 17592186044416 then (impl_BrokenRules.l0 k1 t199 (x7_1 ++ [x19_1]) l1 (l1.length : Int) (wrap64 (x19_1 + 1))) else (none)) else (impl_BrokenRules.l0 k1 t199 x7_1 l1 (l1.length : Int) (wrap64 (x19_1 + 1)))) = some (r1, r2) := H
       have A10 := Aside0.mk A100
       clear A100
       by_cases c11 : t202 = true
       ·
        subst c11
        have H1 : (if x7_1.length < 17592186044416 then (impl_BrokenRules.l0 k1 t199 (x7_1 ++ [x19_1]) l1 (l1.length : Int) (wrap64 (x19_1 + 1))) else (none)) = some (r1, r2) := by rw [if_pos rfl] at H; exact H
        clear H
        have H := H1
        clear H1
        by_cases c12 : x7_1.length < 17592186044416
        ·
         rw [if_pos c12] at H
         have LMc12 := Aside0.mk c12
         clear c12
         obtain ⟨y203, hy203⟩ : ∃ y_ : List Int, y_ = (x7_1 ++ [x19_1]) := ⟨_, rfl⟩
         replace H : (impl_BrokenRules.l0 k1 t199 y203 l1 (l1.length : Int) (wrap64 (x19_1 + 1))) = some (r1, r2) := by first | (rw [hy203]; with_reducible exact H) | (have H2_ := (Option.bind_some _ _).symm.trans H; rw [hy203]; with_reducible exact H2_) | (have H2_ := (Option.bind_some _ _).symm.trans H; with_reducible exact H2_) | with_reducible exact H | (rw [hy203]; exact H) | exact H
         have Ny203 := Aside0.mk hy203
         clear hy203
         have H' := Aside0.mk H
         clear H
         have p200 : 0 ≤ (x19_1 : Int) := od
         have q200 : x19_1 < (l1.length : Int) := od
         obtain ⟨ad200, e200, hx200_0, hx200_1, hx200_2⟩ := at_T51 HR1.out x19_1 p200 q200
         cases e200
         replace hx200_0 := (HB.out.cell (World.block_lt_of_cell? w _ hx200_0)).trans hx200_0
         replace hx200_1 := (HB.out.cell (World.block_lt_of_cell? w _ hx200_1)).trans hx200_1
         replace hx200_2 := (HB.out.cell (World.block_lt_of_cell? w _ hx200_2)).trans hx200_2
         replace p200 := eq_true p200
         replace q200 := eq_true q200
         go_wp2_with (first | ((with_reducible refine gate_dst (N := 9) rfl ?_); refine box_event ?hg (N := 9) ?hd (cs := #[.int .i64 0, .int .i64 0, .int .i64 0]) (t := 51) ?hr ?_; (case hd => rfl); (case hg => rfl); (case hr => first | (go_simp; done) | (go_simp; rfl)); intro gb201 hg w13 hbox hb; have n0_ := Aside0.mk (Kd.R_below (mv HO_7.out) hb); have n1_ := Aside0.mk (below_step (mvB HB.out) hb); have n2_ := Aside0.mk (hbox); have n3_ := Aside0.mk ((by rw [hg]; exact (below_size (mvB HB.out)) : w.heap.size ≤ gb201)); have n4_ := Aside0.mk ((by rw [hg]; exact (below_size (mvB HB.out)) : w.heap.size ≤ gb201)); clear HO_7 HB; revert n0_ n1_ n2_ n3_ n4_; intro HO_7 HB BK201 GW201 GE201; clear hb hbox hg; have hcz14_0 : w13.cell? ⟨gb201, 0, none⟩ = some (.int .i64 0) := (blk_cell BK201.out 0).trans rfl; have hcz14_1 : w13.cell? ⟨gb201, 1, none⟩ = some (.int .i64 0) := (blk_cell BK201.out 1).trans rfl; have hcz14_2 : w13.cell? ⟨gb201, 2, none⟩ = some (.int .i64 0) := (blk_cell BK201.out 2).trans rfl; have hfz14_0 := blk_frozen BK201.out 0; have hfz14_1 := blk_frozen BK201.out 1; have hfz14_2 := blk_frozen BK201.out 2) | ((with_reducible refine gate_callee (f := 35) rfl ?_); refine goesA_ (some 26) Tryd.func35 #[.int .i64 t199, .agg #[.int .i64 ((rd_T51 l1 x19_1).f0), .int .i64 ((rd_T51 l1 x19_1).f1), .int .i64 ((rd_T51 l1 x19_1).f2)]] ?_; (with_reducible refine (impl_switches_breaks.calls t199 ((rd_T51 l1 x19_1).f0) ((rd_T51 l1 x19_1).f1) ((rd_T51 l1 x19_1).f2) true _ A10.out).mono ?_); rintro e w15 ⟨rfl, hb⟩; refine ⟨_, rfl, ?_⟩; have n0_ := Aside0.mk (Kd.R_below (by (with_reducible repeat (first | apply Kd.R_alloc | apply Kd.R_drewN | apply Kd.R_drew)); exact (Kd.R_mono (Kd.R_far (p := ⟨gb201, 2, none⟩) (Kd.R_far (p := ⟨gb201, 1, none⟩) (Kd.R_far (p := ⟨gb201, 0, none⟩) (Kd.R_types HO_7.out BK201.out (by decide)) (fun _ hk => hk.2) (.int .i64 ((rd_T51 l1 x19_1).f0))) (fun _ hk => hk.2) (.int .i64 ((rd_T51 l1 x19_1).f1))) (fun _ hk => hk.2) (.int .i64 ((rd_T51 l1 x19_1).f2))) (fun _ h_ => h_.1))) hb); have n1_ := Aside0.mk (blk_below (g := gb201) (o := .cells #[.int .i64 ((rd_T51 l1 x19_1).f0), .int .i64 ((rd_T51 l1 x19_1).f1), .int .i64 ((rd_T51 l1 x19_1).f2)] 51 (0, 0)) (by (with_reducible repeat (first | refine blk_drewN ?_ _ | refine blk_drew ?_ | refine blk_alloc ?_ _)); refine blk_put (cs := #[.int .i64 ((rd_T51 l1 x19_1).f0), .int .i64 ((rd_T51 l1 x19_1).f1), .int .i64 0]) ?_ 2 _ rfl; (with_reducible repeat (first | refine blk_drewN ?_ _ | refine blk_drew ?_ | refine blk_alloc ?_ _)); refine blk_put (cs := #[.int .i64 ((rd_T51 l1 x19_1).f0), .int .i64 0, .int .i64 0]) ?_ 1 _ rfl; (with_reducible repeat (first | refine blk_drewN ?_ _ | refine blk_drew ?_ | refine blk_alloc ?_ _)); refine blk_put (cs := #[.int .i64 0, .int .i64 0, .int .i64 0]) ?_ 0 _ rfl; (with_reducible repeat (first | refine blk_drewN ?_ _ | refine blk_drew ?_ | refine blk_alloc ?_ _)); exact BK201.out) hb); have n2_ := Aside0.mk (below_step (by repeat (first | (with_reducible first | exact HB.out | apply below_alloc | apply pw_below_drewN | apply below_drew1 | refine below_set ?_ GE201.out) | exact HB.out)) hb); clear HO_7 BK201 HB; revert n0_ n1_ n2_; intro HO_7 BK201 HB; (try clear hb); (try clear hk)) | ((with_reducible refine gate_builtin (b := .append) (xs := #[.tmp 27, .tmp 29]) rfl ?_); at_builtin; refine Kd.R_append (Kd.int .i64) (w0 := w) w.heap.size rfl (.tmp 27) (.tmp 29) 28 2 (.int .i64 0) 8 rfl Tryd.underlying28 info2 rfl (by decide) (by omega) u7 x7_1 x19_1 [.int .i64 x19_1] (fun _ => True) (fun _ => False) rfl rfl ?aP (fun _ hk => hk.elim) ?aF ?aO ?aB ?aS ?aL ?_; (case aP => exact rfl); (case aB => exact (by repeat (first | (with_reducible first | exact HB.out | apply below_alloc | apply pw_below_drewN | apply below_drew1 | refine below_set ?_ GE201.out) | exact HB.out))); (case aF => exact (fun _ _ => trivial)); (case aO => exact (mv HO_7.out)); (case aS => exact (below_size (by repeat (first | (with_reducible first | exact HB.out | apply below_alloc | apply pw_below_drewN | apply below_drew1 | refine below_set ?_ GE201.out) | exact HB.out)))); (case aL => have := LMc12.out; omega); intro v204 w16 ho hb hg hat; rw [← Ny203.out] at ho; have n0_ := Aside0.mk (blk_grown (g := gb201) (o := .cells #[.int .i64 ((rd_T51 l1 x19_1).f0), .int .i64 ((rd_T51 l1 x19_1).f1), .int .i64 ((rd_T51 l1 x19_1).f2)] 51 (0, 0)) (mv BK201.out) hg (Kd.R_ne HO_7.out BK201.out (by decide))); have n1_ := Aside0.mk (hb); have n2_ := Aside0.mk (ho); clear BK201 HB HO_7; revert n0_ n1_ n2_; intro BK201 HB HO205; clear ho hb hg hat))
         go_roundg k1
         case measure => have := HK1.out; omega
         case rel => exact ⟨(y203), (wrap64 (x19_1 + 1)), rs, H', ⟨by have := HK1.out; omega⟩, ⟨mv HO205.out⟩, ⟨by repeat (first | (with_reducible first | exact HB.out | apply below_alloc | apply pw_below_drewN | apply below_drew1 | refine below_set ?_ GE201.out) | exact HB.out)⟩⟩
        ·
         rw [if_neg c12] at H
         exact absurd H (by simp)
       ·
        replace c11 := Bool.eq_false_iff.mpr c11
        subst c11
        have H1 : (impl_BrokenRules.l0 k1 t199 x7_1 l1 (l1.length : Int) (wrap64 (x19_1 + 1))) = some (r1, r2) := by rw [if_neg (show ¬ (false = true) by decide)] at H; exact H
        clear H
        have H := H1
        clear H1
        have H' := Aside0.mk H
        clear H
        have p200 : 0 ≤ (x19_1 : Int) := od
        have q200 : x19_1 < (l1.length : Int) := od
        obtain ⟨ad200, e200, hx200_0, hx200_1, hx200_2⟩ := at_T51 HR1.out x19_1 p200 q200
        cases e200
        replace hx200_0 := (HB.out.cell (World.block_lt_of_cell? w _ hx200_0)).trans hx200_0
        replace hx200_1 := (HB.out.cell (World.block_lt_of_cell? w _ hx200_1)).trans hx200_1
        replace hx200_2 := (HB.out.cell (World.block_lt_of_cell? w _ hx200_2)).trans hx200_2
        replace p200 := eq_true p200
        replace q200 := eq_true q200
        go_wp2_with (first | ((with_reducible refine gate_dst (N := 9) rfl ?_); refine box_event ?hg (N := 9) ?hd (cs := #[.int .i64 0, .int .i64 0, .int .i64 0]) (t := 51) ?hr ?_; (case hd => rfl); (case hg => rfl); (case hr => first | (go_simp; done) | (go_simp; rfl)); intro gb201 hg w17 hbox hb; have n0_ := Aside0.mk (Kd.R_below (mv HO_7.out) hb); have n1_ := Aside0.mk (below_step (mvB HB.out) hb); have n2_ := Aside0.mk (hbox); have n3_ := Aside0.mk ((by rw [hg]; exact (below_size (mvB HB.out)) : w.heap.size ≤ gb201)); have n4_ := Aside0.mk ((by rw [hg]; exact (below_size (mvB HB.out)) : w.heap.size ≤ gb201)); clear HO_7 HB; revert n0_ n1_ n2_ n3_ n4_; intro HO_7 HB BK201 GW201 GE201; clear hb hbox hg; have hcz18_0 : w17.cell? ⟨gb201, 0, none⟩ = some (.int .i64 0) := (blk_cell BK201.out 0).trans rfl; have hcz18_1 : w17.cell? ⟨gb201, 1, none⟩ = some (.int .i64 0) := (blk_cell BK201.out 1).trans rfl; have hcz18_2 : w17.cell? ⟨gb201, 2, none⟩ = some (.int .i64 0) := (blk_cell BK201.out 2).trans rfl; have hfz18_0 := blk_frozen BK201.out 0; have hfz18_1 := blk_frozen BK201.out 1; have hfz18_2 := blk_frozen BK201.out 2) | ((with_reducible refine gate_callee (f := 35) rfl ?_); refine goesA_ (some 26) Tryd.func35 #[.int .i64 t199, .agg #[.int .i64 ((rd_T51 l1 x19_1).f0), .int .i64 ((rd_T51 l1 x19_1).f1), .int .i64 ((rd_T51 l1 x19_1).f2)]] ?_; (with_reducible refine (impl_switches_breaks.calls t199 ((rd_T51 l1 x19_1).f0) ((rd_T51 l1 x19_1).f1) ((rd_T51 l1 x19_1).f2) false _ A10.out).mono ?_); rintro e w19 ⟨rfl, hb⟩; refine ⟨_, rfl, ?_⟩; have n0_ := Aside0.mk (Kd.R_below (by (with_reducible repeat (first | apply Kd.R_alloc | apply Kd.R_drewN | apply Kd.R_drew)); exact (Kd.R_mono (Kd.R_far (p := ⟨gb201, 2, none⟩) (Kd.R_far (p := ⟨gb201, 1, none⟩) (Kd.R_far (p := ⟨gb201, 0, none⟩) (Kd.R_types HO_7.out BK201.out (by decide)) (fun _ hk => hk.2) (.int .i64 ((rd_T51 l1 x19_1).f0))) (fun _ hk => hk.2) (.int .i64 ((rd_T51 l1 x19_1).f1))) (fun _ hk => hk.2) (.int .i64 ((rd_T51 l1 x19_1).f2))) (fun _ h_ => h_.1))) hb); have n1_ := Aside0.mk (blk_below (g := gb201) (o := .cells #[.int .i64 ((rd_T51 l1 x19_1).f0), .int .i64 ((rd_T51 l1 x19_1).f1), .int .i64 ((rd_T51 l1 x19_1).f2)] 51 (0, 0)) (by (with_reducible repeat (first | refine blk_drewN ?_ _ | refine blk_drew ?_ | refine blk_alloc ?_ _)); refine blk_put (cs := #[.int .i64 ((rd_T51 l1 x19_1).f0), .int .i64 ((rd_T51 l1 x19_1).f1), .int .i64 0]) ?_ 2 _ rfl; (with_reducible repeat (first | refine blk_drewN ?_ _ | refine blk_drew ?_ | refine blk_alloc ?_ _)); refine blk_put (cs := #[.int .i64 ((rd_T51 l1 x19_1).f0), .int .i64 0, .int .i64 0]) ?_ 1 _ rfl; (with_reducible repeat (first | refine blk_drewN ?_ _ | refine blk_drew ?_ | refine blk_alloc ?_ _)); refine blk_put (cs := #[.int .i64 0, .int .i64 0, .int .i64 0]) ?_ 0 _ rfl; (with_reducible repeat (first | refine blk_drewN ?_ _ | refine blk_drew ?_ | refine blk_alloc ?_ _)); exact BK201.out) hb); have n2_ := Aside0.mk (below_step (by repeat (first | (with_reducible first | exact HB.out | apply below_alloc | apply pw_below_drewN | apply below_drew1 | refine below_set ?_ GE201.out) | exact HB.out)) hb); clear HO_7 BK201 HB; revert n0_ n1_ n2_; intro HO_7 BK201 HB; (try clear hb); (try clear hk)))
        go_roundg k1
        case measure => have := HK1.out; omega
        case rel => exact ⟨(x7_1), (wrap64 (x19_1 + 1)), rs, H', ⟨by have := HK1.out; omega⟩, ⟨mv HO_7.out⟩, ⟨by repeat (first | (with_reducible first | exact HB.out | apply below_alloc | apply pw_below_drewN | apply below_drew1 | refine below_set ?_ GE201.out) | exact HB.out)⟩⟩
      ·
       rw [if_neg c9] at H
       exact absurd H (by simp)
     ·
      rw [if_neg c8] at H
      exact absurd H (by simp)
    ·
     rw [if_neg c7] at H
     have c7b0 : decide (x19_1 < (l1.length : Int)) = false := decide_eq_false c7
     clear c7
     simp only [Option.some.injEq, Prod.mk.injEq] at H
     obtain ⟨rfl, rfl⟩ := H
     go_wp2
     go_ret2
     exact ⟨_, by first | rfl | (simp [errW_none, errW_some] <;> rfl) | (simp [*, errW_none, errW_some] <;> rfl), mv HO_7.out, mvB HB.out⟩
 ·
  replace c4 := Bool.eq_false_iff.mpr c4
  subst c4
  have H1 : (some (([] : List Int), 1)) = some (r1, r2) := by rw [if_neg (show ¬ (false = true) by decide)] at H; exact H
  clear H
  have H := H1
  clear H1
  simp only [Option.some.injEq, Prod.mk.injEq] at H
  obtain ⟨rfl, rfl⟩ := H
  go_enter Tryd.func12, Tryd.ntmps12
  go_wp2_with (first | ((with_reducible refine gate_callee (f := 28) rfl ?_); refine goesA_ (some 13) Tryd.func28 #[.int .i64 (l0.length : Int), .slice A1 l1.length c1] ?_; (with_reducible refine (impl_ValidRules.calls k (l0.length : Int) _ _ l1 false _ ?side1 ?side2 A3.out).mono ?_); (case side1 => exact mvC HR1.out); (case side2 => exact HC1.out); rintro e w20 ⟨rfl, hb⟩; refine ⟨_, rfl, ?_⟩; have n0_ := Aside0.mk (below_step (mvB HB.out) hb); clear HB; revert n0_; intro HB; (try clear hb)))
  go_ret2
  exact ⟨_, by first | rfl | (simp [errW_none, errW_some] <;> rfl) | (simp [*, errW_none, errW_some] <;> rfl), by first | exact Kd.R_nil _ _ _ _ _ | exact Kd.N_nil _ _ _ _ _ | exact Kd.V_nil _ _ _ _ _ | exact Kd.Q_nil _ _ _ _ _ | exact Kd.S_nil _ _ _ _ _, mvB HB.out⟩

end Go.Proofs.YtffodlggihmonaaDoor.PFnSwitching
