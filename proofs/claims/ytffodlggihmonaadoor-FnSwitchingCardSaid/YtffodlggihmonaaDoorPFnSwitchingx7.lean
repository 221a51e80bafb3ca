-- written by a program of this session (mkp.py) out of the translation; Lean checks it. -- squeezed
import Derived.Test.YtffodlggihmonaaDoorKShelf
import Derived.Shelf.Abstract
import Derived.Test.YtffodlggihmonaaDoorPFnSwitchingx0
import Derived.Test.YtffodlggihmonaaDoorPFnSwitchingx2
import Derived.Test.YtffodlggihmonaaDoorPFnSwitchingx3
import Derived.Test.YtffodlggihmonaaDoorPFnSwitchingx6
namespace Go.Proofs.YtffodlggihmonaaDoor.PFnSwitching
open Go.RowKit Go.Proofs.YtffodlggihmonaaDoorW.PrintWords Go.Proofs.YtffodlggihmonaaDoorW.PrintLast Go.Proofs.YtffodlggihmonaaDoorW.PrintMore
attribute [local go_sem] bin_leq bin_gtr bin_geq max2_int min2_int max_two min_two max_three min_three max_four min_four   -- for this text's walks alone
set_option linter.unusedVariables false
set_option linter.unusedSimpArgs false

/-! ### impl_RunOrders: function 14 -/
def impl_RunOrders.l0 : Nat → List Bool → List (S51) → Int → List Int → Int → Int → Option (List Bool × Int × Int)
 | 0, _, _, _, _, _, _ => none
 | k + 1, x0, x2, x9, x25, x26, x27 => if x27 < x26 then (if 0 ≤ x27 then (if x27 < (x25.length : Int) then ((impl_abs.f (rd x25 x27)).bind fun t228 => (if (wrap64 (t228 - 1)) ≥ (x0.length : Int) then (some (([] : List Bool), x27, 6)) else ((impl_switches_order.f x9 (wrap64 (t228 - 1))).bind fun t229 => (if t229 = (rd x25 x27) then (if 0 ≤ (wrap64 (t228 - 1)) then ((impl_switches_allowed.f (Go.bits .xor .i64 x9 (shl .i64 1 (wrap64 (t228 - 1)))) x2).bind fun t230 => (if t230 = true then (impl_RunOrders.l0 k x0 x2 (Go.bits .xor .i64 x9 (shl .i64 1 (wrap64 (t228 - 1)))) x25 x26 (wrap64 (x27 + 1))) else (some (([] : List Bool), x27, 6)))) else (none)) else (some (([] : List Bool), x27, 6)))))) else (none)) else (none)) else ((impl_switches_states.f k x9 (x0.length : Int)).bind fun t224 => (some (t224, 0, 0)))
def impl_RunOrders.f (k : Nat) (l0 : List Bool) (l1 : List Int) (l2 : List (S51)) : Option (List Bool × Int × Int) := (impl_ValidRules.f k (l0.length : Int) l2).bind fun t221 => (if t221 = true then ((impl_ordersOk.f k l1).bind fun t222 => (if t222 = true then ((impl_switchSet.f k l0).bind fun t223 => (impl_RunOrders.l0 k l0 l2 t223 l1 (l1.length : Int) 0)) else (some (([] : List Bool), 0, 7)))) else (some (([] : List Bool), 0, 1)))
theorem impl_RunOrders.mono_l : ∀ k, (∀ y0 y1 y2 y3 y4 y5, LeO (impl_RunOrders.l0 k y0 y1 y2 y3 y4 y5) (impl_RunOrders.l0 (k + 1) y0 y1 y2 y3 y4 y5))
 | 0 => fun _ _ _ _ _ _ r h => by simp [impl_RunOrders.l0] at h
 | k + 1 => by
  have ih0 := impl_RunOrders.mono_l k
  ·
   intro y0 y1 y2 y3 y4 y5
   unfold impl_RunOrders.l0
   repeat' first
   | (with_reducible exact ih0 _ _ _ _ _ _)
   | (with_reducible exact impl_ValidRules.mono _ _ _)
   | (with_reducible exact impl_ordersOk.mono _ _)
   | (with_reducible exact impl_switchSet.mono _ _)
   | (with_reducible exact impl_switches_states.mono _ _ _)
   | (with_reducible exact LeO.refl _)
   | (with_reducible exact LeO.none _)
   | (with_reducible refine LeO.ite ?_ ?_)
   | (with_reducible refine LeO.bind ?_ (fun _ => ?_))
   | exact ih0 _ _ _ _ _ _
   | exact impl_ValidRules.mono _ _ _
   | exact impl_ordersOk.mono _ _
   | exact impl_switchSet.mono _ _
   | exact impl_switches_states.mono _ _ _
   | exact LeO.none _
   | refine LeO.ite ?_ ?_
   | refine LeO.bind ?_ (fun _ => ?_)
theorem impl_RunOrders.mono : ∀ a0 a1 a2 k, LeO (impl_RunOrders.f k a0 a1 a2) (impl_RunOrders.f (k + 1) a0 a1 a2) := by
 intro a0 a1 a2 k
 have ih0 := impl_RunOrders.mono_l k
 unfold impl_RunOrders.f
 repeat' first
  | (with_reducible exact ih0 _ _ _ _ _ _)
  | (with_reducible exact impl_ValidRules.mono _ _ _)
  | (with_reducible exact impl_ordersOk.mono _ _)
  | (with_reducible exact impl_switchSet.mono _ _)
  | (with_reducible exact impl_switches_states.mono _ _ _)
  | (with_reducible exact LeO.refl _)
  | (with_reducible exact LeO.none _)
  | (with_reducible refine LeO.ite ?_ ?_)
  | (with_reducible refine LeO.bind ?_ (fun _ => ?_))
  | exact ih0 _ _ _ _ _ _
  | exact impl_ValidRules.mono _ _ _
  | exact impl_ordersOk.mono _ _
  | exact impl_switchSet.mono _ _
  | exact impl_switches_states.mono _ _ _
  | exact LeO.none _
  | refine LeO.ite ?_ ?_
  | refine LeO.bind ?_ (fun _ => ?_)
set_option maxHeartbeats 8000000 in
set_option maxRecDepth 100000 in
theorem impl_RunOrders.calls (k : Nat) (A0 : Option Addr) (c0 : Nat) (l0 : List Bool) (A1 : Option Addr) (c1 : Nat) (l1 : List Int) (A2 : Option Addr) (c2 : Nat) (l2 : List (S51)) (r1 : List Bool) (r2 : Int) (r3 : Int) (w : World) (hr0 : Kd.C Kd.bool w A0 l0.length l0) (hc0 : l0.length ≤ c0) (hr1 : Kd.C (Kd.int .i64) w A1 l1.length l1) (hc1 : l1.length ≤ c1) (hr2 : Kd.C k51 w A2 l2.length l2) (hc2 : l2.length ≤ c2) (h : impl_RunOrders.f k l0 l1 l2 = some (r1, r2, r3)) :
  Calls Tryd.prog 14 #[.slice A0 l0.length c0, .slice A1 l1.length c1, .slice A2 l2.length c2] w fun e w' => ∃ v0_ : Value, e = .returned (.tuple #[v0_, .int .i64 r2, .int .i64 r3]) ∧ Kd.R Kd.bool 4 w' w.heap.size (fun _ => True) v0_ r1 ∧ Below w.heap.size w w' := by
 have HR0 := Aside0.mk hr0
 have HC0 := Aside0.mk hc0
 clear hr0 hc0
 have HR1 := Aside0.mk hr1
 have HC1 := Aside0.mk hc1
 clear hr1 hc1
 have HR2 := Aside0.mk hr2
 have HC2 := Aside0.mk hc2
 clear hr2 hc2
 have HB := Aside0.mk (Below.refl w.heap.size w)
 have H : ((impl_ValidRules.f k (l0.length : Int) l2).bind fun t221 => (if t221 = true then ((impl_ordersOk.f k l1).bind fun t222 => (if t222 = true then ((impl_switchSet.f k l0).bind fun t223 => (impl_RunOrders.l0 k l0 l2 t223 l1 (l1.length : Int) 0)) else (some (([] : List Bool), 0, 7)))) else (some (([] : List Bool), 0, 1)))) = some (r1, r2, r3) := h
 clear h
 replace H := Option.bind_eq_some_iff.mp H
 obtain ⟨t221, A40, H⟩ := H
 replace H : (if t221 = true then ((impl_ordersOk.f k l1).bind fun t222 => (if t222 = true then ((impl_switchSet.f k l0).bind fun t223 => (impl_RunOrders.l0 k l0 l2 t223 l1 (l1.length : Int) 0)) else (some (([] : List Bool), 0, 7)))) else (some (([] : List Bool), 0, 1))) = some (r1, r2, r3) := H
 have A4 := Aside0.mk A40
 clear A40
 by_cases c5 : t221 = true
 ·
  subst c5
  have H1 : ((impl_ordersOk.f k l1).bind fun t222 => (if t222 = true then ((impl_switchSet.f k l0).bind fun t223 => (impl_RunOrders.l0 k l0 l2 t223 l1 (l1.length : Int) 0)) else (some (([] : List Bool), 0, 7)))) = some (r1, r2, r3) := by rw [if_pos rfl] at H; exact H
  clear H
  have H := H1
  clear H1
  replace H := Option.bind_eq_some_iff.mp H
  obtain ⟨t222, A60, H⟩ := H
  replace H : (if t222 = true then ((impl_switchSet.f k l0).bind fun t223 => (impl_RunOrders.l0 k l0 l2 t223 l1 (l1.length : Int) 0)) else (some (([] : List Bool), 0, 7))) = some (r1, r2, r3) := H
  have A6 := Aside0.mk A60
  clear A60
  by_cases c7 : t222 = true
  ·
   subst c7
   have H1 : ((impl_switchSet.f k l0).bind fun t223 => (impl_RunOrders.l0 k l0 l2 t223 l1 (l1.length : Int) 0)) = some (r1, r2, r3) := by rw [if_pos rfl] at H; exact H
   clear H
   have H := H1
   clear H1
   replace H := Option.bind_eq_some_iff.mp H
   obtain ⟨t223, A80, H⟩ := H
   replace H : (impl_RunOrders.l0 k l0 l2 t223 l1 (l1.length : Int) 0) = some (r1, r2, r3) := H
   have A8 := Aside0.mk A80
   clear A80
   have H' := Aside0.mk H
   clear H
   go_enter Tryd.func14, Tryd.ntmps14
   go_wp2_with (first | ((with_reducible refine gate_callee (f := 28) rfl ?_); refine goesA_ (some 17) Tryd.func28 #[.int .i64 (l0.length : Int), .slice A2 l2.length c2] ?_; (with_reducible refine (impl_ValidRules.calls k (l0.length : Int) _ _ l2 true _ ?side1 ?side2 A4.out).mono ?_); (case side1 => exact mvC HR2.out); (case side2 => exact HC2.out); rintro e w9 ⟨rfl, hb⟩; refine ⟨_, rfl, ?_⟩; have n0_ := Aside0.mk (below_step (mvB HB.out) hb); clear HB; revert n0_; intro HB; (try clear hb)) | ((with_reducible refine gate_callee (f := 36) rfl ?_); refine goesA_ (some 21) Tryd.func36 #[.slice A1 l1.length c1] ?_; (with_reducible refine (impl_ordersOk.calls k _ _ l1 true _ ?side1 ?side2 A6.out).mono ?_); (case side1 => exact mvC (Kd.C_below HR1.out HB.out)); (case side2 => exact HC1.out); rintro e w10 ⟨rfl, hb⟩; refine ⟨_, rfl, ?_⟩; have n0_ := Aside0.mk (below_step (mvB HB.out) hb); clear HB; revert n0_; intro HB; (try clear hb)) | ((with_reducible refine gate_callee (f := 29) rfl ?_); refine goesA_ (some 24) Tryd.func29 #[.slice A0 l0.length c0] ?_; (with_reducible refine (impl_switchSet.calls k _ _ l0 t223 _ ?side1 ?side2 A8.out).mono ?_); (case side1 => exact mvC (Kd.C_below HR0.out HB.out)); (case side2 => exact HC0.out); rintro e w' ⟨rfl, ⟨nd, rfl⟩⟩; refine ⟨_, rfl, ?_⟩))
   go_loopg [9, 27] k (fun kq v9 v27 w' => ∃ (x9_1 : Int) (x27_1 : Int), v9 = .int .i64 x9_1 ∧ v27 = .int .i64 x27_1 ∧ Aside0 (impl_RunOrders.l0 kq l0 l2 x9_1 l1 (l1.length : Int) x27_1 = some (r1, r2, r3)) ∧ Aside0 (kq ≤ k) ∧ Aside0 (Below w.heap.size w w'))
   case atStart => exact ⟨(t223), (0), rs, rs, H', ⟨Nat.le_refl _⟩, ⟨mvB HB.out⟩⟩
   case round =>
    clear H'
    try clear c5
    try clear c7
    obtain ⟨x9_1, x27_1, rfl, rfl, HA, HK1, HB⟩ := hrel
    cases gk with
    | zero => exact absurd HA.out (by simp [impl_RunOrders.l0])
    | succ k1 =>
     have H := HA.out
     clear HA
     simp only [impl_RunOrders.l0] at H
     by_cases c11 : x27_1 < (l1.length : Int)
     ·
      rw [if_pos c11] at H
      have c11b0 : decide (x27_1 < (l1.length : Int)) = true := decide_eq_true c11
      clear c11
      by_cases c12 : 0 ≤ x27_1
      ·
       rw [if_pos c12] at H
       have c12b0 : decide (0 ≤ x27_1) = true := decide_eq_true c12
       clear c12
       by_cases c13 : x27_1 < (l1.length : Int)
       ·
        rw [if_pos c13] at H
        have c13b0 : decide (x27_1 < (l1.length : Int)) = true := decide_eq_true c13
        clear c13
        replace H := Option.bind_eq_some_iff.mp H
        obtain ⟨t228, A140, H⟩ := H
        replace H : (if (wrap64 (t228 - 1)) ≥ (l0.length : Int) then (some (([] : List Bool), x27_1, 6)) else ((impl_switches_order.f x9_1 (wrap64 (t228 - 1))).bind fun t229 => (if t229 = (rd l1 x27_1) then (if 0 ≤ (wrap64 (t228 - 1)) then ((impl_switches_allowed.f (Go.bits .xor .i64 x9_1 (shl .i64 1 (wrap64 (t228 - 1)))) l2).bind fun t230 => (if t230 = true then (impl_RunOrders.l0 k1 l0 l2 (Go.bits .xor .i64 x9_1 (shl .i64 1 (wrap64 (t228 - 1)))) l1 (l1.length : Int) (wrap64 (x27_1 + 1))) else (some (([] : List Bool), x27_1, 6)))) else (none)) else (some (([] : List Bool), x27_1, 6))))) = some (r1, r2, r3) := H
        have A14 := Aside0.mk A140
        clear A140
        by_cases c15 : (wrap64 (t228 - 1)) ≥ (l0.length : Int)
        ·
         rw [if_pos c15] at H
         have c15b0 : decide ((l0.length : Int) ≤ (wrap64 (t228 - 1))) = true := decide_eq_true c15
         clear c15
         simp only [Option.some.injEq, Prod.mk.injEq] at H
         obtain ⟨rfl, rfl, rfl⟩ := H
         have p227 : 0 ≤ (x27_1 : Int) := od
         have q227 : x27_1 < (l1.length : Int) := od
         obtain ⟨ad227, e227, hx227_0⟩ := Kd.at_int HR1.out x27_1 p227 q227
         cases e227
         replace hx227_0 := (HB.out.cell (World.block_lt_of_cell? w _ hx227_0)).trans hx227_0
         replace p227 := eq_true p227
         replace q227 := eq_true q227
         go_wp2_with (first | ((with_reducible refine gate_callee (f := 33) rfl ?_); refine goesA_ (some 33) Tryd.func33 #[.int .i64 (rd l1 x27_1)] ?_; (with_reducible refine (impl_abs.calls (rd l1 x27_1) t228 _ A14.out).mono ?_); rintro e w16 ⟨rfl, hb⟩; refine ⟨_, rfl, ?_⟩; have n0_ := Aside0.mk (below_step (mvB HB.out) hb); clear HB; revert n0_; intro HB; (try clear hb)))
         go_ret3
         exact ⟨_, by first | rfl | (simp [errW_none, errW_some] <;> rfl) | (simp [*, errW_none, errW_some] <;> rfl), by first | exact Kd.R_nil _ _ _ _ _ | exact Kd.N_nil _ _ _ _ _ | exact Kd.V_nil _ _ _ _ _ | exact Kd.Q_nil _ _ _ _ _ | exact Kd.S_nil _ _ _ _ _, mvB HB.out⟩
        ·
         rw [if_neg c15] at H
         have c15b0 : decide ((l0.length : Int) ≤ (wrap64 (t228 - 1))) = false := decide_eq_false c15
         clear c15
         replace H := Option.bind_eq_some_iff.mp H
         obtain ⟨t229, A170, H⟩ := H
         replace H : (if t229 = (rd l1 x27_1) then (if 0 ≤ (wrap64 (t228 - 1)) then ((impl_switches_allowed.f (Go.bits .xor .i64 x9_1 (shl .i64 1 (wrap64 (t228 - 1)))) l2).bind fun t230 => (if t230 = true then (impl_RunOrders.l0 k1 l0 l2 (Go.bits .xor .i64 x9_1 (shl .i64 1 (wrap64 (t228 - 1)))) l1 (l1.length : Int) (wrap64 (x27_1 + 1))) else (some (([] : List Bool), x27_1, 6)))) else (none)) else (some (([] : List Bool), x27_1, 6))) = some (r1, r2, r3) := H
         have A17 := Aside0.mk A170
         clear A170
         by_cases c18 : t229 = (rd l1 x27_1)
         ·
          rw [if_pos c18] at H
          have c18b0 : (t229 == (rd l1 x27_1)) = true := beq_iff_eq.mpr c18
          have c18b1 : (t229 != (rd l1 x27_1)) = false := bne_eq_false_iff_eq.mpr c18
          clear c18
          obtain ⟨ji19, hji19⟩ : ∃ j_ : Int, (wrap64 (t228 - 1)) = j_ := ⟨_, rfl⟩
          replace H : (if 0 ≤ (ji19) then ((impl_switches_allowed.f (Go.bits .xor .i64 x9_1 (shl .i64 1 (ji19))) l2).bind fun t230 => (if t230 = true then (impl_RunOrders.l0 k1 l0 l2 (Go.bits .xor .i64 x9_1 (shl .i64 1 (ji19))) l1 (l1.length : Int) (wrap64 (x27_1 + 1))) else (some (([] : List Bool), x27_1, 6)))) else (none)) = some (r1, r2, r3) := by first | (rw [hji19] at H; exact H) | (simp only [hji19] at H ⊢; exact H)
          (try rw [hji19] at c15b0)
          (try rw [hji19] at A14)
          (try rw [hji19] at A17)
          have hji19w : (IntKind.i64.wrap (t228 - 1)) = ji19 := (i64_w _).trans hji19
          by_cases c20 : 0 ≤ (ji19)
          ·
           rw [if_pos c20] at H
           have c20b0 := eq_true c20
           have c20b1 : decide (0 ≤ (ji19)) = true := decide_eq_true c20
           clear c20
           obtain ⟨ji21, hji21⟩ : ∃ j_ : Int, (shl .i64 1 (ji19)) = j_ := ⟨_, rfl⟩
           replace H : ((impl_switches_allowed.f (Go.bits .xor .i64 x9_1 (ji21)) l2).bind fun t230 => (if t230 = true then (impl_RunOrders.l0 k1 l0 l2 (Go.bits .xor .i64 x9_1 (ji21)) l1 (l1.length : Int) (wrap64 (x27_1 + 1))) else (some (([] : List Bool), x27_1, 6)))) = some (r1, r2, r3) := by first | (rw [hji21] at H; exact H) | (simp only [hji21] at H ⊢; exact H)
           (try rw [hji21] at A14)
           (try rw [hji21] at A17)
           have hji21_ : (IntKind.i64.wrap (1 * 2 ^ min (ji19).toNat 64)) = ji21 := hji21
           have hji21z : (ji19) ≤ 64 → (IntKind.i64.wrap (1 * 2 ^ (ji19).toNat)) = ji21 := shl_small hji21
           have hji21u : (IntKind.i64.wrap (2 ^ min (ji19).toNat 64)) = ji21 := by have h_ := hji21_; rw [Int.one_mul] at h_; exact h_
           have hji21v : (ji19) ≤ 64 → (IntKind.i64.wrap (2 ^ (ji19).toNat)) = ji21 := fun hle_ => by have h_ := hji21z hle_; rw [Int.one_mul] at h_; exact h_
           have hji21y : (wrap64 (1 * 2 ^ min (ji19).toNat 64)) = ji21 := (i64_w _).symm.trans hji21_
           have hji21x : (ji19) ≤ 64 → (wrap64 (1 * 2 ^ (ji19).toNat)) = ji21 := fun h_ => (i64_w _).symm.trans (hji21z h_)
           replace H := Option.bind_eq_some_iff.mp H
           obtain ⟨t230, A220, H⟩ := H
           replace H : (if t230 = true then (impl_RunOrders.l0 k1 l0 l2 (Go.bits .xor .i64 x9_1 (ji21)) l1 (l1.length : Int) (wrap64 (x27_1 + 1))) else (some (([] : List Bool), x27_1, 6))) = some (r1, r2, r3) := H
           have A22 := Aside0.mk A220
           clear A220
           by_cases c23 : t230 = true
           ·
            subst c23
            have H1 : (impl_RunOrders.l0 k1 l0 l2 (Go.bits .xor .i64 x9_1 (ji21)) l1 (l1.length : Int) (wrap64 (x27_1 + 1))) = some (r1, r2, r3) := by rw [if_pos rfl] at H; exact H
            clear H
            have H := H1
            clear H1
            have c24b0 := eq_true (od : 0 ≤ (ji19))
            have H' := Aside0.mk H
            clear H
            have p227 : 0 ≤ (x27_1 : Int) := od
            have q227 : x27_1 < (l1.length : Int) := od
            obtain ⟨ad227, e227, hx227_0⟩ := Kd.at_int HR1.out x27_1 p227 q227
            cases e227
            replace hx227_0 := (HB.out.cell (World.block_lt_of_cell? w _ hx227_0)).trans hx227_0
            replace p227 := eq_true p227
            replace q227 := eq_true q227
            go_wp2_with (first | ((with_reducible refine gate_callee (f := 33) rfl ?_); refine goesA_ (some 33) Tryd.func33 #[.int .i64 (rd l1 x27_1)] ?_; (with_reducible refine (impl_abs.calls (rd l1 x27_1) t228 _ A14.out).mono ?_); rintro e w26 ⟨rfl, hb⟩; refine ⟨_, rfl, ?_⟩; have n0_ := Aside0.mk (below_step (mvB HB.out) hb); clear HB; revert n0_; intro HB; (try clear hb)) | (go_at_call 32; (with_reducible refine (impl_switches_order.calls x9_1 ji19 t229 _ A17.out).mono ?_); rintro e w' ⟨rfl, ⟨nd, rfl⟩⟩) | (go_at_call 31; (with_reducible refine (impl_switches_allowed.calls (Go.bits .xor .i64 x9_1 (ji21)) _ _ l2 true _ ?side1 ?side2 A22.out).mono ?_); (case side1 => exact mvC (Kd.C_below HR2.out (mvB HB.out))); (case side2 => exact HC2.out); rintro e w27 ⟨rfl, hb⟩; have n0_ := Aside0.mk (below_step (mvB HB.out) hb); clear HB; revert n0_; intro HB; (try clear hb)))
            go_roundg k1
            case measure => have := HK1.out; omega
            case rel => exact ⟨(Go.bits .xor .i64 x9_1 (ji21)), (wrap64 (x27_1 + 1)), (by first | rfl | (simp; done) | (simp only [← hji21] <;> (first | rfl | simp)) | (simp [*]; done)), rs, H', ⟨by have := HK1.out; omega⟩, ⟨mvB HB.out⟩⟩
           ·
            replace c23 := Bool.eq_false_iff.mpr c23
            subst c23
            have H1 : (some (([] : List Bool), x27_1, 6)) = some (r1, r2, r3) := by rw [if_neg (show ¬ (false = true) by decide)] at H; exact H
            clear H
            have H := H1
            clear H1
            simp only [Option.some.injEq, Prod.mk.injEq] at H
            obtain ⟨rfl, rfl, rfl⟩ := H
            have p227 : 0 ≤ (x27_1 : Int) := od
            have q227 : x27_1 < (l1.length : Int) := od
            obtain ⟨ad227, e227, hx227_0⟩ := Kd.at_int HR1.out x27_1 p227 q227
            cases e227
            replace hx227_0 := (HB.out.cell (World.block_lt_of_cell? w _ hx227_0)).trans hx227_0
            replace p227 := eq_true p227
            replace q227 := eq_true q227
            go_wp2_with (first | ((with_reducible refine gate_callee (f := 33) rfl ?_); refine goesA_ (some 33) Tryd.func33 #[.int .i64 (rd l1 x27_1)] ?_; (with_reducible refine (impl_abs.calls (rd l1 x27_1) t228 _ A14.out).mono ?_); rintro e w28 ⟨rfl, hb⟩; refine ⟨_, rfl, ?_⟩; have n0_ := Aside0.mk (below_step (mvB HB.out) hb); clear HB; revert n0_; intro HB; (try clear hb)) | (go_at_call 32; (with_reducible refine (impl_switches_order.calls x9_1 ji19 t229 _ A17.out).mono ?_); rintro e w' ⟨rfl, ⟨nd, rfl⟩⟩) | (go_at_call 31; (with_reducible refine (impl_switches_allowed.calls (Go.bits .xor .i64 x9_1 (ji21)) _ _ l2 false _ ?side1 ?side2 A22.out).mono ?_); (case side1 => exact mvC (Kd.C_below HR2.out (mvB HB.out))); (case side2 => exact HC2.out); rintro e w29 ⟨rfl, hb⟩; have n0_ := Aside0.mk (below_step (mvB HB.out) hb); clear HB; revert n0_; intro HB; (try clear hb)))
            go_ret3
            exact ⟨_, by first | rfl | (simp [errW_none, errW_some] <;> rfl) | (simp only [← hji19, ← hji21]; first | rfl | (simp [errW_none, errW_some] <;> rfl)) | (simp [*, errW_none, errW_some] <;> rfl), by first | exact Kd.R_nil _ _ _ _ _ | exact Kd.N_nil _ _ _ _ _ | exact Kd.V_nil _ _ _ _ _ | exact Kd.Q_nil _ _ _ _ _ | exact Kd.S_nil _ _ _ _ _, mvB HB.out⟩
          ·
           rw [if_neg c20] at H
           exact absurd H (by simp)
         ·
          rw [if_neg c18] at H
          have c18b0 : (t229 == (rd l1 x27_1)) = false := beq_eq_false_iff_ne.mpr c18
          have c18b1 : (t229 != (rd l1 x27_1)) = true := bne_iff_ne.mpr c18
          simp only [Option.some.injEq, Prod.mk.injEq] at H
          obtain ⟨rfl, rfl, rfl⟩ := H
          have p227 : 0 ≤ (x27_1 : Int) := od
          have q227 : x27_1 < (l1.length : Int) := od
          obtain ⟨ad227, e227, hx227_0⟩ := Kd.at_int HR1.out x27_1 p227 q227
          cases e227
          replace hx227_0 := (HB.out.cell (World.block_lt_of_cell? w _ hx227_0)).trans hx227_0
          replace p227 := eq_true p227
          replace q227 := eq_true q227
          go_wp2_with (first | ((with_reducible refine gate_callee (f := 33) rfl ?_); refine goesA_ (some 33) Tryd.func33 #[.int .i64 (rd l1 x27_1)] ?_; (with_reducible refine (impl_abs.calls (rd l1 x27_1) t228 _ A14.out).mono ?_); rintro e w30 ⟨rfl, hb⟩; refine ⟨_, rfl, ?_⟩; have n0_ := Aside0.mk (below_step (mvB HB.out) hb); clear HB; revert n0_; intro HB; (try clear hb)) | (go_at_call 32; (try simp only [Go.IntWalk.i64_left]); (with_reducible refine (impl_switches_order.calls x9_1 (wrap64 (t228 - 1)) t229 _ A17.out).mono ?_); rintro e w' ⟨rfl, ⟨nd, rfl⟩⟩))
          go_ret3
          exact ⟨_, by first | rfl | (simp [errW_none, errW_some] <;> rfl) | (simp [*, errW_none, errW_some] <;> rfl), by first | exact Kd.R_nil _ _ _ _ _ | exact Kd.N_nil _ _ _ _ _ | exact Kd.V_nil _ _ _ _ _ | exact Kd.Q_nil _ _ _ _ _ | exact Kd.S_nil _ _ _ _ _, mvB HB.out⟩
       ·
        rw [if_neg c13] at H
        exact absurd H (by simp)
      ·
       rw [if_neg c12] at H
       exact absurd H (by simp)
     ·
      rw [if_neg c11] at H
      have c11b0 : decide (x27_1 < (l1.length : Int)) = false := decide_eq_false c11
      clear c11
      replace H := Option.bind_eq_some_iff.mp H
      obtain ⟨t224, A310, H⟩ := H
      replace H : (some (t224, 0, 0)) = some (r1, r2, r3) := H
      have A31 := Aside0.mk A310
      clear A310
      simp only [Option.some.injEq, Prod.mk.injEq] at H
      obtain ⟨rfl, rfl, rfl⟩ := H
      go_wp2_with (first | ((with_reducible refine gate_callee (f := 37) rfl ?_); refine goesA_ (some 64) Tryd.func37 #[.int .i64 x9_1, .int .i64 (l0.length : Int)] ?_; (with_reducible refine (impl_switches_states.calls k1 x9_1 (l0.length : Int) t224 _ A31.out).mono ?_); rintro e w32 ⟨v225, rfl, ho0, hb⟩; refine ⟨_, rfl, ?_⟩; have n0_ := Aside0.mk (Kd.R_lower ho0 (below_size (mvB HB.out))); have n1_ := Aside0.mk (below_step (mvB HB.out) hb); clear HB; revert n0_ n1_; intro HO226 HB; (try clear hb); (try clear ho0)))
      go_ret3
      exact ⟨_, by first | rfl | (simp [errW_none, errW_some] <;> rfl) | (simp [*, errW_none, errW_some] <;> rfl), mv HO226.out, mvB HB.out⟩
  ·
   replace c7 := Bool.eq_false_iff.mpr c7
   subst c7
   have H1 : (some (([] : List Bool), 0, 7)) = some (r1, r2, r3) := by rw [if_neg (show ¬ (false = true) by decide)] at H; exact H
   clear H
   have H := H1
   clear H1
   simp only [Option.some.injEq, Prod.mk.injEq] at H
   obtain ⟨rfl, rfl, rfl⟩ := H
   go_enter Tryd.func14, Tryd.ntmps14
   go_wp2_with (first | ((with_reducible refine gate_callee (f := 28) rfl ?_); refine goesA_ (some 17) Tryd.func28 #[.int .i64 (l0.length : Int), .slice A2 l2.length c2] ?_; (with_reducible refine (impl_ValidRules.calls k (l0.length : Int) _ _ l2 true _ ?side1 ?side2 A4.out).mono ?_); (case side1 => exact mvC HR2.out); (case side2 => exact HC2.out); rintro e w33 ⟨rfl, hb⟩; refine ⟨_, rfl, ?_⟩; have n0_ := Aside0.mk (below_step (mvB HB.out) hb); clear HB; revert n0_; intro HB; (try clear hb)) | ((with_reducible refine gate_callee (f := 36) rfl ?_); refine goesA_ (some 21) Tryd.func36 #[.slice A1 l1.length c1] ?_; (with_reducible refine (impl_ordersOk.calls k _ _ l1 false _ ?side1 ?side2 A6.out).mono ?_); (case side1 => exact mvC (Kd.C_below HR1.out HB.out)); (case side2 => exact HC1.out); rintro e w34 ⟨rfl, hb⟩; refine ⟨_, rfl, ?_⟩; have n0_ := Aside0.mk (below_step (mvB HB.out) hb); clear HB; revert n0_; intro HB; (try clear hb)))
   go_ret3
   exact ⟨_, by first | rfl | (simp [errW_none, errW_some] <;> rfl) | (simp [*, errW_none, errW_some] <;> rfl), by first | exact Kd.R_nil _ _ _ _ _ | exact Kd.N_nil _ _ _ _ _ | exact Kd.V_nil _ _ _ _ _ | exact Kd.Q_nil _ _ _ _ _ | exact Kd.S_nil _ _ _ _ _, mvB HB.out⟩
 ·
  replace c5 := Bool.eq_false_iff.mpr c5
  subst c5
  have H1 : (some (([] : List Bool), 0, 1)) = some (r1, r2, r3) := by rw [if_neg (show ¬ (false = true) by decide)] at H; exact H
  clear H
  have H := H1
  clear H1
  simp only [Option.some.injEq, Prod.mk.injEq] at H
  obtain ⟨rfl, rfl, rfl⟩ := H
  go_enter Tryd.func14, Tryd.ntmps14
  go_wp2_with (first | ((with_reducible refine gate_callee (f := 28) rfl ?_); refine goesA_ (some 17) Tryd.func28 #[.int .i64 (l0.length : Int), .slice A2 l2.length c2] ?_; (with_reducible refine (impl_ValidRules.calls k (l0.length : Int) _ _ l2 false _ ?side1 ?side2 A4.out).mono ?_); (case side1 => exact mvC HR2.out); (case side2 => exact HC2.out); rintro e w35 ⟨rfl, hb⟩; refine ⟨_, rfl, ?_⟩; have n0_ := Aside0.mk (below_step (mvB HB.out) hb); clear HB; revert n0_; intro HB; (try clear hb)))
  go_ret3
  exact ⟨_, by first | rfl | (simp [errW_none, errW_some] <;> rfl) | (simp [*, errW_none, errW_some] <;> rfl), by first | exact Kd.R_nil _ _ _ _ _ | exact Kd.N_nil _ _ _ _ _ | exact Kd.V_nil _ _ _ _ _ | exact Kd.Q_nil _ _ _ _ _ | exact Kd.S_nil _ _ _ _ _, mvB HB.out⟩

/-! ### strconv_FormatInt: function 72 -/
-- uses KShelf
def strconv_FormatInt.f (a0 a1 : Int) : Option ByteArray := if 0 ≤ a0 ∧ a0 < 100 ∧ a1 = 10 then some ⟨(Lib.decDigits a0.toNat).toArray⟩ else none
theorem strconv_FormatInt.calls (a0 : Int) (a1 : Int) (r : ByteArray) (w : World) (h : strconv_FormatInt.f a0 a1 = some r) :
  Calls Tryd.prog 72 #[.int .i64 a0, .int .i64 a1] w fun e w' => e = .returned (.string r) ∧ Drawn0 w w' := by
 unfold strconv_FormatInt.f at h
 by_cases c : 0 ≤ a0 ∧ a0 < 100 ∧ a1 = 10
 ·
  rw [if_pos c] at h
  obtain ⟨c1, c2, rfl⟩ := c
  obtain rfl := Option.some.inj h
  obtain ⟨n, rfl⟩ := Int.eq_ofNat_of_zero_le c1
  refine (Tryd.strconv_FormatInt_10_small n (by omega) w).mono ?_
  rintro e w' ⟨rfl, rfl⟩
  exact ⟨by rw [Int.toNat_natCast], Drawn0.refl _⟩
 ·
  rw [if_neg c] at h; cases h

/-! ### impl_Decimal: function 57 -/
def impl_Decimal.f (a0 : Int) : Option (ByteArray) := (strconv_FormatInt.f a0 10).bind fun t231 => (some t231)
set_option maxHeartbeats 8000000 in
set_option maxRecDepth 100000 in
theorem impl_Decimal.calls (a0 : Int) (r : ByteArray) (w : World) (h : impl_Decimal.f a0 = some r) :
  Calls Tryd.prog 57 #[.int .i64 a0] w fun e w' => e = .returned (.string r) ∧ Drawn0 w w' := by
 have H : ((strconv_FormatInt.f a0 10).bind fun t231 => (some t231)) = some r := h
 clear h
 replace H := Option.bind_eq_some_iff.mp H
 obtain ⟨t231, A20, H⟩ := H
 replace H : (some t231) = some r := H
 have A2 := Aside0.mk A20
 clear A20
 obtain rfl := Option.some.inj H
 go_enter Tryd.func57, Tryd.ntmps57
 go_wp2_with (first | ((with_reducible refine gate_callee (f := 72) rfl ?_); refine goesA_ (some 4) Tryd.func72 #[.int .i64 a0, .int .i64 10] ?_; (with_reducible refine (strconv_FormatInt.calls a0 10 t231 _ A2.out).mono ?_); rintro e w' ⟨rfl, ⟨nd, rfl⟩⟩; refine ⟨_, rfl, ?_⟩))
 go_ret
 exact ⟨rs, dr0⟩

/-! ### impl_orderText: function 41 -/
def impl_orderText.f (a0 : Int) : Option (ByteArray) := if a0 > 0 then ((impl_Decimal.f a0).bind fun t232 => (if 4 + t232.size ≤ 9223372036854775807 then (some ((⟨#[111, 112, 101, 110]⟩ : ByteArray) ++ t232)) else (none))) else ((impl_Decimal.f (wrap64 (-a0))).bind fun t233 => (if 4 + t233.size ≤ 9223372036854775807 then (some ((⟨#[115, 104, 117, 116]⟩ : ByteArray) ++ t233)) else (none)))
set_option maxHeartbeats 8000000 in
set_option maxRecDepth 100000 in
theorem impl_orderText.calls (a0 : Int) (r : ByteArray) (w : World) (h : impl_orderText.f a0 = some r) :
  Calls Tryd.prog 41 #[.int .i64 a0] w fun e w' => e = .returned (.string r) ∧ Drawn0 w w' := by
 have H : (if a0 > 0 then ((impl_Decimal.f a0).bind fun t232 => (if 4 + t232.size ≤ 9223372036854775807 then (some ((⟨#[111, 112, 101, 110]⟩ : ByteArray) ++ t232)) else (none))) else ((impl_Decimal.f (wrap64 (-a0))).bind fun t233 => (if 4 + t233.size ≤ 9223372036854775807 then (some ((⟨#[115, 104, 117, 116]⟩ : ByteArray) ++ t233)) else (none)))) = some r := h
 clear h
 by_cases c2 : a0 > 0
 ·
  rw [if_pos c2] at H
  have c2b0 : decide (0 < a0) = true := decide_eq_true c2
  clear c2
  replace H := Option.bind_eq_some_iff.mp H
  obtain ⟨t232, A30, H⟩ := H
  replace H : (if 4 + t232.size ≤ 9223372036854775807 then (some ((⟨#[111, 112, 101, 110]⟩ : ByteArray) ++ t232)) else (none)) = some r := H
  have A3 := Aside0.mk A30
  clear A30
  by_cases c4 : 4 + t232.size ≤ 9223372036854775807
  ·
   rw [if_pos c4] at H
   have c4b0 := eq_true c4
   have c4b1 : decide (4 + t232.size ≤ 9223372036854775807) = true := decide_eq_true c4
   try have c4b2 : (9223372036854775807 < 4 + t232.size) = False := eq_false (Nat.not_lt.2 c4)
   obtain rfl := Option.some.inj H
   go_enter Tryd.func41, Tryd.ntmps41
   go_wp2_with (first | ((with_reducible refine gate_callee (f := 57) rfl ?_); refine goesA_ (some 6) Tryd.func57 #[.int .i64 a0] ?_; (with_reducible refine (impl_Decimal.calls a0 t232 _ A3.out).mono ?_); rintro e w' ⟨rfl, ⟨nd, rfl⟩⟩; refine ⟨_, rfl, ?_⟩))
   go_ret
   exact ⟨rs, dr0⟩
  ·
   rw [if_neg c4] at H
   exact absurd H (by simp)
 ·
  rw [if_neg c2] at H
  have c2b0 : decide (0 < a0) = false := decide_eq_false c2
  clear c2
  replace H := Option.bind_eq_some_iff.mp H
  obtain ⟨t233, A50, H⟩ := H
  replace H : (if 4 + t233.size ≤ 9223372036854775807 then (some ((⟨#[115, 104, 117, 116]⟩ : ByteArray) ++ t233)) else (none)) = some r := H
  have A5 := Aside0.mk A50
  clear A50
  by_cases c6 : 4 + t233.size ≤ 9223372036854775807
  ·
   rw [if_pos c6] at H
   have c6b0 := eq_true c6
   have c6b1 : decide (4 + t233.size ≤ 9223372036854775807) = true := decide_eq_true c6
   try have c6b2 : (9223372036854775807 < 4 + t233.size) = False := eq_false (Nat.not_lt.2 c6)
   obtain rfl := Option.some.inj H
   go_enter Tryd.func41, Tryd.ntmps41
   go_wp2_with (first | ((with_reducible refine gate_callee (f := 57) rfl ?_); refine goesA_ (some 10) Tryd.func57 #[.int .i64 (wrap64 (-a0))] ?_; (with_reducible refine (impl_Decimal.calls (wrap64 (-a0)) t233 _ A5.out).mono ?_); rintro e w' ⟨rfl, ⟨nd, rfl⟩⟩; refine ⟨_, rfl, ?_⟩))
   go_ret
   exact ⟨rs, dr0⟩
  ·
   rw [if_neg c6] at H
   exact absurd H (by simp)

/-! ### strings_Join: function 42 -/
-- uses KShelf
def strings_Join.f (l0 : List ByteArray) (a1 : ByteArray) : Option ByteArray := if l0.length ≤ 4096 ∧ (Lib.join (l0.map (·.data.toList)) a1.data.toList).length ≤ 140737488355328 then some ⟨(Lib.join (l0.map (·.data.toList)) a1.data.toList).toArray⟩ else none
theorem spot_R {α : Type} {d : Kd α} {e base n c : Nat} {w : World} {ok : Nat → Prop} {A : Option Addr} {xs : List α} (h : d.R e w base ok (.slice A n c) xs) : 0 < xs.length → ∃ b o, A = some ⟨b, o, none⟩ := fun hp => by
 obtain ⟨g, cap, e, _⟩ := Kd.R_form h hp
 injection e with e
 exact ⟨g, 0, e⟩
theorem strings_Join.calls (A0 : Option Addr) (c0 : Nat) (l0 : List ByteArray) (a1 : ByteArray) (r : ByteArray) (w : World) (hr0 : Kd.C Kd.string w A0 l0.length l0) (hc0 : l0.length ≤ c0) (hs : 0 < l0.length → ∃ b o, A0 = some ⟨b, o, none⟩) (h : strings_Join.f l0 a1 = some r) :
  Calls Tryd.prog 42 #[.slice A0 l0.length c0, .string a1] w fun e w' => e = .returned (.string r) ∧ Below w.heap.size w w' := by
 unfold strings_Join.f at h
 by_cases c : l0.length ≤ 4096 ∧ (Lib.join (l0.map (·.data.toList)) a1.data.toList).length ≤ 140737488355328
 ·
  rw [if_pos c] at h
  obtain rfl := Option.some.inj h
  rcases Nat.eq_zero_or_pos l0.length with h0 | h0
  ·
   obtain rfl := List.length_eq_zero_iff.1 h0
   refine (Tryd.strings_Join_none A0 c0 a1 w).mono ?_
   rintro e w' ⟨rfl, rfl⟩
   exact ⟨rfl, Below.refl _ _⟩
  ·
   obtain ⟨b, o, rfl⟩ := hs h0
   have hcell : ∀ (j : Nat) (x : ByteArray), l0[j]? = some x → w.cell? ⟨b, o + j, none⟩ = some (.string x) := by
    intro j x hj
    obtain ⟨hlt, hx⟩ := List.getElem?_eq_some_iff.1 hj
    obtain ⟨ad, e, hc⟩ := Kd.at_string hr0 (j : Int) (by omega) (by omega)
    injection e with e
    subst e
    rw [Int.toNat_natCast] at hc
    rw [show (⟨b, o + j, none⟩ : Addr) = (⟨b, o, none⟩ : Addr).add j from by unfold Addr.add; split <;> simp_all, hc]
    unfold rdOf
    simp [List.getD_eq_getElem?_getD, hj]
   refine (Tryd.strings_Join b o c0 l0 a1 w hcell (World.block_lt_of_cell? w _ (hcell 0 l0[0] (by simp [h0]))) (by omega) hc0 c.2).mono ?_
   rintro e w' ⟨rfl, hb⟩
   exact ⟨rfl, hb⟩
 ·
  rw [if_neg c] at h; cases h

/-! ### impl_OrdersText: function 16 -/
def impl_OrdersText.l0 : Nat → List ByteArray → List Int → Int → Int → Option (ByteArray)
 | 0, _, _, _, _ => none
 | k + 1, x3, x14, x15, x16 => if x16 < x15 then (if 0 ≤ x16 then (if x16 < (x14.length : Int) then ((impl_orderText.f (rd x14 x16)).bind fun t236 => (if x3.length < 8796093022208 then (impl_OrdersText.l0 k (x3 ++ [t236]) x14 x15 (wrap64 (x16 + 1))) else (none))) else (none)) else (none)) else ((strings_Join.f x3 (⟨#[32]⟩ : ByteArray)).bind fun t240 => (some t240))
def impl_OrdersText.f (k : Nat) (l0 : List Int) : Option (ByteArray) := (impl_ordersOk.f k l0).bind fun t234 => (if t234 = true then (if (l0.length : Int) = 0 then (some (⟨#[45]⟩ : ByteArray)) else (impl_OrdersText.l0 k ([] : List ByteArray) l0 (l0.length : Int) 0)) else (some (⟨#[]⟩ : ByteArray)))
theorem impl_OrdersText.mono_l : ∀ k, (∀ y0 y1 y2 y3, LeO (impl_OrdersText.l0 k y0 y1 y2 y3) (impl_OrdersText.l0 (k + 1) y0 y1 y2 y3))
 | 0 => fun _ _ _ _ r h => by simp [impl_OrdersText.l0] at h
 | k + 1 => by
  have ih0 := impl_OrdersText.mono_l k
  ·
   intro y0 y1 y2 y3
   unfold impl_OrdersText.l0
   repeat' first
   | (with_reducible exact ih0 _ _ _ _)
   | (with_reducible exact impl_ordersOk.mono _ _)
   | (with_reducible exact LeO.refl _)
   | (with_reducible exact LeO.none _)
   | (with_reducible refine LeO.ite ?_ ?_)
   | (with_reducible refine LeO.bind ?_ (fun _ => ?_))
   | exact ih0 _ _ _ _
   | exact impl_ordersOk.mono _ _
   | exact LeO.none _
   | refine LeO.ite ?_ ?_
   | refine LeO.bind ?_ (fun _ => ?_)
theorem impl_OrdersText.mono : ∀ a0 k, LeO (impl_OrdersText.f k a0) (impl_OrdersText.f (k + 1) a0) := by
 intro a0 k
 have ih0 := impl_OrdersText.mono_l k
 unfold impl_OrdersText.f
 repeat' first
  | (with_reducible exact ih0 _ _ _ _)
  | (with_reducible exact impl_ordersOk.mono _ _)
  | (with_reducible exact LeO.refl _)
  | (with_reducible exact LeO.none _)
  | (with_reducible refine LeO.ite ?_ ?_)
  | (with_reducible refine LeO.bind ?_ (fun _ => ?_))
  | exact ih0 _ _ _ _
  | exact impl_ordersOk.mono _ _
  | exact LeO.none _
  | refine LeO.ite ?_ ?_
  | refine LeO.bind ?_ (fun _ => ?_)
set_option maxHeartbeats 8000000 in
set_option maxRecDepth 100000 in
theorem impl_OrdersText.calls (k : Nat) (A0 : Option Addr) (c0 : Nat) (l0 : List Int) (r : ByteArray) (w : World) (hr0 : Kd.C (Kd.int .i64) w A0 l0.length l0) (hc0 : l0.length ≤ c0) (h : impl_OrdersText.f k l0 = some r) :
  Calls Tryd.prog 16 #[.slice A0 l0.length c0] w fun e w' => e = .returned (.string r) ∧ Below w.heap.size w w' := by
 have HR0 := Aside0.mk hr0
 have HC0 := Aside0.mk hc0
 clear hr0 hc0
 have HB := Aside0.mk (Below.refl w.heap.size w)
 have H : ((impl_ordersOk.f k l0).bind fun t234 => (if t234 = true then (if (l0.length : Int) = 0 then (some (⟨#[45]⟩ : ByteArray)) else (impl_OrdersText.l0 k ([] : List ByteArray) l0 (l0.length : Int) 0)) else (some (⟨#[]⟩ : ByteArray)))) = some r := h
 clear h
 replace H := Option.bind_eq_some_iff.mp H
 obtain ⟨t234, A20, H⟩ := H
 replace H : (if t234 = true then (if (l0.length : Int) = 0 then (some (⟨#[45]⟩ : ByteArray)) else (impl_OrdersText.l0 k ([] : List ByteArray) l0 (l0.length : Int) 0)) else (some (⟨#[]⟩ : ByteArray))) = some r := H
 have A2 := Aside0.mk A20
 clear A20
 by_cases c3 : t234 = true
 ·
  subst c3
  have H1 : (if (l0.length : Int) = 0 then (some (⟨#[45]⟩ : ByteArray)) else (impl_OrdersText.l0 k ([] : List ByteArray) l0 (l0.length : Int) 0)) = some r := by rw [if_pos rfl] at H; exact H
  clear H
  have H := H1
  clear H1
  by_cases c4 : (l0.length : Int) = 0
  ·
   rw [if_pos c4] at H
   have c4b0 : ((l0.length : Int) == 0) = true := beq_iff_eq.mpr c4
   have c4b1 : ((l0.length : Int) != 0) = false := bne_eq_false_iff_eq.mpr c4
   clear c4
   obtain rfl := Option.some.inj H
   go_enter Tryd.func16, Tryd.ntmps16
   go_wp2_with (first | ((with_reducible refine gate_callee (f := 36) rfl ?_); refine goesA_ (some 8) Tryd.func36 #[.slice A0 l0.length c0] ?_; (with_reducible refine (impl_ordersOk.calls k _ _ l0 true _ ?side1 ?side2 A2.out).mono ?_); (case side1 => exact mvC HR0.out); (case side2 => exact HC0.out); rintro e w5 ⟨rfl, hb⟩; refine ⟨_, rfl, ?_⟩; have n0_ := Aside0.mk (below_step (mvB HB.out) hb); clear HB; revert n0_; intro HB; (try clear hb)))
   go_ret
   exact ⟨by first | rfl | (simp [errW_none, errW_some] <;> rfl) | (simp [*, errW_none, errW_some] <;> rfl), mvB HB.out⟩
  ·
   rw [if_neg c4] at H
   have c4b0 : ((l0.length : Int) == 0) = false := beq_eq_false_iff_ne.mpr c4
   have c4b1 : ((l0.length : Int) != 0) = true := bne_iff_ne.mpr c4
   have c4b2 : ¬ (l0 = []) := fun h_ => c4 (by rw [h_]; rfl)
   have H' := Aside0.mk H
   clear H
   go_enter Tryd.func16, Tryd.ntmps16
   go_wp2_with (first | ((with_reducible refine gate_callee (f := 36) rfl ?_); refine goesA_ (some 8) Tryd.func36 #[.slice A0 l0.length c0] ?_; (with_reducible refine (impl_ordersOk.calls k _ _ l0 true _ ?side1 ?side2 A2.out).mono ?_); (case side1 => exact mvC HR0.out); (case side2 => exact HC0.out); rintro e w6 ⟨rfl, hb⟩; refine ⟨_, rfl, ?_⟩; have n0_ := Aside0.mk (below_step (mvB HB.out) hb); clear HB; revert n0_; intro HB; (try clear hb)))
   go_loopg [3, 16] k (fun kq v3 v16 w' => ∃ (x3_1 : List ByteArray) (x16_1 : Int), v16 = .int .i64 x16_1 ∧ Aside0 (impl_OrdersText.l0 kq x3_1 l0 (l0.length : Int) x16_1 = some r) ∧ Aside0 (kq ≤ k) ∧ Aside0 (Kd.R Kd.string 9 w' w.heap.size (fun _ => True) v3 x3_1) ∧ Aside0 (Below w.heap.size w w'))
   case atStart => exact ⟨(([] : List ByteArray)), (0), rs, H', ⟨Nat.le_refl _⟩, ⟨by first | exact Kd.R_nil _ _ _ _ _ | exact Kd.N_nil _ _ _ _ _ | exact Kd.V_nil _ _ _ _ _ | exact Kd.Q_nil _ _ _ _ _ | exact Kd.S_nil _ _ _ _ _⟩, ⟨mvB HB.out⟩⟩
   case round =>
    clear H'
    try clear c3
    try clear c4b0
    try clear c4b1
    try clear c4b2
    obtain ⟨x3_1, x16_1, rfl, HA, HK1, HO_3, HB⟩ := hrel
    cases gk with
    | zero => exact absurd HA.out (by simp [impl_OrdersText.l0])
    | succ k1 =>
     have H := HA.out
     clear HA
     simp only [impl_OrdersText.l0] at H
     by_cases c7 : x16_1 < (l0.length : Int)
     ·
      rw [if_pos c7] at H
      have c7b0 : decide (x16_1 < (l0.length : Int)) = true := decide_eq_true c7
      clear c7
      by_cases c8 : 0 ≤ x16_1
      ·
       rw [if_pos c8] at H
       have c8b0 : decide (0 ≤ x16_1) = true := decide_eq_true c8
       clear c8
       by_cases c9 : x16_1 < (l0.length : Int)
       ·
        rw [if_pos c9] at H
        have c9b0 : decide (x16_1 < (l0.length : Int)) = true := decide_eq_true c9
        clear c9
        replace H := Option.bind_eq_some_iff.mp H
        obtain ⟨t236, A100, H⟩ := H
        replace H : (if x3_1.length < 8796093022208 then (impl_OrdersText.l0 k1 (x3_1 ++ [t236]) l0 (l0.length : Int) (wrap64 (x16_1 + 1))) else (none)) = some r := H
        have A10 := Aside0.mk A100
        clear A100
        by_cases c11 : x3_1.length < 8796093022208
        ·
         rw [if_pos c11] at H
         have LMc11 := Aside0.mk c11
         clear c11
         obtain ⟨y237, hy237⟩ : ∃ y_ : List ByteArray, y_ = (x3_1 ++ [t236]) := ⟨_, rfl⟩
         replace H : (impl_OrdersText.l0 k1 y237 l0 (l0.length : Int) (wrap64 (x16_1 + 1))) = some r := by first | (rw [hy237]; with_reducible exact H) | (have H2_ := (Option.bind_some _ _).symm.trans H; rw [hy237]; with_reducible exact H2_) | (have H2_ := (Option.bind_some _ _).symm.trans H; with_reducible exact H2_) | with_reducible exact H | (rw [hy237]; exact H) | exact H
         have Ny237 := Aside0.mk hy237
         clear hy237
         have H' := Aside0.mk H
         clear H
         have p235 : 0 ≤ (x16_1 : Int) := od
         have q235 : x16_1 < (l0.length : Int) := od
         obtain ⟨ad235, e235, hx235_0⟩ := Kd.at_int HR0.out x16_1 p235 q235
         cases e235
         replace hx235_0 := (HB.out.cell (World.block_lt_of_cell? w _ hx235_0)).trans hx235_0
         replace p235 := eq_true p235
         replace q235 := eq_true q235
         go_wp2_with (first | ((with_reducible refine gate_callee (f := 41) rfl ?_); refine goesA_ (some 22) Tryd.func41 #[.int .i64 (rd l0 x16_1)] ?_; (with_reducible refine (impl_orderText.calls (rd l0 x16_1) t236 _ A10.out).mono ?_); rintro e w' ⟨rfl, ⟨nd, rfl⟩⟩; refine ⟨_, rfl, ?_⟩) | ((with_reducible refine gate_builtin (b := .append) (xs := #[.tmp 20, .tmp 23]) rfl ?_); at_builtin; refine Kd.R_append Kd.string (w0 := w) w.heap.size rfl (.tmp 20) (.tmp 23) 62 9 (.string ⟨#[]⟩) 16 rfl Tryd.underlying62 info9 rfl (by decide) (by omega) u3 x3_1 t236 [.string t236] (fun _ => True) (fun _ => False) rfl rfl ?aP (fun _ hk => hk.elim) ?aF ?aO ?aB ?aS ?aL ?_; (case aP => exact rfl); (case aB => exact (mvB HB.out)); (case aF => exact (fun _ _ => trivial)); (case aO => exact (mv HO_3.out)); (case aS => exact (below_size (mvB HB.out))); (case aL => have := LMc11.out; omega); intro v238 w12 ho hb hg hat; rw [← Ny237.out] at ho; have n0_ := Aside0.mk (hb); have n1_ := Aside0.mk (ho); clear HB HO_3; revert n0_ n1_; intro HB HO239; clear ho hb hg hat))
         go_roundg k1
         case measure => have := HK1.out; omega
         case rel => exact ⟨(y237), (wrap64 (x16_1 + 1)), rs, H', ⟨by have := HK1.out; omega⟩, ⟨mv HO239.out⟩, ⟨mvB HB.out⟩⟩
        ·
         rw [if_neg c11] at H
         exact absurd H (by simp)
       ·
        rw [if_neg c9] at H
        exact absurd H (by simp)
      ·
       rw [if_neg c8] at H
       exact absurd H (by simp)
     ·
      rw [if_neg c7] at H
      have c7b0 : decide (x16_1 < (l0.length : Int)) = false := decide_eq_false c7
      clear c7
      replace H := Option.bind_eq_some_iff.mp H
      obtain ⟨t240, A130, H⟩ := H
      replace H : (some t240) = some r := H
      have A13 := Aside0.mk A130
      clear A130
      obtain rfl := Option.some.inj H
      obtain ⟨Ao14, co14, eo14⟩ := Kd.R_slice HO_3.out
      subst eo14
      go_wp2_with (first | ((with_reducible refine gate_callee (f := 42) rfl ?_); refine goesA_ (some 27) Tryd.func42 #[.slice Ao14 x3_1.length co14, .string (⟨#[32]⟩ : ByteArray)] ?_; (with_reducible refine (strings_Join.calls _ _ x3_1 (⟨#[32]⟩ : ByteArray) t240 _ ?side1 ?side2 (spot_R HO_3.out) A13.out).mono ?_); (case side1 => exact mvC (Kd.R_reads' HO_3.out).2.2); (case side2 => exact (Kd.R_reads' HO_3.out).2.1); rintro e w15 ⟨rfl, hb⟩; refine ⟨_, rfl, ?_⟩; have n0_ := Aside0.mk (Kd.R_below (mv HO_3.out) hb); have n1_ := Aside0.mk (below_step (mvB HB.out) hb); clear HO_3 HB; revert n0_ n1_; intro HO_3 HB; (try clear hb)))
      go_ret
      exact ⟨by first | rfl | (simp [errW_none, errW_some] <;> rfl) | (simp [*, errW_none, errW_some] <;> rfl), mvB HB.out⟩
 ·
  replace c3 := Bool.eq_false_iff.mpr c3
  subst c3
  have H1 : (some (⟨#[]⟩ : ByteArray)) = some r := by rw [if_neg (show ¬ (false = true) by decide)] at H; exact H
  clear H
  have H := H1
  clear H1
  obtain rfl := Option.some.inj H
  go_enter Tryd.func16, Tryd.ntmps16
  go_wp2_with (first | ((with_reducible refine gate_callee (f := 36) rfl ?_); refine goesA_ (some 8) Tryd.func36 #[.slice A0 l0.length c0] ?_; (with_reducible refine (impl_ordersOk.calls k _ _ l0 false _ ?side1 ?side2 A2.out).mono ?_); (case side1 => exact mvC HR0.out); (case side2 => exact HC0.out); rintro e w16 ⟨rfl, hb⟩; refine ⟨_, rfl, ?_⟩; have n0_ := Aside0.mk (below_step (mvB HB.out) hb); clear HB; revert n0_; intro HB; (try clear hb)))
  go_ret
  exact ⟨by first | rfl | (simp [errW_none, errW_some] <;> rfl) | (simp [*, errW_none, errW_some] <;> rfl), mvB HB.out⟩

/-! ### impl_ReadOrders: function 15 -/
-- uses KShelf
/-- The library's variable holds some whole number. -/
def LenW (w : World) : Prop := ∃ m, w.cell? ⟨0, 0, none⟩ = some (.int .i64 m)
theorem LenW.below {w w' : World} (h : LenW w) (hb : Below w.heap.size w w') : LenW w' := by
 obtain ⟨m, hm⟩ := h
 exact ⟨m, pw_cell_below hb hm⟩
/-- The least number from n on, of d numbers, that has a property. -/
def leastI (p : Int → Bool) : Nat → Int → Int × Bool
 | 0, _ => (0, false)
 | d + 1, n => if p n = true then (n, true) else leastI p d (n + 1)
set_option maxHeartbeats 4000000 in
set_option maxRecDepth 100000 in
theorem least_any.calls (g : Nat) (lb : Array Value) (p : Int → Bool) (lo hi : Int) (d : Nat) (w : World) (h1 : -1000000 ≤ lo) (h2 : hi ≤ 1000000) (h3 : hi + 1 = lo + (d : Int))
  (eg : ∀ args w, (callFunc g args).run Tryd.prog w = .ok (.enter g args) w)
  (hp : ∀ (W : World) (n : Int), lo ≤ n → n ≤ hi → Below w.heap.size w W → Calls Tryd.prog g (#[.int .i64 n] ++ lb) W fun e w' => e = .returned (.bool (p n)) ∧ Below w.heap.size w w') :
  Calls Tryd.prog 39 #[.int .i64 lo, .int .i64 hi, .func (.func g) #[] lb] w fun e w' => e = .returned (.tuple #[.int .i64 (leastI p d lo).1, .bool (leastI p d lo).2]) ∧ Below w.heap.size w w' := by
 have HP := Aside0.mk hp
 have H3 := Aside0.mk (And.intro h1 (And.intro h2 h3))
 clear hp h1 h2 h3
 go_enter Tryd.func39, Tryd.ntmps39
 go_wp2
 go_loopg [8] d (fun gg s8 wr => ∃ kk : Int, ∃ dd : Nat, s8 = .int .i64 kk ∧ Aside0 (dd ≤ gg ∧ lo ≤ kk ∧ hi + 1 = kk + (dd : Int)) ∧ Aside0 (leastI p d lo = leastI p dd kk) ∧ Aside0 (Below w.heap.size w wr))
 case atStart => exact ⟨lo, d, rfl, ⟨⟨Nat.le_refl _, Int.le_refl _, H3.out.2.2⟩⟩, ⟨rfl⟩, ⟨Below.refl _ w⟩⟩
 case round =>
  obtain ⟨kk, dd, rfl, hg, hq, hb⟩ := hrel
  cases dd with
  | succ dd =>
   have hltz : decide (kk ≤ hi) = true := decide_eq_true (by have := hg.out.2.2; omega)
   have hle : kk ≤ hi := of_decide_eq_true hltz
   have hkb : kk ≤ 1000000 := by have := H3.out.2.1; omega
   have hkc : -1000000 ≤ kk := by have := H3.out.1; have := hg.out.2.1; omega
   have hcall := HP.out wr kk hg.out.2.1 hle hb.out
   have hq2 := hq.out
   simp only [leastI] at hq2
   clear hle
   cases hc : p kk with
   | true =>
    rw [hc] at hcall hq2
    have hq3 := Aside0.mk hq2
    clear hq2
    go_wp2_with (go_at_fn g; refine hcall.mono ?_; rintro e w' ⟨rfl, hb'⟩)
    go_ret2
    refine ⟨?_, hb'⟩
    have := hq3.out
    simp only [if_true] at this
    rw [this]
    rfl
   | false =>
    rw [hc] at hcall hq2
    have hq3 := Aside0.mk hq2
    clear hq2
    go_wp2_with (go_at_fn g; refine hcall.mono ?_; rintro e w' ⟨rfl, hb'⟩)
    go_roundg dd
    case measure => have := hg.out; omega
    case rel => exact ⟨kk + 1, dd, rfl, ⟨⟨Nat.le_refl _, by have := hg.out; omega, by have := hg.out; omega⟩⟩, ⟨by have := hq3.out; simp only [Bool.false_eq_true, if_false] at this; exact this⟩, ⟨hb'⟩⟩
  | zero =>
   have hltz : decide (kk ≤ hi) = false := decide_eq_false (by have := hg.out.2.2; omega)
   go_wp2
   go_ret2
   refine ⟨?_, hb.out⟩
   rw [hq.out]
   rfl

/-- Is a text that of an order? -/
def wordP (t : ByteArray) (n : Int) : Bool := !decide (n = 0) && (match impl_orderText.f n with | some o => decide (o.toList = t.toList) | none => false)
def readO : List ByteArray → List Int → Option (List Int)
 | [], os => some os
 | t :: ws, os => if (leastI (wordP t) 17 (-8)).2 = true then readO ws (os ++ [(leastI (wordP t) 17 (-8)).1]) else none
def wordsB (s : ByteArray) : List ByteArray := Lib.splitB ⟨#[32]⟩ 0 (min 25 (s.size + 1) - 1) s
theorem wordsB_len (s : ByteArray) : (wordsB s).length ≤ 25 := by
 have := Lib.splitB_length_le ⟨#[32]⟩ 0 (min 25 (s.size + 1) - 1) s
 unfold wordsB
 omega
def impl_ReadOrders.f (k : Nat) (a0 : ByteArray) : Option (List Int × Bool) := if a0.size ≤ 1048576 then (if a0.toList = [45] then some ([], true) else match readO (wordsB a0) [] with | none => some ([], false) | some os => (impl_OrdersText.f k os).bind fun t => if t.toList = a0.toList then some (os, true) else some ([], false)) else none
theorem impl_ReadOrders.mono : ∀ a0 k, LeO (impl_ReadOrders.f k a0) (impl_ReadOrders.f (k + 1) a0) := fun a0 k => by
 unfold impl_ReadOrders.f
 refine LeO.ite (LeO.ite (LeO.refl _) ?_) (LeO.refl _)
 cases readO (wordsB a0) [] with
 | none => exact LeO.refl _
 | some os => exact LeO.bind (impl_OrdersText.mono _ k) (fun _ => LeO.refl _)
theorem orderText_some (n : Int) (h1 : -8 ≤ n) (h2 : n ≤ 8) : ∃ t, impl_orderText.f n = some t := by
 have key : ∀ m : Nat, m ≤ 8 → ∃ t, impl_Decimal.f (m : Int) = some t ∧ t.size ≤ 1 := fun m hm => by
  unfold impl_Decimal.f strconv_FormatInt.f
  rw [if_pos ⟨by omega, by omega, rfl⟩, Option.bind_some]
  refine ⟨_, rfl, ?_⟩
  rw [Int.toNat_natCast, Lib.decDigits_one (by omega)]
  exact Nat.le_refl _
 unfold impl_orderText.f
 by_cases c : n > 0
 ·
  rw [if_pos c]
  obtain ⟨m, rfl⟩ := Int.eq_ofNat_of_zero_le (show 0 ≤ n by omega)
  obtain ⟨t, e, hs⟩ := key m (by omega)
  rw [e, Option.bind_some, if_pos (by omega)]
  exact ⟨_, rfl⟩
 ·
  rw [if_neg c]
  obtain ⟨m, hm⟩ := Int.eq_ofNat_of_zero_le (show 0 ≤ -n by omega)
  obtain ⟨t, e, hs⟩ := key m (by omega)
  rw [show wrap64 (-n) = (m : Int) by (unfold wrap64; omega), e, Option.bind_some, if_pos (by omega)]
  exact ⟨_, rfl⟩
/-- The words of a text, made here. -/
theorem splitW.calls (s : ByteArray) (w : World) (hT : LenW w) (hs : s.size ≤ 1048576) :
  Calls Tryd.prog 38 #[.string s, .string ⟨#[32]⟩, .int .i64 25] w fun e w' => ∃ g c, e = .returned (.slice (some ⟨g, 0, none⟩) (wordsB s).length c) ∧ (wordsB s).length ≤ c ∧ Kd.C Kd.string w' (some ⟨g, 0, none⟩) (wordsB s).length (wordsB s) ∧ Below w.heap.size w w' := by
 obtain ⟨m, hm⟩ := hT
 refine (Tryd.strings_SplitN s ⟨#[32]⟩ 25 m w (by omega) hm (Nat.le_refl _) (by omega) (by omega)).mono ?_
 rintro e w' ⟨rfl, rfl⟩
 have hl := Lib.splitB_length_le ⟨#[32]⟩ 0 (min 25 (s.size + 1) - 1) s
 have hl2 : (wordsB s).length ≤ min 25 (s.size + 1) := by unfold wordsB; omega
 refine ⟨w.heap.size, _, rfl, hl2, ?_, below_alloc (Below.refl _ _) _⟩
 have hown : (w.alloc (.cells (Lib.cellsOf (wordsB s) (min 25 (s.size + 1))) 9)).ownsRow w.heap.size 9 1 (.slice (some ⟨w.heap.size, 0, none⟩) (wordsB s).length (min 25 (s.size + 1))) (wordsB s).length (encs Value.string (wordsB s)) := by
  refine ⟨by simp [encs], Or.inr ⟨w.heap.size, _, _, rfl, Nat.le_refl _, blk_new w _, hl2, by unfold maxLen; omega, by rw [Lib.cellsOf_size hl2, Nat.mul_one], ?_⟩⟩
  unfold Lib.cellsOf encs
  simp
 exact (Kd.R_reads' (Kd.R_of_own (enc := Value.string) (h1 := fun _ => rfl) (ok := fun _ => True) hown (fun _ _ => trivial))).2.2
-- @cut
set_option maxHeartbeats 4000000 in
theorem readOrders_1.calls (n : Int) (t : ByteArray) (b : Nat) (w : World) (h1 : -8 ≤ n) (h2 : n ≤ 8) (hc : w.cell? ⟨b, 0, none⟩ = some (.string t)) :
  Calls Tryd.prog 40 #[.int .i64 n, .pointer (some ⟨b, 0, none⟩)] w fun e w' => e = .returned (.bool (wordP t n)) ∧ Below w.heap.size w w' := by
 obtain ⟨o, ho⟩ := orderText_some n h1 h2
 have hw : wordP t n = (!decide (n = 0) && decide (o.toList = t.toList)) := by unfold wordP; rw [ho]
 have HO := Aside0.mk ho
 rw [hw]
 clear hw ho
 by_cases c : n = 0
 ·
  subst c
  go_enter Tryd.func40, Tryd.ntmps40
  go_wp2
  repeat (go_quiet (fail); try go_wp2)
  go_ret
  exact ⟨by first | rfl | (simp; done), (by repeat (first | exact Below.refl _ _ | apply pw_below_drewN))⟩
 ·
  have c2 : decide (n = 0) = false := decide_eq_false c
  have c3 : (n == 0) = false := by simpa using c
  have c4 : (n != 0) = true := by simpa using c
  go_enter Tryd.func40, Tryd.ntmps40
  go_wp2
  go_quiet ((go_at_call 41; (with_reducible refine (impl_orderText.calls n o _ HO.out).mono ?_); rintro e w' ⟨rfl, ⟨nd, rfl⟩⟩; go_loud (first | (with_reducible exact ⟨rfl, _, World.drewN_drewN _ _ _⟩) | exact ⟨rfl, _, rfl⟩ | exact ⟨rfl, _, Eq.trans (World.drewN_drewN _ _ _) (congrArg (World.drewN _) (Nat.add_assoc _ _ _))⟩)))
  go_wp2
  go_ret
  refine ⟨?_, by repeat (first | exact Below.refl _ _ | apply pw_below_drewN)⟩
  rw [show (!decide (n = 0) && decide (o.toList = t.toList)) = (o.toList == t.toList) from by rw [c2, Bool.eq_iff_iff]; simp]
  rfl
theorem readLeast.calls (t : ByteArray) (b : Nat) (w : World) (hc : w.cell? ⟨b, 0, none⟩ = some (.string t)) :
  Calls Tryd.prog 39 #[.int .i64 (-8), .int .i64 8, .func (.func 40) #[] #[.pointer (some ⟨b, 0, none⟩)]] w fun e w' => e = .returned (.tuple #[.int .i64 (leastI (wordP t) 17 (-8)).1, .bool (leastI (wordP t) 17 (-8)).2]) ∧ Below w.heap.size w w' :=
 least_any.calls 40 _ (wordP t) (-8) 8 17 w (by omega) (by omega) (by omega) (enters_ Tryd.func40 (by kernel_rfl) rfl) (fun W n h1 h2 hb =>
  (readOrders_1.calls n t b W h1 h2 (pw_cell_below hb hc)).mono fun e w' ⟨he, hb'⟩ => ⟨he, below_then hb hb.size hb'⟩)
-- @cut
theorem readO_take (ws : List ByteArray) (i : Nat) (h : i < ws.length) (os : List Int) : readO (ws.drop i) os = if (leastI (wordP ws[i]) 17 (-8)).2 = true then readO (ws.drop (i + 1)) (os ++ [(leastI (wordP ws[i]) 17 (-8)).1]) else none := by
 rw [List.drop_eq_getElem_cons h]; rfl
set_option maxHeartbeats 8000000 in
set_option maxRecDepth 100000 in
theorem impl_ReadOrders.calls (k : Nat) (a0 : ByteArray) (r1 : List Int) (r2 : Bool) (w : World) (hT : LenW w) (h : impl_ReadOrders.f k a0 = some (r1, r2)) :
  Calls Tryd.prog 15 #[.string a0] w fun e w' => ∃ v0_ : Value, e = .returned (.tuple #[v0_, .bool r2]) ∧ Kd.R (Kd.int .i64) 2 w' w.heap.size (fun _ => True) v0_ r1 ∧ Below w.heap.size w w' := by
 unfold impl_ReadOrders.f at h
 by_cases hs : a0.size ≤ 1048576
 ·
  rw [if_pos hs] at h
  by_cases cd : a0.toList = [45]
  ·
   rw [if_pos cd] at h
   have h := Option.some.inj h
   simp only [Prod.mk.injEq] at h
   obtain ⟨rfl, rfl⟩ := h
   have cd2 : (a0.toList == [45]) = true := by simpa using cd
   clear hs
   go_enter Tryd.func15, Tryd.ntmps15
   go_wp2
   go_ret2
   exact ⟨_, rfl, Kd.R_nil _ _ _ _ _, by repeat (first | exact Below.refl _ _ | apply pw_below_drewN)⟩
  ·
   rw [if_neg cd] at h
   have cd2 : (a0.toList == [45]) = false := by simpa using cd
   have HS := Aside0.mk hs
   have H := Aside0.mk h
   have HT := Aside0.mk hT
   clear cd hs h hT
   go_enter Tryd.func15, Tryd.ntmps15
   go_wp2_with (go_at_call 38; (with_reducible refine (splitW.calls a0 _ (LenW.below HT.out (by repeat (first | exact Below.refl _ _ | apply pw_below_drewN))) HS.out).mono ?_); rintro e w1 ⟨g, c, rfl, hc1, hC, hb1⟩; have HC := Aside0.mk hC; have HB1 := Aside0.mk hb1; clear hC hb1 hc1)
   have HWL := Aside0.mk (wordsB_len a0)
   generalize wordsB a0 = ws at H HC HWL ⊢
   go_loopg [4, 14] ws.length (fun gg v4 v14 wr => ∃ (kk : Nat) (os : List Int), v14 = .int .i64 kk ∧ Aside0 (kk ≤ ws.length ∧ os.length ≤ kk) ∧ Aside0 (ws.length - kk ≤ gg) ∧ Aside0 (readO ws [] = readO (ws.drop kk) os) ∧ Aside0 (Kd.R (Kd.int .i64) 2 wr w1.heap.size (fun _ => True) v4 os) ∧ Aside0 (Below w1.heap.size w1 wr))
   case atStart => exact ⟨0, [], rfl, ⟨⟨Nat.zero_le _, Nat.le_refl _⟩⟩, ⟨by omega⟩, ⟨by rw [List.drop_zero]⟩, ⟨Kd.R_nil _ _ _ _ _⟩, ⟨Below.refl _ _⟩⟩
   case round =>
    obtain ⟨kk, os, rfl, hkk, hgg, hq, HO, HB⟩ := hrel
    by_cases hlt : kk < ws.length
    ·
     have hltz : decide ((kk : Int) < (ws.length : Int)) = true := decide_eq_true (by omega)
     have hkb : kk ≤ 25 := by have := HWL.out; omega
     obtain ⟨ad, e, hx⟩ := Kd.at_string (Kd.C_below HC.out HB.out) (kk : Int) (by omega) (by omega)
     cases e
     have hxx : rdOf ByteArray.empty ws (kk : Int) = ws[kk] := by unfold rdOf; simp [List.getD_eq_getElem?_getD, hlt]
     rw [hxx, Int.toNat_natCast] at hx
     (try simp only [add_plain] at hx)
     have hq2 := hq.out
     rw [readO_take ws kk hlt] at hq2
     have p0 : ((0 : Int) ≤ (kk : Int)) = True := eq_true (by omega)
     have p1 : ((kk : Int) < (ws.length : Int)) = True := eq_true (by omega)
     have hcall := fun (W : World) (b : Nat) (hc : W.cell? ⟨b, 0, none⟩ = some (.string ws[kk])) => readLeast.calls ws[kk] b W hc
     clear hxx
     generalize ws[kk] = x at hx hq2 hcall
     generalize hlx : leastI (wordP x) 17 (-8) = res at hq2 hcall
     obtain ⟨y, ok⟩ := res
     have HCALL := Aside0.mk hcall
     clear hcall hlx
     have HQ2 := Aside0.mk hq2
     clear hq2
     cases ok with
     | true =>
      go_wp2_with (first | (go_at_call 39; (with_reducible refine (HCALL.out _ wr.heap.size (by exact (blk_cell (blk_new _ _) 0).trans rfl)).mono ?_); rintro e w2 ⟨rfl, hb2⟩; have n0_ := Aside0.mk (Kd.R_below (Kd.R_alloc HO.out _) hb2); have n1_ := Aside0.mk (below_step (below_alloc HB.out _) hb2); clear HO HB hb2; revert n0_ n1_; intro HO HB) | ((with_reducible refine gate_builtin (b := .append) (xs := #[.tmp 25, .tmp 27]) rfl ?_); at_builtin; go_loud (refine Kd.R_append (Kd.int .i64) (w0 := w1) w1.heap.size rfl (.tmp 25) (.tmp 27) 28 2 (.int .i64 0) 8 rfl Tryd.underlying28 info2 rfl (by decide) (by omega) u4 os y [.int .i64 y] (fun _ => True) (fun _ => False) rfl rfl ?aP (fun _ hk => hk.elim) ?aF ?aO ?aB ?aS ?aL ?_); (case aP => exact rfl); (case aB => exact HB.out); (case aF => exact (fun _ _ => trivial)); (case aO => exact (mv HO.out)); (case aS => exact (below_size HB.out)); (case aL => have := hkk.out; omega); intro v3 w3 ho hb hg hat; clear HO HB; have HO := Aside0.mk ho; have HB := Aside0.mk hb; clear ho hb hg hat))
      go_roundg (ws.length - (kk + 1))
      case measure => have := hgg.out; omega
      case rel => exact ⟨kk + 1, os ++ [y], rfl, ⟨⟨by omega, by have := hkk.out; simp; omega⟩⟩, ⟨Nat.le_refl _⟩, ⟨by rw [HQ2.out]; rfl⟩, HO, HB⟩
     | false =>
      have H2 := H.out
      rw [HQ2.out] at H2
      have H2 := Option.some.inj H2
      simp only [Prod.mk.injEq] at H2
      obtain ⟨rfl, rfl⟩ := H2
      clear H
      go_wp2_with (first | (go_at_call 39; (with_reducible refine (HCALL.out _ wr.heap.size (by exact (blk_cell (blk_new _ _) 0).trans rfl)).mono ?_); rintro e w2 ⟨rfl, hb2⟩; have n1_ := Aside0.mk (below_step (below_alloc HB.out _) hb2); clear HB hb2; revert n1_; intro HB))
      go_ret2
      exact ⟨_, rfl, Kd.R_nil _ _ _ _ _, below_then HB1.out HB1.out.size HB.out⟩
    ·
     have hltz : decide ((kk : Int) < (ws.length : Int)) = false := decide_eq_false (by omega)
     have H2 := H.out
     rw [hq.out, List.drop_eq_nil_of_le (by omega)] at H2
     obtain ⟨t, ht, H2⟩ := Option.bind_eq_some_iff.1 (show (impl_OrdersText.f k os).bind _ = some (r1, r2) from H2)
     have HTX := Aside0.mk ht
     obtain ⟨Ao, co, eo⟩ := Kd.R_slice HO.out
     subst eo
     clear H ht
     by_cases ce : t.toList = a0.toList
     ·
      rw [if_pos ce] at H2
      have H2 := Option.some.inj H2
      simp only [Prod.mk.injEq] at H2
      obtain ⟨rfl, rfl⟩ := H2
      have ce2 : (t.toList == a0.toList) = true := by simpa using ce
      have ce3 : (t.toList != a0.toList) = false := by simpa using ce
      clear ce
      go_wp2_with (go_at_call 16; (with_reducible refine (impl_OrdersText.calls k _ _ os t _ (Kd.R_reads' HO.out).2.2 (Kd.R_reads' HO.out).2.1 HTX.out).mono ?_); rintro e w2 ⟨rfl, hb2⟩; have n0_ := Aside0.mk (Kd.R_below HO.out hb2); have n1_ := Aside0.mk (below_step HB.out hb2); clear HO HB hb2; revert n0_ n1_; intro HO HB)
      go_ret2
      exact ⟨_, rfl, Kd.R_lower HO.out HB1.out.size, below_then HB1.out HB1.out.size HB.out⟩
     ·
      rw [if_neg ce] at H2
      have H2 := Option.some.inj H2
      simp only [Prod.mk.injEq] at H2
      obtain ⟨rfl, rfl⟩ := H2
      have ce2 : (t.toList == a0.toList) = false := by simpa using ce
      have ce3 : (t.toList != a0.toList) = true := by simpa using ce
      clear ce
      go_wp2_with (go_at_call 16; (with_reducible refine (impl_OrdersText.calls k _ _ os t _ (Kd.R_reads' HO.out).2.2 (Kd.R_reads' HO.out).2.1 HTX.out).mono ?_); rintro e w2 ⟨rfl, hb2⟩; have n1_ := Aside0.mk (below_step HB.out hb2); clear HO HB hb2; revert n1_; intro HB)
      go_ret2
      exact ⟨_, rfl, Kd.R_nil _ _ _ _ _, below_then HB1.out HB1.out.size HB.out⟩
 ·
  rw [if_neg hs] at h; cases h

end Go.Proofs.YtffodlggihmonaaDoor.PFnSwitching
