-- written by a program of this session (mkp.py) out of the translation; Lean checks it.
import Derived.Test.YtndbgkcjccejdaaPFnExactCheapestPumpsx0
import Derived.Test.YtndbgkcjccejdaaPFnExactCheapestPumpsx1
namespace Go.Proofs.Ytndbgkcjccejdaa.PFnExactCheapestPumps
open Go.RowKit Go.Proofs.YtndbgkcjccejdaaW.PrintWords Go.Proofs.YtndbgkcjccejdaaW.PrintLast Go.Proofs.YtndbgkcjccejdaaW.PrintMore
attribute [local go_sem] bin_leq bin_gtr bin_geq max2_int min2_int max_two min_two max_three min_three max_four min_four   -- for this text's walks alone
set_option linter.unusedVariables false
set_option linter.unusedSimpArgs false

/-! ### spec_l08Ok: function 73 -/
mutual
def spec_l08Ok.j0 : Nat → List (S38) → Bool → Option (Bool)
  | 0, _, _ => none
  | k + 1, x0, x26 => if x26 = true then (some false) else (spec_l08Ok.l0 k x0 0)
def spec_l08Ok.l0 : Nat → List (S38) → Int → Option (Bool)
  | 0, _, _ => none
  | k + 1, x0, x3 => if 0 < (x0.length : Int) then (if x3 < (((rd_T38 x0 0).f1).length : Int) then (if 0 ≤ x3 then (if ((rd_L1 ((rd_T38 x0 0).f1) x3).length : Int) = 2 then (if 0 < ((rd_L1 ((rd_T38 x0 0).f1) x3).length : Int) then ((spec_l02Flow.f (rd (rd_L1 ((rd_T38 x0 0).f1) x3) 0)).bind fun t119 => (if t119 = true then (if 1 < ((rd_L1 ((rd_T38 x0 0).f1) x3).length : Int) then ((spec_l00In.f (rd (rd_L1 ((rd_T38 x0 0).f1) x3) 1) 0 2000000).bind fun t121 => (spec_l08Ok.j2 k x0 x3 (rd_L1 ((rd_T38 x0 0).f1) x3) (!t121))) else (none)) else (spec_l08Ok.j2 k x0 x3 (rd_L1 ((rd_T38 x0 0).f1) x3) true))) else (none)) else (spec_l08Ok.j2 k x0 x3 (rd_L1 ((rd_T38 x0 0).f1) x3) true)) else (none)) else (some true)) else (none)
def spec_l08Ok.j2 : Nat → List (S38) → Int → List Int → Bool → Option (Bool)
  | 0, _, _, _, _ => none
  | k + 1, x0, x3, x4, x59 => if x59 = true then (some false) else (if x3 = 0 then (if 0 < (x4.length : Int) then (if (rd x4 0) = 0 then (if x3 > 0 then (if 0 < (x0.length : Int) then (if 0 ≤ (wrap64 (x3 - 1)) then (if (wrap64 (x3 - 1)) < (((rd_T38 x0 0).f1).length : Int) then (if 0 < ((rd_L1 ((rd_T38 x0 0).f1) (wrap64 (x3 - 1))).length : Int) then (if (rd (rd_L1 ((rd_T38 x0 0).f1) (wrap64 (x3 - 1))) 0) ≥ (rd x4 0) then (some false) else (if 1 < ((rd_L1 ((rd_T38 x0 0).f1) (wrap64 (x3 - 1))).length : Int) then (if 1 < (x4.length : Int) then (if (rd (rd_L1 ((rd_T38 x0 0).f1) (wrap64 (x3 - 1))) 1) < (rd x4 1) then (some false) else (spec_l08Ok.l0 k x0 (wrap64 (x3 + 1)))) else (none)) else (none))) else (none)) else (none)) else (none)) else (none)) else (spec_l08Ok.l0 k x0 (wrap64 (x3 + 1)))) else (some false)) else (none)) else (if x3 > 0 then (if 0 < (x0.length : Int) then (if 0 ≤ (wrap64 (x3 - 1)) then (if (wrap64 (x3 - 1)) < (((rd_T38 x0 0).f1).length : Int) then (if 0 < ((rd_L1 ((rd_T38 x0 0).f1) (wrap64 (x3 - 1))).length : Int) then (if 0 < (x4.length : Int) then (if (rd (rd_L1 ((rd_T38 x0 0).f1) (wrap64 (x3 - 1))) 0) ≥ (rd x4 0) then (some false) else (if 1 < ((rd_L1 ((rd_T38 x0 0).f1) (wrap64 (x3 - 1))).length : Int) then (if 1 < (x4.length : Int) then (if (rd (rd_L1 ((rd_T38 x0 0).f1) (wrap64 (x3 - 1))) 1) < (rd x4 1) then (some false) else (spec_l08Ok.l0 k x0 (wrap64 (x3 + 1)))) else (none)) else (none))) else (none)) else (none)) else (none)) else (none)) else (none)) else (spec_l08Ok.l0 k x0 (wrap64 (x3 + 1)))))
end
def spec_l08Ok.f (k : Nat) (l0 : List (S38)) : Option (Bool) := if 0 < (l0.length : Int) then ((spec_l01Name.f k ((rd_T38 l0 0).f0)).bind fun t112 => (if t112 = true then (if (((rd_T38 l0 0).f1).length : Int) < 2 then (spec_l08Ok.j0 k l0 true) else (spec_l08Ok.j0 k l0 (decide ((((rd_T38 l0 0).f1).length : Int) > 8)))) else (spec_l08Ok.j0 k l0 true))) else (none)
theorem spec_l08Ok.mono_l : ∀ k, (∀ y0 y1, LeO (spec_l08Ok.j0 k y0 y1) (spec_l08Ok.j0 (k + 1) y0 y1)) ∧ (∀ y0 y1, LeO (spec_l08Ok.l0 k y0 y1) (spec_l08Ok.l0 (k + 1) y0 y1)) ∧ (∀ y0 y1 y2 y3, LeO (spec_l08Ok.j2 k y0 y1 y2 y3) (spec_l08Ok.j2 (k + 1) y0 y1 y2 y3))
  | 0 => ⟨fun _ _ r h => by simp [spec_l08Ok.j0] at h, fun _ _ r h => by simp [spec_l08Ok.l0] at h, fun _ _ _ _ r h => by simp [spec_l08Ok.j2] at h⟩
  | k + 1 => by
    obtain ⟨ih0, ih1, ih2⟩ := spec_l08Ok.mono_l k
    refine ⟨?_, ?_, ?_⟩
    · intro y0 y1
      unfold spec_l08Ok.j0
      repeat' first
      | (with_reducible exact ih0 _ _)
      | (with_reducible exact ih1 _ _)
      | (with_reducible exact ih2 _ _ _ _)
      | (with_reducible exact spec_l01Name.mono _ _)
      | (with_reducible exact LeO.refl _)
      | (with_reducible exact LeO.none _)
      | (with_reducible refine LeO.ite ?_ ?_)
      | (with_reducible refine LeO.bind ?_ (fun _ => ?_))
      | exact ih0 _ _
      | exact ih1 _ _
      | exact ih2 _ _ _ _
      | exact spec_l01Name.mono _ _
      | exact LeO.none _
      | refine LeO.ite ?_ ?_
      | refine LeO.bind ?_ (fun _ => ?_)
    · intro y0 y1
      unfold spec_l08Ok.l0
      repeat' first
      | (with_reducible exact ih0 _ _)
      | (with_reducible exact ih1 _ _)
      | (with_reducible exact ih2 _ _ _ _)
      | (with_reducible exact spec_l01Name.mono _ _)
      | (with_reducible exact LeO.refl _)
      | (with_reducible exact LeO.none _)
      | (with_reducible refine LeO.ite ?_ ?_)
      | (with_reducible refine LeO.bind ?_ (fun _ => ?_))
      | exact ih0 _ _
      | exact ih1 _ _
      | exact ih2 _ _ _ _
      | exact spec_l01Name.mono _ _
      | exact LeO.none _
      | refine LeO.ite ?_ ?_
      | refine LeO.bind ?_ (fun _ => ?_)
    · intro y0 y1 y2 y3
      unfold spec_l08Ok.j2
      repeat' first
      | (with_reducible exact ih0 _ _)
      | (with_reducible exact ih1 _ _)
      | (with_reducible exact ih2 _ _ _ _)
      | (with_reducible exact spec_l01Name.mono _ _)
      | (with_reducible exact LeO.refl _)
      | (with_reducible exact LeO.none _)
      | (with_reducible refine LeO.ite ?_ ?_)
      | (with_reducible refine LeO.bind ?_ (fun _ => ?_))
      | exact ih0 _ _
      | exact ih1 _ _
      | exact ih2 _ _ _ _
      | exact spec_l01Name.mono _ _
      | exact LeO.none _
      | refine LeO.ite ?_ ?_
      | refine LeO.bind ?_ (fun _ => ?_)
theorem spec_l08Ok.mono : ∀ a0 k, LeO (spec_l08Ok.f k a0) (spec_l08Ok.f (k + 1) a0) := by
  intro a0 k
  obtain ⟨ih0, ih1, ih2⟩ := spec_l08Ok.mono_l k
  unfold spec_l08Ok.f
  repeat' first
      | (with_reducible exact ih0 _ _)
      | (with_reducible exact ih1 _ _)
      | (with_reducible exact ih2 _ _ _ _)
      | (with_reducible exact spec_l01Name.mono _ _)
      | (with_reducible exact LeO.refl _)
      | (with_reducible exact LeO.none _)
      | (with_reducible refine LeO.ite ?_ ?_)
      | (with_reducible refine LeO.bind ?_ (fun _ => ?_))
      | exact ih0 _ _
      | exact ih1 _ _
      | exact ih2 _ _ _ _
      | exact spec_l01Name.mono _ _
      | exact LeO.none _
      | refine LeO.ite ?_ ?_
      | refine LeO.bind ?_ (fun _ => ?_)
set_option maxHeartbeats 8000000 in
set_option maxRecDepth 100000 in
theorem spec_l08Ok.calls (k : Nat) (A0 : Option Addr) (l0 : List (S38)) (r : Bool) (w : World) (hr0 : Kd.C k38 w A0 l0.length l0) (h : spec_l08Ok.f k l0 = some r) :
    Calls Try.prog 73 #[.pointer A0] w fun e w' => e = .returned (.bool r) ∧ Drawn0 w w' := by
  have HR0 := Aside0.mk hr0
  clear hr0
  have H : (if 0 < (l0.length : Int) then ((spec_l01Name.f k ((rd_T38 l0 0).f0)).bind fun t112 => (if t112 = true then (if (((rd_T38 l0 0).f1).length : Int) < 2 then (spec_l08Ok.j0 k l0 true) else (spec_l08Ok.j0 k l0 (decide ((((rd_T38 l0 0).f1).length : Int) > 8)))) else (spec_l08Ok.j0 k l0 true))) else (none)) = some r := h
  clear h
  have HC2 := Aside0.mk H
  clear H
  go_enter Try.func73, Try.ntmps73
  go_upto_region 1 with (fail)
  repeat (go_quiet (fail); go_upto_region 1 with (fail))
  go_cut [26] (fun v26 wc => ∃ (kq : Nat) (x26_1 : Bool), v26 = .bool x26_1 ∧ Aside0 (spec_l08Ok.j0 kq l0 x26_1 = some r) ∧ Aside0 (kq ≤ k) ∧ Drawn0 w wc)
  case first =>
    have H := HC2.out
    clear HC2
    by_cases c3 : 0 < (l0.length : Int)
    · rw [if_pos c3] at H
      have c3b0 : decide (0 < (l0.length : Int)) = true := decide_eq_true c3
      have c3b1 : decide (0 < l0.length) = true := decide_eq_true (by omega)
      clear c3
      (first | rw [c3b0] | (simp only [i64_w, i32_w]; rw [c3b0]) | skip)
      replace H := Option.bind_eq_some_iff.mp H
      obtain ⟨t112, A40, H⟩ := H
      replace H : (if t112 = true then (if (((rd_T38 l0 0).f1).length : Int) < 2 then (spec_l08Ok.j0 k l0 true) else (spec_l08Ok.j0 k l0 (decide ((((rd_T38 l0 0).f1).length : Int) > 8)))) else (spec_l08Ok.j0 k l0 true)) = some r := H
      have A4 := Aside0.mk A40
      clear A40
      by_cases c5 : t112 = true
      · subst c5
        have H1 : (if (((rd_T38 l0 0).f1).length : Int) < 2 then (spec_l08Ok.j0 k l0 true) else (spec_l08Ok.j0 k l0 (decide ((((rd_T38 l0 0).f1).length : Int) > 8)))) = some r := by rw [if_pos rfl] at H; exact H
        clear H
        have H := H1
        clear H1
        by_cases c6 : (((rd_T38 l0 0).f1).length : Int) < 2
        · rw [if_pos c6] at H
          have c6b0 : decide ((((rd_T38 l0 0).f1).length : Int) < 2) = true := decide_eq_true c6
          have c6b1 : decide (((rd_T38 l0 0).f1).length < 2) = true := decide_eq_true (by omega)
          clear c6
          have H' := Aside0.mk H
          clear H
          have p111 : 0 ≤ (0 : Int) := (by omega)
          have q111 : 0 < (l0.length : Int) := of_decide_eq_true (by first | (with_reducible assumption) | assumption)
          obtain ⟨ad111, A111_1, c111_1, e111, hx111_0, hx111_1, hl111_1, hi111_1⟩ := at_T38 HR0.out 0 p111 q111
          cases e111
          have qi111 : (0 < l0.length) = True := eq_true (by omega)
          (try rw [show ((0 : Int)).toNat = 0 from rfl] at hx111_0)
          (try rw [show 0 * 2 = 0 from rfl] at hx111_0)
          (try rw [Addr.add_zero'] at hx111_0)
          (try rw [show ((0 : Int)).toNat = 0 from rfl] at hx111_1)
          (try rw [show 0 * 2 = 0 from rfl] at hx111_1)
          (try rw [Addr.add_zero'] at hx111_1)
          have HR111_1 := Aside0.mk hi111_1
          have HC111_1 := Aside0.mk hl111_1
          clear hi111_1 hl111_1
          replace p111 := eq_true p111
          replace q111 := eq_true q111
          go_wp2_with (first | (go_at_call 114; (with_reducible refine (spec_l01Name.calls k ((rd_T38 l0 0).f0) true _ A4.out).mono ?_); rintro e w' ⟨rfl, ⟨nd, rfl⟩⟩; (try first | exact ⟨rfl, _, World.drewN_drewN _ _ _⟩ | exact ⟨rfl, _, Eq.trans (World.drewN_drewN _ _ _) (congrArg (World.drewN _) (Nat.add_assoc _ _ _))⟩); all_goals (have p113 : 0 ≤ (0 : Int) := (by omega); have q113 : 0 < (l0.length : Int) := of_decide_eq_true (by first | (with_reducible assumption) | assumption); obtain ⟨ad113, A113_1, c113_1, e113, hx113_0, hx113_1, hl113_1, hi113_1⟩ := at_T38 HR0.out 0 p113 q113; obtain rfl : ad111 = ad113 := (by injection e113); have qi113 : (0 < l0.length) = True := eq_true (by omega); (try rw [show ((0 : Int)).toNat = 0 from rfl] at hx113_0); (try rw [show 0 * 2 = 0 from rfl] at hx113_0); (try rw [Addr.add_zero'] at hx113_0); (try rw [show ((0 : Int)).toNat = 0 from rfl] at hx113_1); (try rw [show 0 * 2 = 0 from rfl] at hx113_1); (try rw [Addr.add_zero'] at hx113_1); have HR113_1 := Aside0.mk hi113_1; have HC113_1 := Aside0.mk hl113_1; clear hi113_1 hl113_1; replace p113 := eq_true p113; replace q113 := eq_true q113; have ea_ := Option.some.inj (hx111_1.symm.trans hx113_1); injection ea_ with ea_ en_ ec_; subst ea_; subst ec_; clear en_)))
          repeat (go_quiet (first | (go_at_call 114; (with_reducible refine (spec_l01Name.calls k ((rd_T38 l0 0).f0) true _ A4.out).mono ?_); rintro e w' ⟨rfl, ⟨nd, rfl⟩⟩; (try first | exact ⟨rfl, _, World.drewN_drewN _ _ _⟩ | exact ⟨rfl, _, Eq.trans (World.drewN_drewN _ _ _) (congrArg (World.drewN _) (Nat.add_assoc _ _ _))⟩); all_goals (have p113 : 0 ≤ (0 : Int) := (by omega); have q113 : 0 < (l0.length : Int) := of_decide_eq_true (by first | (with_reducible assumption) | assumption); obtain ⟨ad113, A113_1, c113_1, e113, hx113_0, hx113_1, hl113_1, hi113_1⟩ := at_T38 HR0.out 0 p113 q113; obtain rfl : ad111 = ad113 := (by injection e113); have qi113 : (0 < l0.length) = True := eq_true (by omega); (try rw [show ((0 : Int)).toNat = 0 from rfl] at hx113_0); (try rw [show 0 * 2 = 0 from rfl] at hx113_0); (try rw [Addr.add_zero'] at hx113_0); (try rw [show ((0 : Int)).toNat = 0 from rfl] at hx113_1); (try rw [show 0 * 2 = 0 from rfl] at hx113_1); (try rw [Addr.add_zero'] at hx113_1); have HR113_1 := Aside0.mk hi113_1; have HC113_1 := Aside0.mk hl113_1; clear hi113_1 hl113_1; replace p113 := eq_true p113; replace q113 := eq_true q113; have ea_ := Option.some.inj (hx111_1.symm.trans hx113_1); injection ea_ with ea_ en_ ec_; subst ea_; subst ec_; clear en_))); try go_wp2_with (first | (go_at_call 114; (with_reducible refine (spec_l01Name.calls k ((rd_T38 l0 0).f0) true _ A4.out).mono ?_); rintro e w' ⟨rfl, ⟨nd, rfl⟩⟩; (try first | exact ⟨rfl, _, World.drewN_drewN _ _ _⟩ | exact ⟨rfl, _, Eq.trans (World.drewN_drewN _ _ _) (congrArg (World.drewN _) (Nat.add_assoc _ _ _))⟩); all_goals (have p113 : 0 ≤ (0 : Int) := (by omega); have q113 : 0 < (l0.length : Int) := of_decide_eq_true (by first | (with_reducible assumption) | assumption); obtain ⟨ad113, A113_1, c113_1, e113, hx113_0, hx113_1, hl113_1, hi113_1⟩ := at_T38 HR0.out 0 p113 q113; obtain rfl : ad111 = ad113 := (by injection e113); have qi113 : (0 < l0.length) = True := eq_true (by omega); (try rw [show ((0 : Int)).toNat = 0 from rfl] at hx113_0); (try rw [show 0 * 2 = 0 from rfl] at hx113_0); (try rw [Addr.add_zero'] at hx113_0); (try rw [show ((0 : Int)).toNat = 0 from rfl] at hx113_1); (try rw [show 0 * 2 = 0 from rfl] at hx113_1); (try rw [Addr.add_zero'] at hx113_1); have HR113_1 := Aside0.mk hi113_1; have HC113_1 := Aside0.mk hl113_1; clear hi113_1 hl113_1; replace p113 := eq_true p113; replace q113 := eq_true q113; have ea_ := Option.some.inj (hx111_1.symm.trans hx113_1); injection ea_ with ea_ en_ ec_; subst ea_; subst ec_; clear en_))))
          go_meet
          case rel => exact ⟨_, (true), (by first | rfl | (simp; done) | (simp [*]; done)), H', ⟨by first | omega | exact Nat.le_refl _⟩, by repeat (first | exact Drawn0.refl _ | apply Drawn0.step)⟩
        · rw [if_neg c6] at H
          have c6b0 : decide ((((rd_T38 l0 0).f1).length : Int) < 2) = false := decide_eq_false c6
          have c6b1 : decide (((rd_T38 l0 0).f1).length < 2) = false := decide_eq_false (by omega)
          clear c6
          have H' := Aside0.mk H
          clear H
          have p111 : 0 ≤ (0 : Int) := (by omega)
          have q111 : 0 < (l0.length : Int) := of_decide_eq_true (by first | (with_reducible assumption) | assumption)
          obtain ⟨ad111, A111_1, c111_1, e111, hx111_0, hx111_1, hl111_1, hi111_1⟩ := at_T38 HR0.out 0 p111 q111
          cases e111
          have qi111 : (0 < l0.length) = True := eq_true (by omega)
          (try rw [show ((0 : Int)).toNat = 0 from rfl] at hx111_0)
          (try rw [show 0 * 2 = 0 from rfl] at hx111_0)
          (try rw [Addr.add_zero'] at hx111_0)
          (try rw [show ((0 : Int)).toNat = 0 from rfl] at hx111_1)
          (try rw [show 0 * 2 = 0 from rfl] at hx111_1)
          (try rw [Addr.add_zero'] at hx111_1)
          have HR111_1 := Aside0.mk hi111_1
          have HC111_1 := Aside0.mk hl111_1
          clear hi111_1 hl111_1
          replace p111 := eq_true p111
          replace q111 := eq_true q111
          go_wp2_with (first | (go_at_call 114; (with_reducible refine (spec_l01Name.calls k ((rd_T38 l0 0).f0) true _ A4.out).mono ?_); rintro e w' ⟨rfl, ⟨nd, rfl⟩⟩; (try first | exact ⟨rfl, _, World.drewN_drewN _ _ _⟩ | exact ⟨rfl, _, Eq.trans (World.drewN_drewN _ _ _) (congrArg (World.drewN _) (Nat.add_assoc _ _ _))⟩); all_goals (have p113 : 0 ≤ (0 : Int) := (by omega); have q113 : 0 < (l0.length : Int) := of_decide_eq_true (by first | (with_reducible assumption) | assumption); obtain ⟨ad113, A113_1, c113_1, e113, hx113_0, hx113_1, hl113_1, hi113_1⟩ := at_T38 HR0.out 0 p113 q113; obtain rfl : ad111 = ad113 := (by injection e113); have qi113 : (0 < l0.length) = True := eq_true (by omega); (try rw [show ((0 : Int)).toNat = 0 from rfl] at hx113_0); (try rw [show 0 * 2 = 0 from rfl] at hx113_0); (try rw [Addr.add_zero'] at hx113_0); (try rw [show ((0 : Int)).toNat = 0 from rfl] at hx113_1); (try rw [show 0 * 2 = 0 from rfl] at hx113_1); (try rw [Addr.add_zero'] at hx113_1); have HR113_1 := Aside0.mk hi113_1; have HC113_1 := Aside0.mk hl113_1; clear hi113_1 hl113_1; replace p113 := eq_true p113; replace q113 := eq_true q113; have ea_ := Option.some.inj (hx111_1.symm.trans hx113_1); injection ea_ with ea_ en_ ec_; subst ea_; subst ec_; clear en_; have p114 : 0 ≤ (0 : Int) := (by omega); have q114 : 0 < (l0.length : Int) := of_decide_eq_true (by first | (with_reducible assumption) | assumption); obtain ⟨ad114, A114_1, c114_1, e114, hx114_0, hx114_1, hl114_1, hi114_1⟩ := at_T38 HR0.out 0 p114 q114; obtain rfl : ad111 = ad114 := (by injection e114); have qi114 : (0 < l0.length) = True := eq_true (by omega); (try rw [show ((0 : Int)).toNat = 0 from rfl] at hx114_0); (try rw [show 0 * 2 = 0 from rfl] at hx114_0); (try rw [Addr.add_zero'] at hx114_0); (try rw [show ((0 : Int)).toNat = 0 from rfl] at hx114_1); (try rw [show 0 * 2 = 0 from rfl] at hx114_1); (try rw [Addr.add_zero'] at hx114_1); have HR114_1 := Aside0.mk hi114_1; have HC114_1 := Aside0.mk hl114_1; clear hi114_1 hl114_1; replace p114 := eq_true p114; replace q114 := eq_true q114; have ea_ := Option.some.inj (hx111_1.symm.trans hx114_1); injection ea_ with ea_ en_ ec_; subst ea_; subst ec_; clear en_)))
          repeat (go_quiet (first | (go_at_call 114; (with_reducible refine (spec_l01Name.calls k ((rd_T38 l0 0).f0) true _ A4.out).mono ?_); rintro e w' ⟨rfl, ⟨nd, rfl⟩⟩; (try first | exact ⟨rfl, _, World.drewN_drewN _ _ _⟩ | exact ⟨rfl, _, Eq.trans (World.drewN_drewN _ _ _) (congrArg (World.drewN _) (Nat.add_assoc _ _ _))⟩); all_goals (have p113 : 0 ≤ (0 : Int) := (by omega); have q113 : 0 < (l0.length : Int) := of_decide_eq_true (by first | (with_reducible assumption) | assumption); obtain ⟨ad113, A113_1, c113_1, e113, hx113_0, hx113_1, hl113_1, hi113_1⟩ := at_T38 HR0.out 0 p113 q113; obtain rfl : ad111 = ad113 := (by injection e113); have qi113 : (0 < l0.length) = True := eq_true (by omega); (try rw [show ((0 : Int)).toNat = 0 from rfl] at hx113_0); (try rw [show 0 * 2 = 0 from rfl] at hx113_0); (try rw [Addr.add_zero'] at hx113_0); (try rw [show ((0 : Int)).toNat = 0 from rfl] at hx113_1); (try rw [show 0 * 2 = 0 from rfl] at hx113_1); (try rw [Addr.add_zero'] at hx113_1); have HR113_1 := Aside0.mk hi113_1; have HC113_1 := Aside0.mk hl113_1; clear hi113_1 hl113_1; replace p113 := eq_true p113; replace q113 := eq_true q113; have ea_ := Option.some.inj (hx111_1.symm.trans hx113_1); injection ea_ with ea_ en_ ec_; subst ea_; subst ec_; clear en_; have p114 : 0 ≤ (0 : Int) := (by omega); have q114 : 0 < (l0.length : Int) := of_decide_eq_true (by first | (with_reducible assumption) | assumption); obtain ⟨ad114, A114_1, c114_1, e114, hx114_0, hx114_1, hl114_1, hi114_1⟩ := at_T38 HR0.out 0 p114 q114; obtain rfl : ad111 = ad114 := (by injection e114); have qi114 : (0 < l0.length) = True := eq_true (by omega); (try rw [show ((0 : Int)).toNat = 0 from rfl] at hx114_0); (try rw [show 0 * 2 = 0 from rfl] at hx114_0); (try rw [Addr.add_zero'] at hx114_0); (try rw [show ((0 : Int)).toNat = 0 from rfl] at hx114_1); (try rw [show 0 * 2 = 0 from rfl] at hx114_1); (try rw [Addr.add_zero'] at hx114_1); have HR114_1 := Aside0.mk hi114_1; have HC114_1 := Aside0.mk hl114_1; clear hi114_1 hl114_1; replace p114 := eq_true p114; replace q114 := eq_true q114; have ea_ := Option.some.inj (hx111_1.symm.trans hx114_1); injection ea_ with ea_ en_ ec_; subst ea_; subst ec_; clear en_))); try go_wp2_with (first | (go_at_call 114; (with_reducible refine (spec_l01Name.calls k ((rd_T38 l0 0).f0) true _ A4.out).mono ?_); rintro e w' ⟨rfl, ⟨nd, rfl⟩⟩; (try first | exact ⟨rfl, _, World.drewN_drewN _ _ _⟩ | exact ⟨rfl, _, Eq.trans (World.drewN_drewN _ _ _) (congrArg (World.drewN _) (Nat.add_assoc _ _ _))⟩); all_goals (have p113 : 0 ≤ (0 : Int) := (by omega); have q113 : 0 < (l0.length : Int) := of_decide_eq_true (by first | (with_reducible assumption) | assumption); obtain ⟨ad113, A113_1, c113_1, e113, hx113_0, hx113_1, hl113_1, hi113_1⟩ := at_T38 HR0.out 0 p113 q113; obtain rfl : ad111 = ad113 := (by injection e113); have qi113 : (0 < l0.length) = True := eq_true (by omega); (try rw [show ((0 : Int)).toNat = 0 from rfl] at hx113_0); (try rw [show 0 * 2 = 0 from rfl] at hx113_0); (try rw [Addr.add_zero'] at hx113_0); (try rw [show ((0 : Int)).toNat = 0 from rfl] at hx113_1); (try rw [show 0 * 2 = 0 from rfl] at hx113_1); (try rw [Addr.add_zero'] at hx113_1); have HR113_1 := Aside0.mk hi113_1; have HC113_1 := Aside0.mk hl113_1; clear hi113_1 hl113_1; replace p113 := eq_true p113; replace q113 := eq_true q113; have ea_ := Option.some.inj (hx111_1.symm.trans hx113_1); injection ea_ with ea_ en_ ec_; subst ea_; subst ec_; clear en_; have p114 : 0 ≤ (0 : Int) := (by omega); have q114 : 0 < (l0.length : Int) := of_decide_eq_true (by first | (with_reducible assumption) | assumption); obtain ⟨ad114, A114_1, c114_1, e114, hx114_0, hx114_1, hl114_1, hi114_1⟩ := at_T38 HR0.out 0 p114 q114; obtain rfl : ad111 = ad114 := (by injection e114); have qi114 : (0 < l0.length) = True := eq_true (by omega); (try rw [show ((0 : Int)).toNat = 0 from rfl] at hx114_0); (try rw [show 0 * 2 = 0 from rfl] at hx114_0); (try rw [Addr.add_zero'] at hx114_0); (try rw [show ((0 : Int)).toNat = 0 from rfl] at hx114_1); (try rw [show 0 * 2 = 0 from rfl] at hx114_1); (try rw [Addr.add_zero'] at hx114_1); have HR114_1 := Aside0.mk hi114_1; have HC114_1 := Aside0.mk hl114_1; clear hi114_1 hl114_1; replace p114 := eq_true p114; replace q114 := eq_true q114; have ea_ := Option.some.inj (hx111_1.symm.trans hx114_1); injection ea_ with ea_ en_ ec_; subst ea_; subst ec_; clear en_))))
          go_meet
          case rel => exact ⟨_, (decide ((((rd_T38 l0 0).f1).length : Int) > 8)), (by first | rfl | (simp; done) | (simp [*]; done)), H', ⟨by first | omega | exact Nat.le_refl _⟩, by repeat (first | exact Drawn0.refl _ | apply Drawn0.step)⟩
      · replace c5 := Bool.eq_false_iff.mpr c5
        subst c5
        have H1 : (spec_l08Ok.j0 k l0 true) = some r := by rw [if_neg (show ¬ (false = true) by decide)] at H; exact H
        clear H
        have H := H1
        clear H1
        have H' := Aside0.mk H
        clear H
        have p111 : 0 ≤ (0 : Int) := (by omega)
        have q111 : 0 < (l0.length : Int) := of_decide_eq_true (by first | (with_reducible assumption) | assumption)
        obtain ⟨ad111, A111_1, c111_1, e111, hx111_0, hx111_1, hl111_1, hi111_1⟩ := at_T38 HR0.out 0 p111 q111
        cases e111
        have qi111 : (0 < l0.length) = True := eq_true (by omega)
        (try rw [show ((0 : Int)).toNat = 0 from rfl] at hx111_0)
        (try rw [show 0 * 2 = 0 from rfl] at hx111_0)
        (try rw [Addr.add_zero'] at hx111_0)
        (try rw [show ((0 : Int)).toNat = 0 from rfl] at hx111_1)
        (try rw [show 0 * 2 = 0 from rfl] at hx111_1)
        (try rw [Addr.add_zero'] at hx111_1)
        have HR111_1 := Aside0.mk hi111_1
        have HC111_1 := Aside0.mk hl111_1
        clear hi111_1 hl111_1
        replace p111 := eq_true p111
        replace q111 := eq_true q111
        go_wp2_with (first | (go_at_call 114; (with_reducible refine (spec_l01Name.calls k ((rd_T38 l0 0).f0) false _ A4.out).mono ?_); rintro e w' ⟨rfl, ⟨nd, rfl⟩⟩; (try first | exact ⟨rfl, _, World.drewN_drewN _ _ _⟩ | exact ⟨rfl, _, Eq.trans (World.drewN_drewN _ _ _) (congrArg (World.drewN _) (Nat.add_assoc _ _ _))⟩)))
        repeat (go_quiet (first | (go_at_call 114; (with_reducible refine (spec_l01Name.calls k ((rd_T38 l0 0).f0) false _ A4.out).mono ?_); rintro e w' ⟨rfl, ⟨nd, rfl⟩⟩; (try first | exact ⟨rfl, _, World.drewN_drewN _ _ _⟩ | exact ⟨rfl, _, Eq.trans (World.drewN_drewN _ _ _) (congrArg (World.drewN _) (Nat.add_assoc _ _ _))⟩))); try go_wp2_with (first | (go_at_call 114; (with_reducible refine (spec_l01Name.calls k ((rd_T38 l0 0).f0) false _ A4.out).mono ?_); rintro e w' ⟨rfl, ⟨nd, rfl⟩⟩; (try first | exact ⟨rfl, _, World.drewN_drewN _ _ _⟩ | exact ⟨rfl, _, Eq.trans (World.drewN_drewN _ _ _) (congrArg (World.drewN _) (Nat.add_assoc _ _ _))⟩))))
        go_meet
        case rel => exact ⟨_, (true), (by first | rfl | (simp; done) | (simp [*]; done)), H', ⟨by first | omega | exact Nat.le_refl _⟩, by repeat (first | exact Drawn0.refl _ | apply Drawn0.step)⟩
    · rw [if_neg c3] at H
      exact absurd H (by simp)
  case rest =>
    clear HC2
    try clear c1
    try clear p1
    try clear q1
    try clear hx1
    try clear qi1
    try clear p2
    try clear c3
    try clear c3b0
    try clear c3b1
    try clear c5
    try clear c6
    try clear c6b0
    try clear c6b1
    try clear hx111_0
    try clear hx111_1
    try clear hx113_0
    try clear hx113_1
    try clear hx114_0
    try clear hx114_1
    try clear p111
    try clear p113
    try clear p114
    try clear q111
    try clear q113
    try clear q114
    obtain ⟨kq, x26_1, rfl, HA, HJ1, ⟨mc1, rfl⟩⟩ := hcut
    cases kq with
    | zero => exact absurd HA.out (by simp [spec_l08Ok.j0])
    | succ kj1 =>
      have H := HA.out
      clear HA
      simp only [spec_l08Ok.j0] at H
      by_cases c7 : x26_1 = true
      · subst c7
        have H1 : (some false) = some r := by rw [if_pos rfl] at H; exact H
        clear H
        have H := H1
        clear H1
        obtain rfl := Option.some.inj H
        go_wp2
        repeat (go_quiet (fail); try go_wp2)
        go_ret
        exact ⟨by first | rfl | (simp; done) | (simp [*]; done), by repeat (first | exact Drawn0.refl _ | apply Drawn0.step)⟩
      · replace c7 := Bool.eq_false_iff.mpr c7
        subst c7
        have H1 : (spec_l08Ok.l0 kj1 l0 0) = some r := by rw [if_neg (show ¬ (false = true) by decide)] at H; exact H
        clear H
        have H := H1
        clear H1
        have H' := Aside0.mk H
        clear H
        go_wp2
        repeat (go_quiet (fail); try go_wp2)
        go_loopg [3] kj1 (fun kq v3 w' => ∃ (x3_2 : Int), v3 = .int .i64 x3_2 ∧ Aside0 (spec_l08Ok.l0 kq l0 x3_2 = some r) ∧ Aside0 (kq ≤ kj1) ∧ Drawn0 w w')
        case atStart => exact ⟨(0), (by first | rfl | (simp; done) | (simp [*]; done)), H', ⟨Nat.le_refl _⟩, by repeat (first | exact Drawn0.refl _ | apply Drawn0.step)⟩
        case round =>
          clear H'
          try clear c1
          try clear p1
          try clear q1
          try clear hx1
          try clear qi1
          try clear p2
          try clear c3
          try clear c3b0
          try clear c3b1
          try clear c5
          try clear c6
          try clear c6b0
          try clear c6b1
          try clear c7
          try clear hx111_0
          try clear hx111_1
          try clear hx113_0
          try clear hx113_1
          try clear hx114_0
          try clear hx114_1
          try clear p1
          try clear p111
          try clear p113
          try clear p114
          try clear p2
          try clear q1
          try clear q111
          try clear q113
          try clear q114
          obtain ⟨x3_2, rfl, HA, HK2, ⟨m2, rfl⟩⟩ := hrel
          cases gk with
          | zero => exact absurd HA.out (by simp [spec_l08Ok.l0])
          | succ k2 =>
            have H := HA.out
            clear HA
            simp only [spec_l08Ok.l0] at H
            by_cases c8 : 0 < (l0.length : Int)
            · rw [if_pos c8] at H
              have c8b0 : decide (0 < (l0.length : Int)) = true := decide_eq_true c8
              have c8b1 : decide (0 < l0.length) = true := decide_eq_true (by omega)
              clear c8
              by_cases c9 : x3_2 < (((rd_T38 l0 0).f1).length : Int)
              · rw [if_pos c9] at H
                have c9b0 : decide (x3_2 < (((rd_T38 l0 0).f1).length : Int)) = true := decide_eq_true c9
                clear c9
                by_cases c10 : 0 ≤ x3_2
                · rw [if_pos c10] at H
                  have c10b0 : decide (0 ≤ x3_2) = true := decide_eq_true c10
                  clear c10
                  have HC11 := Aside0.mk H
                  clear H
                  have p115 : 0 ≤ (0 : Int) := (by omega)
                  have q115 : 0 < (l0.length : Int) := of_decide_eq_true (by first | (with_reducible assumption) | assumption)
                  obtain ⟨ad115, A115_1, c115_1, e115, hx115_0, hx115_1, hl115_1, hi115_1⟩ := at_T38 HR0.out 0 p115 q115
                  cases e115
                  have qi115 : (0 < l0.length) = True := eq_true (by omega)
                  (try rw [show ((0 : Int)).toNat = 0 from rfl] at hx115_0)
                  (try rw [show 0 * 2 = 0 from rfl] at hx115_0)
                  (try rw [Addr.add_zero'] at hx115_0)
                  (try rw [show ((0 : Int)).toNat = 0 from rfl] at hx115_1)
                  (try rw [show 0 * 2 = 0 from rfl] at hx115_1)
                  (try rw [Addr.add_zero'] at hx115_1)
                  have HR115_1 := Aside0.mk hi115_1
                  have HC115_1 := Aside0.mk hl115_1
                  clear hi115_1 hl115_1
                  replace p115 := eq_true p115
                  replace q115 := eq_true q115
                  have p116 : 0 ≤ (0 : Int) := (by omega)
                  have q116 : 0 < (l0.length : Int) := of_decide_eq_true (by first | (with_reducible assumption) | assumption)
                  obtain ⟨ad116, A116_1, c116_1, e116, hx116_0, hx116_1, hl116_1, hi116_1⟩ := at_T38 HR0.out 0 p116 q116
                  obtain rfl : ad115 = ad116 := (by injection e116)
                  have qi116 : (0 < l0.length) = True := eq_true (by omega)
                  (try rw [show ((0 : Int)).toNat = 0 from rfl] at hx116_0)
                  (try rw [show 0 * 2 = 0 from rfl] at hx116_0)
                  (try rw [Addr.add_zero'] at hx116_0)
                  (try rw [show ((0 : Int)).toNat = 0 from rfl] at hx116_1)
                  (try rw [show 0 * 2 = 0 from rfl] at hx116_1)
                  (try rw [Addr.add_zero'] at hx116_1)
                  have HR116_1 := Aside0.mk hi116_1
                  have HC116_1 := Aside0.mk hl116_1
                  clear hi116_1 hl116_1
                  replace p116 := eq_true p116
                  replace q116 := eq_true q116
                  have ea_ := Option.some.inj (hx115_1.symm.trans hx116_1)
                  injection ea_ with ea_ en_ ec_
                  subst ea_
                  subst ec_
                  clear en_
                  have p117 : 0 ≤ (x3_2 : Int) := of_decide_eq_true (by first | (with_reducible assumption) | assumption)
                  have q117 : x3_2 < (((rd_T38 l0 0).f1).length : Int) := of_decide_eq_true (by first | (with_reducible assumption) | assumption)
                  obtain ⟨ad117, A117_0, c117_0, e117, hx117_0, hl117_0, hi117_0⟩ := at_L1 HR116_1.out x3_2 p117 q117
                  cases e117
                  have HR117_0 := Aside0.mk hi117_0
                  have HC117_0 := Aside0.mk hl117_0
                  clear hi117_0 hl117_0
                  replace p117 := eq_true p117
                  replace q117 := eq_true q117
                  go_upto_region 7 with (fail)
                  repeat (go_quiet (fail); go_upto_region 7 with (fail))
                  go_cut [59] (fun v59 wc => ∃ (kq : Nat) (x59_10 : Bool), v59 = .bool x59_10 ∧ Aside0 (spec_l08Ok.j2 kq l0 x3_2 (rd_L1 ((rd_T38 l0 0).f1) x3_2) x59_10 = some r) ∧ Aside0 (kq ≤ k2) ∧ Drawn0 w wc)
                  case first =>
                    have H := HC11.out
                    clear HC11
                    by_cases c12 : ((rd_L1 ((rd_T38 l0 0).f1) x3_2).length : Int) = 2
                    · rw [if_pos c12] at H
                      have c12b0 : (((rd_L1 ((rd_T38 l0 0).f1) x3_2).length : Int) == 2) = true := beq_iff_eq.mpr c12
                      have c12b1 : (((rd_L1 ((rd_T38 l0 0).f1) x3_2).length : Int) != 2) = false := bne_eq_false_iff_eq.mpr c12
                      clear c12
                      (first | rw [c12b0] | (simp only [i64_w, i32_w]; rw [c12b0]) | skip)
                      by_cases c13 : 0 < ((rd_L1 ((rd_T38 l0 0).f1) x3_2).length : Int)
                      · rw [if_pos c13] at H
                        have c13b0 : decide (0 < ((rd_L1 ((rd_T38 l0 0).f1) x3_2).length : Int)) = true := decide_eq_true c13
                        have c13b1 : decide (0 < (rd_L1 ((rd_T38 l0 0).f1) x3_2).length) = true := decide_eq_true (by omega)
                        clear c13
                        replace H := Option.bind_eq_some_iff.mp H
                        obtain ⟨t119, A140, H⟩ := H
                        replace H : (if t119 = true then (if 1 < ((rd_L1 ((rd_T38 l0 0).f1) x3_2).length : Int) then ((spec_l00In.f (rd (rd_L1 ((rd_T38 l0 0).f1) x3_2) 1) 0 2000000).bind fun t121 => (spec_l08Ok.j2 k2 l0 x3_2 (rd_L1 ((rd_T38 l0 0).f1) x3_2) (!t121))) else (none)) else (spec_l08Ok.j2 k2 l0 x3_2 (rd_L1 ((rd_T38 l0 0).f1) x3_2) true)) = some r := H
                        have A14 := Aside0.mk A140
                        clear A140
                        by_cases c15 : t119 = true
                        · subst c15
                          have H1 : (if 1 < ((rd_L1 ((rd_T38 l0 0).f1) x3_2).length : Int) then ((spec_l00In.f (rd (rd_L1 ((rd_T38 l0 0).f1) x3_2) 1) 0 2000000).bind fun t121 => (spec_l08Ok.j2 k2 l0 x3_2 (rd_L1 ((rd_T38 l0 0).f1) x3_2) (!t121))) else (none)) = some r := by rw [if_pos rfl] at H; exact H
                          clear H
                          have H := H1
                          clear H1
                          by_cases c16 : 1 < ((rd_L1 ((rd_T38 l0 0).f1) x3_2).length : Int)
                          · rw [if_pos c16] at H
                            have c16b0 : decide (1 < ((rd_L1 ((rd_T38 l0 0).f1) x3_2).length : Int)) = true := decide_eq_true c16
                            have c16b1 : decide (1 < (rd_L1 ((rd_T38 l0 0).f1) x3_2).length) = true := decide_eq_true (by omega)
                            clear c16
                            replace H := Option.bind_eq_some_iff.mp H
                            obtain ⟨t121, A170, H⟩ := H
                            replace H : (spec_l08Ok.j2 k2 l0 x3_2 (rd_L1 ((rd_T38 l0 0).f1) x3_2) (!t121)) = some r := H
                            have A17 := Aside0.mk A170
                            clear A170
                            have H' := Aside0.mk H
                            clear H
                            have p118 : 0 ≤ (0 : Int) := (by omega)
                            have q118 : 0 < ((rd_L1 ((rd_T38 l0 0).f1) x3_2).length : Int) := of_decide_eq_true (by first | (with_reducible assumption) | assumption)
                            obtain ⟨ad118, e118, hx118_0⟩ := Kd.at_int HR117_0.out 0 p118 q118
                            cases e118
                            have qi118 : (0 < (rd_L1 ((rd_T38 l0 0).f1) x3_2).length) = True := eq_true (by omega)
                            (try rw [show ((0 : Int)).toNat = 0 from rfl] at hx118_0)
                            (try rw [Addr.add_zero'] at hx118_0)
                            replace p118 := eq_true p118
                            replace q118 := eq_true q118
                            go_wp2_with (first | (go_at_call 42; (with_reducible refine (spec_l02Flow.calls (rd (rd_L1 ((rd_T38 l0 0).f1) x3_2) 0) true _ A14.out).mono ?_); rintro e w' ⟨rfl, ⟨nd, rfl⟩⟩; (try first | exact ⟨rfl, _, World.drewN_drewN _ _ _⟩ | exact ⟨rfl, _, Eq.trans (World.drewN_drewN _ _ _) (congrArg (World.drewN _) (Nat.add_assoc _ _ _))⟩); all_goals (have p120 : 0 ≤ (1 : Int) := (by omega); have q120 : 1 < ((rd_L1 ((rd_T38 l0 0).f1) x3_2).length : Int) := of_decide_eq_true (by first | (with_reducible assumption) | assumption); obtain ⟨ad120, e120, hx120_0⟩ := Kd.at_int HR117_0.out 1 p120 q120; obtain rfl : ad118 = ad120 := (by injection e120); (try simp only [show (1 : Int).toNat = 1 from rfl, Nat.reduceMul, Nat.reduceEqDiff, Go.Addr.add, ↓reduceIte] at hx120_0); have qi120 : (1 < (rd_L1 ((rd_T38 l0 0).f1) x3_2).length) = True := eq_true (by omega); (try rw [show ((1 : Int)).toNat = 1 from rfl] at hx120_0); replace p120 := eq_true p120; replace q120 := eq_true q120)) | (go_at_call 43; (with_reducible refine (spec_l00In.calls (rd (rd_L1 ((rd_T38 l0 0).f1) x3_2) 1) 0 2000000 t121 _ A17.out).mono ?_); rintro e w' ⟨rfl, ⟨nd, rfl⟩⟩; (try first | exact ⟨rfl, _, World.drewN_drewN _ _ _⟩ | exact ⟨rfl, _, Eq.trans (World.drewN_drewN _ _ _) (congrArg (World.drewN _) (Nat.add_assoc _ _ _))⟩)))
                            repeat (go_quiet (first | (go_at_call 42; (with_reducible refine (spec_l02Flow.calls (rd (rd_L1 ((rd_T38 l0 0).f1) x3_2) 0) true _ A14.out).mono ?_); rintro e w' ⟨rfl, ⟨nd, rfl⟩⟩; (try first | exact ⟨rfl, _, World.drewN_drewN _ _ _⟩ | exact ⟨rfl, _, Eq.trans (World.drewN_drewN _ _ _) (congrArg (World.drewN _) (Nat.add_assoc _ _ _))⟩); all_goals (have p120 : 0 ≤ (1 : Int) := (by omega); have q120 : 1 < ((rd_L1 ((rd_T38 l0 0).f1) x3_2).length : Int) := of_decide_eq_true (by first | (with_reducible assumption) | assumption); obtain ⟨ad120, e120, hx120_0⟩ := Kd.at_int HR117_0.out 1 p120 q120; obtain rfl : ad118 = ad120 := (by injection e120); (try simp only [show (1 : Int).toNat = 1 from rfl, Nat.reduceMul, Nat.reduceEqDiff, Go.Addr.add, ↓reduceIte] at hx120_0); have qi120 : (1 < (rd_L1 ((rd_T38 l0 0).f1) x3_2).length) = True := eq_true (by omega); (try rw [show ((1 : Int)).toNat = 1 from rfl] at hx120_0); replace p120 := eq_true p120; replace q120 := eq_true q120)) | (go_at_call 43; (with_reducible refine (spec_l00In.calls (rd (rd_L1 ((rd_T38 l0 0).f1) x3_2) 1) 0 2000000 t121 _ A17.out).mono ?_); rintro e w' ⟨rfl, ⟨nd, rfl⟩⟩; (try first | exact ⟨rfl, _, World.drewN_drewN _ _ _⟩ | exact ⟨rfl, _, Eq.trans (World.drewN_drewN _ _ _) (congrArg (World.drewN _) (Nat.add_assoc _ _ _))⟩))); try go_wp2_with (first | (go_at_call 42; (with_reducible refine (spec_l02Flow.calls (rd (rd_L1 ((rd_T38 l0 0).f1) x3_2) 0) true _ A14.out).mono ?_); rintro e w' ⟨rfl, ⟨nd, rfl⟩⟩; (try first | exact ⟨rfl, _, World.drewN_drewN _ _ _⟩ | exact ⟨rfl, _, Eq.trans (World.drewN_drewN _ _ _) (congrArg (World.drewN _) (Nat.add_assoc _ _ _))⟩); all_goals (have p120 : 0 ≤ (1 : Int) := (by omega); have q120 : 1 < ((rd_L1 ((rd_T38 l0 0).f1) x3_2).length : Int) := of_decide_eq_true (by first | (with_reducible assumption) | assumption); obtain ⟨ad120, e120, hx120_0⟩ := Kd.at_int HR117_0.out 1 p120 q120; obtain rfl : ad118 = ad120 := (by injection e120); (try simp only [show (1 : Int).toNat = 1 from rfl, Nat.reduceMul, Nat.reduceEqDiff, Go.Addr.add, ↓reduceIte] at hx120_0); have qi120 : (1 < (rd_L1 ((rd_T38 l0 0).f1) x3_2).length) = True := eq_true (by omega); (try rw [show ((1 : Int)).toNat = 1 from rfl] at hx120_0); replace p120 := eq_true p120; replace q120 := eq_true q120)) | (go_at_call 43; (with_reducible refine (spec_l00In.calls (rd (rd_L1 ((rd_T38 l0 0).f1) x3_2) 1) 0 2000000 t121 _ A17.out).mono ?_); rintro e w' ⟨rfl, ⟨nd, rfl⟩⟩; (try first | exact ⟨rfl, _, World.drewN_drewN _ _ _⟩ | exact ⟨rfl, _, Eq.trans (World.drewN_drewN _ _ _) (congrArg (World.drewN _) (Nat.add_assoc _ _ _))⟩))))
                            go_meet
                            case rel => exact ⟨_, (!t121), (by first | rfl | (simp; done) | (simp [*]; done)), H', ⟨by have := HJ1.out; have := HK2.out; first | omega | exact Nat.le_refl _⟩, by repeat (first | exact Drawn0.refl _ | apply Drawn0.step)⟩
                          · rw [if_neg c16] at H
                            exact absurd H (by simp)
                        · replace c15 := Bool.eq_false_iff.mpr c15
                          subst c15
                          have H1 : (spec_l08Ok.j2 k2 l0 x3_2 (rd_L1 ((rd_T38 l0 0).f1) x3_2) true) = some r := by rw [if_neg (show ¬ (false = true) by decide)] at H; exact H
                          clear H
                          have H := H1
                          clear H1
                          have H' := Aside0.mk H
                          clear H
                          have p118 : 0 ≤ (0 : Int) := (by omega)
                          have q118 : 0 < ((rd_L1 ((rd_T38 l0 0).f1) x3_2).length : Int) := of_decide_eq_true (by first | (with_reducible assumption) | assumption)
                          obtain ⟨ad118, e118, hx118_0⟩ := Kd.at_int HR117_0.out 0 p118 q118
                          cases e118
                          have qi118 : (0 < (rd_L1 ((rd_T38 l0 0).f1) x3_2).length) = True := eq_true (by omega)
                          (try rw [show ((0 : Int)).toNat = 0 from rfl] at hx118_0)
                          (try rw [Addr.add_zero'] at hx118_0)
                          replace p118 := eq_true p118
                          replace q118 := eq_true q118
                          go_wp2_with (first | (go_at_call 42; (with_reducible refine (spec_l02Flow.calls (rd (rd_L1 ((rd_T38 l0 0).f1) x3_2) 0) false _ A14.out).mono ?_); rintro e w' ⟨rfl, ⟨nd, rfl⟩⟩; (try first | exact ⟨rfl, _, World.drewN_drewN _ _ _⟩ | exact ⟨rfl, _, Eq.trans (World.drewN_drewN _ _ _) (congrArg (World.drewN _) (Nat.add_assoc _ _ _))⟩)))
                          repeat (go_quiet (first | (go_at_call 42; (with_reducible refine (spec_l02Flow.calls (rd (rd_L1 ((rd_T38 l0 0).f1) x3_2) 0) false _ A14.out).mono ?_); rintro e w' ⟨rfl, ⟨nd, rfl⟩⟩; (try first | exact ⟨rfl, _, World.drewN_drewN _ _ _⟩ | exact ⟨rfl, _, Eq.trans (World.drewN_drewN _ _ _) (congrArg (World.drewN _) (Nat.add_assoc _ _ _))⟩))); try go_wp2_with (first | (go_at_call 42; (with_reducible refine (spec_l02Flow.calls (rd (rd_L1 ((rd_T38 l0 0).f1) x3_2) 0) false _ A14.out).mono ?_); rintro e w' ⟨rfl, ⟨nd, rfl⟩⟩; (try first | exact ⟨rfl, _, World.drewN_drewN _ _ _⟩ | exact ⟨rfl, _, Eq.trans (World.drewN_drewN _ _ _) (congrArg (World.drewN _) (Nat.add_assoc _ _ _))⟩))))
                          go_meet
                          case rel => exact ⟨_, (true), (by first | rfl | (simp; done) | (simp [*]; done)), H', ⟨by have := HJ1.out; have := HK2.out; first | omega | exact Nat.le_refl _⟩, by repeat (first | exact Drawn0.refl _ | apply Drawn0.step)⟩
                      · rw [if_neg c13] at H
                        exact absurd H (by simp)
                    · rw [if_neg c12] at H
                      have c12b0 : (((rd_L1 ((rd_T38 l0 0).f1) x3_2).length : Int) == 2) = false := beq_eq_false_iff_ne.mpr c12
                      have c12b1 : (((rd_L1 ((rd_T38 l0 0).f1) x3_2).length : Int) != 2) = true := bne_iff_ne.mpr c12
                      (first | rw [c12b0] | (simp only [i64_w, i32_w]; rw [c12b0]) | skip)
                      have H' := Aside0.mk H
                      clear H
                      go_wp2
                      repeat (go_quiet (fail); try go_wp2)
                      go_meet
                      case rel => exact ⟨_, (true), (by first | rfl | (simp; done) | (simp [*]; done)), H', ⟨by have := HJ1.out; have := HK2.out; first | omega | exact Nat.le_refl _⟩, by repeat (first | exact Drawn0.refl _ | apply Drawn0.step)⟩
                  case rest =>
                    clear HC11
                    try clear c1
                    try clear p1
                    try clear q1
                    try clear hx1
                    try clear qi1
                    try clear p2
                    try clear c3
                    try clear c3b0
                    try clear c3b1
                    try clear c5
                    try clear c6
                    try clear c6b0
                    try clear c6b1
                    try clear c7
                    try clear c8
                    try clear c8b0
                    try clear c8b1
                    try clear c9
                    try clear c9b0
                    try clear c10
                    try clear c10b0
                    try clear c11
                    try clear p11
                    try clear q11
                    try clear hx11
                    try clear qi11
                    try clear c12
                    try clear c12b0
                    try clear c12b1
                    try clear p12
                    try clear q12
                    try clear hx12
                    try clear qi12
                    try clear c13
                    try clear c13b0
                    try clear c13b1
                    try clear c15
                    try clear c16
                    try clear c16b0
                    try clear c16b1
                    try clear hx111_0
                    try clear hx111_1
                    try clear hx113_0
                    try clear hx113_1
                    try clear hx114_0
                    try clear hx114_1
                    try clear hx115_0
                    try clear hx115_1
                    try clear hx116_0
                    try clear hx116_1
                    try clear hx117_0
                    try clear hx118_0
                    try clear hx120_0
                    try clear p1
                    try clear p111
                    try clear p113
                    try clear p114
                    try clear p115
                    try clear p116
                    try clear p117
                    try clear p118
                    try clear p120
                    try clear p2
                    try clear q1
                    try clear q111
                    try clear q113
                    try clear q114
                    try clear q115
                    try clear q116
                    try clear q117
                    try clear q118
                    try clear q120
                    obtain ⟨kq, x59_10, rfl, HA, HJ10, ⟨mc10, rfl⟩⟩ := hcut
                    cases kq with
                    | zero => exact absurd HA.out (by simp [spec_l08Ok.j2])
                    | succ kj10 =>
                      have H := HA.out
                      clear HA
                      simp only [spec_l08Ok.j2] at H
                      by_cases c18 : x59_10 = true
                      · subst c18
                        have H1 : (some false) = some r := by rw [if_pos rfl] at H; exact H
                        clear H
                        have H := H1
                        clear H1
                        obtain rfl := Option.some.inj H
                        go_wp2
                        repeat (go_quiet (fail); try go_wp2)
                        go_ret
                        exact ⟨by first | rfl | (simp; done) | (simp [*]; done), by repeat (first | exact Drawn0.refl _ | apply Drawn0.step)⟩
                      · replace c18 := Bool.eq_false_iff.mpr c18
                        subst c18
                        have H1 : (if x3_2 = 0 then (if 0 < ((rd_L1 ((rd_T38 l0 0).f1) x3_2).length : Int) then (if (rd (rd_L1 ((rd_T38 l0 0).f1) x3_2) 0) = 0 then (if x3_2 > 0 then (if 0 < (l0.length : Int) then (if 0 ≤ (wrap64 (x3_2 - 1)) then (if (wrap64 (x3_2 - 1)) < (((rd_T38 l0 0).f1).length : Int) then (if 0 < ((rd_L1 ((rd_T38 l0 0).f1) (wrap64 (x3_2 - 1))).length : Int) then (if (rd (rd_L1 ((rd_T38 l0 0).f1) (wrap64 (x3_2 - 1))) 0) ≥ (rd (rd_L1 ((rd_T38 l0 0).f1) x3_2) 0) then (some false) else (if 1 < ((rd_L1 ((rd_T38 l0 0).f1) (wrap64 (x3_2 - 1))).length : Int) then (if 1 < ((rd_L1 ((rd_T38 l0 0).f1) x3_2).length : Int) then (if (rd (rd_L1 ((rd_T38 l0 0).f1) (wrap64 (x3_2 - 1))) 1) < (rd (rd_L1 ((rd_T38 l0 0).f1) x3_2) 1) then (some false) else (spec_l08Ok.l0 kj10 l0 (wrap64 (x3_2 + 1)))) else (none)) else (none))) else (none)) else (none)) else (none)) else (none)) else (spec_l08Ok.l0 kj10 l0 (wrap64 (x3_2 + 1)))) else (some false)) else (none)) else (if x3_2 > 0 then (if 0 < (l0.length : Int) then (if 0 ≤ (wrap64 (x3_2 - 1)) then (if (wrap64 (x3_2 - 1)) < (((rd_T38 l0 0).f1).length : Int) then (if 0 < ((rd_L1 ((rd_T38 l0 0).f1) (wrap64 (x3_2 - 1))).length : Int) then (if 0 < ((rd_L1 ((rd_T38 l0 0).f1) x3_2).length : Int) then (if (rd (rd_L1 ((rd_T38 l0 0).f1) (wrap64 (x3_2 - 1))) 0) ≥ (rd (rd_L1 ((rd_T38 l0 0).f1) x3_2) 0) then (some false) else (if 1 < ((rd_L1 ((rd_T38 l0 0).f1) (wrap64 (x3_2 - 1))).length : Int) then (if 1 < ((rd_L1 ((rd_T38 l0 0).f1) x3_2).length : Int) then (if (rd (rd_L1 ((rd_T38 l0 0).f1) (wrap64 (x3_2 - 1))) 1) < (rd (rd_L1 ((rd_T38 l0 0).f1) x3_2) 1) then (some false) else (spec_l08Ok.l0 kj10 l0 (wrap64 (x3_2 + 1)))) else (none)) else (none))) else (none)) else (none)) else (none)) else (none)) else (none)) else (spec_l08Ok.l0 kj10 l0 (wrap64 (x3_2 + 1))))) = some r := by rw [if_neg (show ¬ (false = true) by decide)] at H; exact H
                        clear H
                        have H := H1
                        clear H1
                        by_cases c19 : x3_2 = 0
                        · rw [if_pos c19] at H
                          have c19b0 : (x3_2 == 0) = true := beq_iff_eq.mpr c19
                          have c19b1 : (x3_2 != 0) = false := bne_eq_false_iff_eq.mpr c19
                          clear c19
                          by_cases c20 : 0 < ((rd_L1 ((rd_T38 l0 0).f1) x3_2).length : Int)
                          · rw [if_pos c20] at H
                            have c20b0 : decide (0 < ((rd_L1 ((rd_T38 l0 0).f1) x3_2).length : Int)) = true := decide_eq_true c20
                            have c20b1 : decide (0 < (rd_L1 ((rd_T38 l0 0).f1) x3_2).length) = true := decide_eq_true (by omega)
                            clear c20
                            by_cases c21 : (rd (rd_L1 ((rd_T38 l0 0).f1) x3_2) 0) = 0
                            · rw [if_pos c21] at H
                              have c21b0 : ((rd (rd_L1 ((rd_T38 l0 0).f1) x3_2) 0) == 0) = true := beq_iff_eq.mpr c21
                              have c21b1 : ((rd (rd_L1 ((rd_T38 l0 0).f1) x3_2) 0) != 0) = false := bne_eq_false_iff_eq.mpr c21
                              clear c21
                              by_cases c22 : x3_2 > 0
                              · exact absurd (beq_iff_eq.mp c19b0) (by omega)
                              · rw [if_neg c22] at H
                                have c22b0 : decide (0 < x3_2) = false := decide_eq_false c22
                                clear c22
                                have H' := Aside0.mk H
                                clear H
                                have p122 : 0 ≤ (0 : Int) := (by omega)
                                have q122 : 0 < ((rd_L1 ((rd_T38 l0 0).f1) x3_2).length : Int) := of_decide_eq_true (by first | (with_reducible assumption) | assumption)
                                obtain ⟨ad122, e122, hx122_0⟩ := Kd.at_int HR117_0.out 0 p122 q122
                                cases e122
                                have qi122 : (0 < (rd_L1 ((rd_T38 l0 0).f1) x3_2).length) = True := eq_true (by omega)
                                (try rw [show ((0 : Int)).toNat = 0 from rfl] at hx122_0)
                                (try rw [Addr.add_zero'] at hx122_0)
                                replace p122 := eq_true p122
                                replace q122 := eq_true q122
                                go_wp2
                                repeat (go_quiet (fail); try go_wp2)
                                go_roundg kj10
                                case measure => have := HJ1.out; have := HK2.out; have := HJ10.out; omega
                                case rel => exact ⟨(wrap64 (x3_2 + 1)), (by first | rfl | (simp; done) | (simp [*]; done)), H', ⟨by have := HJ1.out; have := HK2.out; have := HJ10.out; omega⟩, by repeat (first | exact Drawn0.refl _ | apply Drawn0.step)⟩
                            · rw [if_neg c21] at H
                              have c21b0 : ((rd (rd_L1 ((rd_T38 l0 0).f1) x3_2) 0) == 0) = false := beq_eq_false_iff_ne.mpr c21
                              have c21b1 : ((rd (rd_L1 ((rd_T38 l0 0).f1) x3_2) 0) != 0) = true := bne_iff_ne.mpr c21
                              obtain rfl := Option.some.inj H
                              have p122 : 0 ≤ (0 : Int) := (by omega)
                              have q122 : 0 < ((rd_L1 ((rd_T38 l0 0).f1) x3_2).length : Int) := of_decide_eq_true (by first | (with_reducible assumption) | assumption)
                              obtain ⟨ad122, e122, hx122_0⟩ := Kd.at_int HR117_0.out 0 p122 q122
                              cases e122
                              have qi122 : (0 < (rd_L1 ((rd_T38 l0 0).f1) x3_2).length) = True := eq_true (by omega)
                              (try rw [show ((0 : Int)).toNat = 0 from rfl] at hx122_0)
                              (try rw [Addr.add_zero'] at hx122_0)
                              replace p122 := eq_true p122
                              replace q122 := eq_true q122
                              go_wp2
                              repeat (go_quiet (fail); try go_wp2)
                              go_ret
                              exact ⟨by first | rfl | (simp; done) | (simp [*]; done), by repeat (first | exact Drawn0.refl _ | apply Drawn0.step)⟩
                          · rw [if_neg c20] at H
                            exact absurd H (by simp)
                        · rw [if_neg c19] at H
                          have c19b0 : (x3_2 == 0) = false := beq_eq_false_iff_ne.mpr c19
                          have c19b1 : (x3_2 != 0) = true := bne_iff_ne.mpr c19
                          by_cases c32 : x3_2 > 0
                          · rw [if_pos c32] at H
                            have c32b0 : decide (0 < x3_2) = true := decide_eq_true c32
                            clear c32
                            by_cases c33 : 0 < (l0.length : Int)
                            · rw [if_pos c33] at H
                              have c33b0 : decide (0 < (l0.length : Int)) = true := decide_eq_true c33
                              have c33b1 : decide (0 < l0.length) = true := decide_eq_true (by omega)
                              clear c33
                              obtain ⟨ji34, hji34⟩ : ∃ j_ : Int, (wrap64 (x3_2 - 1)) = j_ := ⟨_, rfl⟩
                              replace H : (if 0 ≤ (ji34) then (if (ji34) < (((rd_T38 l0 0).f1).length : Int) then (if 0 < ((rd_L1 ((rd_T38 l0 0).f1) (ji34)).length : Int) then (if 0 < ((rd_L1 ((rd_T38 l0 0).f1) x3_2).length : Int) then (if (rd (rd_L1 ((rd_T38 l0 0).f1) (ji34)) 0) ≥ (rd (rd_L1 ((rd_T38 l0 0).f1) x3_2) 0) then (some false) else (if 1 < ((rd_L1 ((rd_T38 l0 0).f1) (ji34)).length : Int) then (if 1 < ((rd_L1 ((rd_T38 l0 0).f1) x3_2).length : Int) then (if (rd (rd_L1 ((rd_T38 l0 0).f1) (ji34)) 1) < (rd (rd_L1 ((rd_T38 l0 0).f1) x3_2) 1) then (some false) else (spec_l08Ok.l0 kj10 l0 (wrap64 (x3_2 + 1)))) else (none)) else (none))) else (none)) else (none)) else (none)) else (none)) = some r := by first | (rw [hji34] at H; exact H) | (simp only [hji34] at H ⊢; exact H)
                              have hji34w : (IntKind.i64.wrap (x3_2 - 1)) = ji34 := (i64_w _).trans hji34
                              by_cases c35 : 0 ≤ (ji34)
                              · rw [if_pos c35] at H
                                have c35b0 : decide (0 ≤ (ji34)) = true := decide_eq_true c35
                                clear c35
                                by_cases c36 : (ji34) < (((rd_T38 l0 0).f1).length : Int)
                                · rw [if_pos c36] at H
                                  have c36b0 : decide ((ji34) < (((rd_T38 l0 0).f1).length : Int)) = true := decide_eq_true c36
                                  clear c36
                                  by_cases c37 : 0 < ((rd_L1 ((rd_T38 l0 0).f1) (ji34)).length : Int)
                                  · rw [if_pos c37] at H
                                    have c37b0 : decide (0 < ((rd_L1 ((rd_T38 l0 0).f1) (ji34)).length : Int)) = true := decide_eq_true c37
                                    have c37b1 : decide (0 < (rd_L1 ((rd_T38 l0 0).f1) (ji34)).length) = true := decide_eq_true (by omega)
                                    clear c37
                                    by_cases c38 : 0 < ((rd_L1 ((rd_T38 l0 0).f1) x3_2).length : Int)
                                    · rw [if_pos c38] at H
                                      have c38b0 : decide (0 < ((rd_L1 ((rd_T38 l0 0).f1) x3_2).length : Int)) = true := decide_eq_true c38
                                      have c38b1 : decide (0 < (rd_L1 ((rd_T38 l0 0).f1) x3_2).length) = true := decide_eq_true (by omega)
                                      clear c38
                                      by_cases c39 : (rd (rd_L1 ((rd_T38 l0 0).f1) (ji34)) 0) ≥ (rd (rd_L1 ((rd_T38 l0 0).f1) x3_2) 0)
                                      · rw [if_pos c39] at H
                                        have c39b0 : decide ((rd (rd_L1 ((rd_T38 l0 0).f1) x3_2) 0) ≤ (rd (rd_L1 ((rd_T38 l0 0).f1) (ji34)) 0)) = true := decide_eq_true c39
                                        clear c39
                                        obtain rfl := Option.some.inj H
                                        have p131 : 0 ≤ (0 : Int) := (by omega)
                                        have q131 : 0 < (l0.length : Int) := of_decide_eq_true (by first | (with_reducible assumption) | assumption)
                                        obtain ⟨ad131, A131_1, c131_1, e131, hx131_0, hx131_1, hl131_1, hi131_1⟩ := at_T38 HR0.out 0 p131 q131
                                        obtain rfl : ad115 = ad131 := (by injection e131)
                                        have qi131 : (0 < l0.length) = True := eq_true (by omega)
                                        (try rw [show ((0 : Int)).toNat = 0 from rfl] at hx131_0)
                                        (try rw [show 0 * 2 = 0 from rfl] at hx131_0)
                                        (try rw [Addr.add_zero'] at hx131_0)
                                        (try rw [show ((0 : Int)).toNat = 0 from rfl] at hx131_1)
                                        (try rw [show 0 * 2 = 0 from rfl] at hx131_1)
                                        (try rw [Addr.add_zero'] at hx131_1)
                                        have HR131_1 := Aside0.mk hi131_1
                                        have HC131_1 := Aside0.mk hl131_1
                                        clear hi131_1 hl131_1
                                        replace p131 := eq_true p131
                                        replace q131 := eq_true q131
                                        have p132 : 0 ≤ ((ji34) : Int) := of_decide_eq_true (by first | (with_reducible assumption) | assumption)
                                        have q132 : (ji34) < (((rd_T38 l0 0).f1).length : Int) := of_decide_eq_true (by first | (with_reducible assumption) | assumption)
                                        obtain ⟨ad132, A132_0, c132_0, e132, hx132_0, hl132_0, hi132_0⟩ := at_L1 HR131_1.out (ji34) p132 q132
                                        cases e132
                                        have HR132_0 := Aside0.mk hi132_0
                                        have HC132_0 := Aside0.mk hl132_0
                                        clear hi132_0 hl132_0
                                        replace p132 := eq_true p132
                                        replace q132 := eq_true q132
                                        have p133 : 0 ≤ (0 : Int) := (by omega)
                                        have q133 : 0 < ((rd_L1 ((rd_T38 l0 0).f1) (ji34)).length : Int) := of_decide_eq_true (by first | (with_reducible assumption) | assumption)
                                        obtain ⟨ad133, e133, hx133_0⟩ := Kd.at_int HR132_0.out 0 p133 q133
                                        cases e133
                                        have qi133 : (0 < (rd_L1 ((rd_T38 l0 0).f1) (ji34)).length) = True := eq_true (by omega)
                                        (try rw [show ((0 : Int)).toNat = 0 from rfl] at hx133_0)
                                        (try rw [Addr.add_zero'] at hx133_0)
                                        replace p133 := eq_true p133
                                        replace q133 := eq_true q133
                                        have p134 : 0 ≤ (0 : Int) := (by omega)
                                        have q134 : 0 < ((rd_L1 ((rd_T38 l0 0).f1) x3_2).length : Int) := of_decide_eq_true (by first | (with_reducible assumption) | assumption)
                                        obtain ⟨ad134, e134, hx134_0⟩ := Kd.at_int HR117_0.out 0 p134 q134
                                        cases e134
                                        have qi134 : (0 < (rd_L1 ((rd_T38 l0 0).f1) x3_2).length) = True := eq_true (by omega)
                                        (try rw [show ((0 : Int)).toNat = 0 from rfl] at hx134_0)
                                        (try rw [Addr.add_zero'] at hx134_0)
                                        replace p134 := eq_true p134
                                        replace q134 := eq_true q134
                                        go_wp2
                                        repeat (go_quiet (fail); try go_wp2)
                                        go_ret
                                        exact ⟨by first | rfl | (simp; done) | (simp only [← hji34] <;> (first | rfl | simp)) | (simp [*]; done), by repeat (first | exact Drawn0.refl _ | apply Drawn0.step)⟩
                                      · rw [if_neg c39] at H
                                        have c39b0 : decide ((rd (rd_L1 ((rd_T38 l0 0).f1) x3_2) 0) ≤ (rd (rd_L1 ((rd_T38 l0 0).f1) (ji34)) 0)) = false := decide_eq_false c39
                                        clear c39
                                        by_cases c40 : 1 < ((rd_L1 ((rd_T38 l0 0).f1) (ji34)).length : Int)
                                        · rw [if_pos c40] at H
                                          have c40b0 : decide (1 < ((rd_L1 ((rd_T38 l0 0).f1) (ji34)).length : Int)) = true := decide_eq_true c40
                                          have c40b1 : decide (1 < (rd_L1 ((rd_T38 l0 0).f1) (ji34)).length) = true := decide_eq_true (by omega)
                                          clear c40
                                          by_cases c41 : 1 < ((rd_L1 ((rd_T38 l0 0).f1) x3_2).length : Int)
                                          · rw [if_pos c41] at H
                                            have c41b0 : decide (1 < ((rd_L1 ((rd_T38 l0 0).f1) x3_2).length : Int)) = true := decide_eq_true c41
                                            have c41b1 : decide (1 < (rd_L1 ((rd_T38 l0 0).f1) x3_2).length) = true := decide_eq_true (by omega)
                                            clear c41
                                            by_cases c42 : (rd (rd_L1 ((rd_T38 l0 0).f1) (ji34)) 1) < (rd (rd_L1 ((rd_T38 l0 0).f1) x3_2) 1)
                                            · rw [if_pos c42] at H
                                              have c42b0 : decide ((rd (rd_L1 ((rd_T38 l0 0).f1) (ji34)) 1) < (rd (rd_L1 ((rd_T38 l0 0).f1) x3_2) 1)) = true := decide_eq_true c42
                                              clear c42
                                              obtain rfl := Option.some.inj H
                                              have p131 : 0 ≤ (0 : Int) := (by omega)
                                              have q131 : 0 < (l0.length : Int) := of_decide_eq_true (by first | (with_reducible assumption) | assumption)
                                              obtain ⟨ad131, A131_1, c131_1, e131, hx131_0, hx131_1, hl131_1, hi131_1⟩ := at_T38 HR0.out 0 p131 q131
                                              obtain rfl : ad115 = ad131 := (by injection e131)
                                              have qi131 : (0 < l0.length) = True := eq_true (by omega)
                                              (try rw [show ((0 : Int)).toNat = 0 from rfl] at hx131_0)
                                              (try rw [show 0 * 2 = 0 from rfl] at hx131_0)
                                              (try rw [Addr.add_zero'] at hx131_0)
                                              (try rw [show ((0 : Int)).toNat = 0 from rfl] at hx131_1)
                                              (try rw [show 0 * 2 = 0 from rfl] at hx131_1)
                                              (try rw [Addr.add_zero'] at hx131_1)
                                              have HR131_1 := Aside0.mk hi131_1
                                              have HC131_1 := Aside0.mk hl131_1
                                              clear hi131_1 hl131_1
                                              replace p131 := eq_true p131
                                              replace q131 := eq_true q131
                                              have p132 : 0 ≤ ((ji34) : Int) := of_decide_eq_true (by first | (with_reducible assumption) | assumption)
                                              have q132 : (ji34) < (((rd_T38 l0 0).f1).length : Int) := of_decide_eq_true (by first | (with_reducible assumption) | assumption)
                                              obtain ⟨ad132, A132_0, c132_0, e132, hx132_0, hl132_0, hi132_0⟩ := at_L1 HR131_1.out (ji34) p132 q132
                                              cases e132
                                              have HR132_0 := Aside0.mk hi132_0
                                              have HC132_0 := Aside0.mk hl132_0
                                              clear hi132_0 hl132_0
                                              replace p132 := eq_true p132
                                              replace q132 := eq_true q132
                                              have p133 : 0 ≤ (0 : Int) := (by omega)
                                              have q133 : 0 < ((rd_L1 ((rd_T38 l0 0).f1) (ji34)).length : Int) := of_decide_eq_true (by first | (with_reducible assumption) | assumption)
                                              obtain ⟨ad133, e133, hx133_0⟩ := Kd.at_int HR132_0.out 0 p133 q133
                                              cases e133
                                              have qi133 : (0 < (rd_L1 ((rd_T38 l0 0).f1) (ji34)).length) = True := eq_true (by omega)
                                              (try rw [show ((0 : Int)).toNat = 0 from rfl] at hx133_0)
                                              (try rw [Addr.add_zero'] at hx133_0)
                                              replace p133 := eq_true p133
                                              replace q133 := eq_true q133
                                              have p134 : 0 ≤ (0 : Int) := (by omega)
                                              have q134 : 0 < ((rd_L1 ((rd_T38 l0 0).f1) x3_2).length : Int) := of_decide_eq_true (by first | (with_reducible assumption) | assumption)
                                              obtain ⟨ad134, e134, hx134_0⟩ := Kd.at_int HR117_0.out 0 p134 q134
                                              cases e134
                                              have qi134 : (0 < (rd_L1 ((rd_T38 l0 0).f1) x3_2).length) = True := eq_true (by omega)
                                              (try rw [show ((0 : Int)).toNat = 0 from rfl] at hx134_0)
                                              (try rw [Addr.add_zero'] at hx134_0)
                                              replace p134 := eq_true p134
                                              replace q134 := eq_true q134
                                              have p135 : 0 ≤ (0 : Int) := (by omega)
                                              have q135 : 0 < (l0.length : Int) := of_decide_eq_true (by first | (with_reducible assumption) | assumption)
                                              obtain ⟨ad135, A135_1, c135_1, e135, hx135_0, hx135_1, hl135_1, hi135_1⟩ := at_T38 HR0.out 0 p135 q135
                                              obtain rfl : ad115 = ad135 := (by injection e135)
                                              have qi135 : (0 < l0.length) = True := eq_true (by omega)
                                              (try rw [show ((0 : Int)).toNat = 0 from rfl] at hx135_0)
                                              (try rw [show 0 * 2 = 0 from rfl] at hx135_0)
                                              (try rw [Addr.add_zero'] at hx135_0)
                                              (try rw [show ((0 : Int)).toNat = 0 from rfl] at hx135_1)
                                              (try rw [show 0 * 2 = 0 from rfl] at hx135_1)
                                              (try rw [Addr.add_zero'] at hx135_1)
                                              have HR135_1 := Aside0.mk hi135_1
                                              have HC135_1 := Aside0.mk hl135_1
                                              clear hi135_1 hl135_1
                                              replace p135 := eq_true p135
                                              replace q135 := eq_true q135
                                              have ea_ := Option.some.inj (hx131_1.symm.trans hx135_1)
                                              injection ea_ with ea_ en_ ec_
                                              subst ea_
                                              subst ec_
                                              clear en_
                                              have p136 : 0 ≤ ((ji34) : Int) := of_decide_eq_true (by first | (with_reducible assumption) | assumption)
                                              have q136 : (ji34) < (((rd_T38 l0 0).f1).length : Int) := of_decide_eq_true (by first | (with_reducible assumption) | assumption)
                                              obtain ⟨ad136, A136_0, c136_0, e136, hx136_0, hl136_0, hi136_0⟩ := at_L1 HR135_1.out (ji34) p136 q136
                                              cases e136
                                              have HR136_0 := Aside0.mk hi136_0
                                              have HC136_0 := Aside0.mk hl136_0
                                              clear hi136_0 hl136_0
                                              (try (have ea_ := Option.some.inj (hx132_0.symm.trans hx136_0); injection ea_ with ea_ en_ ec_; subst ea_; subst ec_; clear en_))
                                              replace p136 := eq_true p136
                                              replace q136 := eq_true q136
                                              have p137 : 0 ≤ (1 : Int) := (by omega)
                                              have q137 : 1 < ((rd_L1 ((rd_T38 l0 0).f1) (ji34)).length : Int) := of_decide_eq_true (by first | (with_reducible assumption) | assumption)
                                              obtain ⟨ad137, e137, hx137_0⟩ := Kd.at_int HR136_0.out 1 p137 q137
                                              cases e137
                                              (try simp only [show (1 : Int).toNat = 1 from rfl, Nat.reduceMul, Nat.reduceEqDiff, Go.Addr.add, ↓reduceIte] at hx137_0)
                                              have qi137 : (1 < (rd_L1 ((rd_T38 l0 0).f1) (ji34)).length) = True := eq_true (by omega)
                                              (try rw [show ((1 : Int)).toNat = 1 from rfl] at hx137_0)
                                              replace p137 := eq_true p137
                                              replace q137 := eq_true q137
                                              have p138 : 0 ≤ (1 : Int) := (by omega)
                                              have q138 : 1 < ((rd_L1 ((rd_T38 l0 0).f1) x3_2).length : Int) := of_decide_eq_true (by first | (with_reducible assumption) | assumption)
                                              obtain ⟨ad138, e138, hx138_0⟩ := Kd.at_int HR117_0.out 1 p138 q138
                                              obtain rfl : ad134 = ad138 := (by injection e138)
                                              (try simp only [show (1 : Int).toNat = 1 from rfl, Nat.reduceMul, Nat.reduceEqDiff, Go.Addr.add, ↓reduceIte] at hx138_0)
                                              have qi138 : (1 < (rd_L1 ((rd_T38 l0 0).f1) x3_2).length) = True := eq_true (by omega)
                                              (try rw [show ((1 : Int)).toNat = 1 from rfl] at hx138_0)
                                              replace p138 := eq_true p138
                                              replace q138 := eq_true q138
                                              go_wp2
                                              repeat (go_quiet (fail); try go_wp2)
                                              go_ret
                                              exact ⟨by first | rfl | (simp; done) | (simp only [← hji34] <;> (first | rfl | simp)) | (simp [*]; done), by repeat (first | exact Drawn0.refl _ | apply Drawn0.step)⟩
                                            · rw [if_neg c42] at H
                                              have c42b0 : decide ((rd (rd_L1 ((rd_T38 l0 0).f1) (ji34)) 1) < (rd (rd_L1 ((rd_T38 l0 0).f1) x3_2) 1)) = false := decide_eq_false c42
                                              clear c42
                                              have H' := Aside0.mk H
                                              clear H
                                              have p131 : 0 ≤ (0 : Int) := (by omega)
                                              have q131 : 0 < (l0.length : Int) := of_decide_eq_true (by first | (with_reducible assumption) | assumption)
                                              obtain ⟨ad131, A131_1, c131_1, e131, hx131_0, hx131_1, hl131_1, hi131_1⟩ := at_T38 HR0.out 0 p131 q131
                                              obtain rfl : ad115 = ad131 := (by injection e131)
                                              have qi131 : (0 < l0.length) = True := eq_true (by omega)
                                              (try rw [show ((0 : Int)).toNat = 0 from rfl] at hx131_0)
                                              (try rw [show 0 * 2 = 0 from rfl] at hx131_0)
                                              (try rw [Addr.add_zero'] at hx131_0)
                                              (try rw [show ((0 : Int)).toNat = 0 from rfl] at hx131_1)
                                              (try rw [show 0 * 2 = 0 from rfl] at hx131_1)
                                              (try rw [Addr.add_zero'] at hx131_1)
                                              have HR131_1 := Aside0.mk hi131_1
                                              have HC131_1 := Aside0.mk hl131_1
                                              clear hi131_1 hl131_1
                                              replace p131 := eq_true p131
                                              replace q131 := eq_true q131
                                              have p132 : 0 ≤ ((ji34) : Int) := of_decide_eq_true (by first | (with_reducible assumption) | assumption)
                                              have q132 : (ji34) < (((rd_T38 l0 0).f1).length : Int) := of_decide_eq_true (by first | (with_reducible assumption) | assumption)
                                              obtain ⟨ad132, A132_0, c132_0, e132, hx132_0, hl132_0, hi132_0⟩ := at_L1 HR131_1.out (ji34) p132 q132
                                              cases e132
                                              have HR132_0 := Aside0.mk hi132_0
                                              have HC132_0 := Aside0.mk hl132_0
                                              clear hi132_0 hl132_0
                                              replace p132 := eq_true p132
                                              replace q132 := eq_true q132
                                              have p133 : 0 ≤ (0 : Int) := (by omega)
                                              have q133 : 0 < ((rd_L1 ((rd_T38 l0 0).f1) (ji34)).length : Int) := of_decide_eq_true (by first | (with_reducible assumption) | assumption)
                                              obtain ⟨ad133, e133, hx133_0⟩ := Kd.at_int HR132_0.out 0 p133 q133
                                              cases e133
                                              have qi133 : (0 < (rd_L1 ((rd_T38 l0 0).f1) (ji34)).length) = True := eq_true (by omega)
                                              (try rw [show ((0 : Int)).toNat = 0 from rfl] at hx133_0)
                                              (try rw [Addr.add_zero'] at hx133_0)
                                              replace p133 := eq_true p133
                                              replace q133 := eq_true q133
                                              have p134 : 0 ≤ (0 : Int) := (by omega)
                                              have q134 : 0 < ((rd_L1 ((rd_T38 l0 0).f1) x3_2).length : Int) := of_decide_eq_true (by first | (with_reducible assumption) | assumption)
                                              obtain ⟨ad134, e134, hx134_0⟩ := Kd.at_int HR117_0.out 0 p134 q134
                                              cases e134
                                              have qi134 : (0 < (rd_L1 ((rd_T38 l0 0).f1) x3_2).length) = True := eq_true (by omega)
                                              (try rw [show ((0 : Int)).toNat = 0 from rfl] at hx134_0)
                                              (try rw [Addr.add_zero'] at hx134_0)
                                              replace p134 := eq_true p134
                                              replace q134 := eq_true q134
                                              have p135 : 0 ≤ (0 : Int) := (by omega)
                                              have q135 : 0 < (l0.length : Int) := of_decide_eq_true (by first | (with_reducible assumption) | assumption)
                                              obtain ⟨ad135, A135_1, c135_1, e135, hx135_0, hx135_1, hl135_1, hi135_1⟩ := at_T38 HR0.out 0 p135 q135
                                              obtain rfl : ad115 = ad135 := (by injection e135)
                                              have qi135 : (0 < l0.length) = True := eq_true (by omega)
                                              (try rw [show ((0 : Int)).toNat = 0 from rfl] at hx135_0)
                                              (try rw [show 0 * 2 = 0 from rfl] at hx135_0)
                                              (try rw [Addr.add_zero'] at hx135_0)
                                              (try rw [show ((0 : Int)).toNat = 0 from rfl] at hx135_1)
                                              (try rw [show 0 * 2 = 0 from rfl] at hx135_1)
                                              (try rw [Addr.add_zero'] at hx135_1)
                                              have HR135_1 := Aside0.mk hi135_1
                                              have HC135_1 := Aside0.mk hl135_1
                                              clear hi135_1 hl135_1
                                              replace p135 := eq_true p135
                                              replace q135 := eq_true q135
                                              have ea_ := Option.some.inj (hx131_1.symm.trans hx135_1)
                                              injection ea_ with ea_ en_ ec_
                                              subst ea_
                                              subst ec_
                                              clear en_
                                              have p136 : 0 ≤ ((ji34) : Int) := of_decide_eq_true (by first | (with_reducible assumption) | assumption)
                                              have q136 : (ji34) < (((rd_T38 l0 0).f1).length : Int) := of_decide_eq_true (by first | (with_reducible assumption) | assumption)
                                              obtain ⟨ad136, A136_0, c136_0, e136, hx136_0, hl136_0, hi136_0⟩ := at_L1 HR135_1.out (ji34) p136 q136
                                              cases e136
                                              have HR136_0 := Aside0.mk hi136_0
                                              have HC136_0 := Aside0.mk hl136_0
                                              clear hi136_0 hl136_0
                                              (try (have ea_ := Option.some.inj (hx132_0.symm.trans hx136_0); injection ea_ with ea_ en_ ec_; subst ea_; subst ec_; clear en_))
                                              replace p136 := eq_true p136
                                              replace q136 := eq_true q136
                                              have p137 : 0 ≤ (1 : Int) := (by omega)
                                              have q137 : 1 < ((rd_L1 ((rd_T38 l0 0).f1) (ji34)).length : Int) := of_decide_eq_true (by first | (with_reducible assumption) | assumption)
                                              obtain ⟨ad137, e137, hx137_0⟩ := Kd.at_int HR136_0.out 1 p137 q137
                                              cases e137
                                              (try simp only [show (1 : Int).toNat = 1 from rfl, Nat.reduceMul, Nat.reduceEqDiff, Go.Addr.add, ↓reduceIte] at hx137_0)
                                              have qi137 : (1 < (rd_L1 ((rd_T38 l0 0).f1) (ji34)).length) = True := eq_true (by omega)
                                              (try rw [show ((1 : Int)).toNat = 1 from rfl] at hx137_0)
                                              replace p137 := eq_true p137
                                              replace q137 := eq_true q137
                                              have p138 : 0 ≤ (1 : Int) := (by omega)
                                              have q138 : 1 < ((rd_L1 ((rd_T38 l0 0).f1) x3_2).length : Int) := of_decide_eq_true (by first | (with_reducible assumption) | assumption)
                                              obtain ⟨ad138, e138, hx138_0⟩ := Kd.at_int HR117_0.out 1 p138 q138
                                              obtain rfl : ad134 = ad138 := (by injection e138)
                                              (try simp only [show (1 : Int).toNat = 1 from rfl, Nat.reduceMul, Nat.reduceEqDiff, Go.Addr.add, ↓reduceIte] at hx138_0)
                                              have qi138 : (1 < (rd_L1 ((rd_T38 l0 0).f1) x3_2).length) = True := eq_true (by omega)
                                              (try rw [show ((1 : Int)).toNat = 1 from rfl] at hx138_0)
                                              replace p138 := eq_true p138
                                              replace q138 := eq_true q138
                                              go_wp2
                                              repeat (go_quiet (fail); try go_wp2)
                                              go_roundg kj10
                                              case measure => have := HJ1.out; have := HK2.out; have := HJ10.out; omega
                                              case rel => exact ⟨(wrap64 (x3_2 + 1)), (by first | rfl | (simp; done) | (simp [*]; done)), H', ⟨by have := HJ1.out; have := HK2.out; have := HJ10.out; omega⟩, by repeat (first | exact Drawn0.refl _ | apply Drawn0.step)⟩
                                          · rw [if_neg c41] at H
                                            exact absurd H (by simp)
                                        · rw [if_neg c40] at H
                                          exact absurd H (by simp)
                                    · rw [if_neg c38] at H
                                      exact absurd H (by simp)
                                  · rw [if_neg c37] at H
                                    exact absurd H (by simp)
                                · rw [if_neg c36] at H
                                  exact absurd H (by simp)
                              · rw [if_neg c35] at H
                                exact absurd H (by simp)
                            · rw [if_neg c33] at H
                              exact absurd H (by simp)
                          · rw [if_neg c32] at H
                            have c32b0 : decide (0 < x3_2) = false := decide_eq_false c32
                            clear c32
                            have H' := Aside0.mk H
                            clear H
                            go_wp2
                            repeat (go_quiet (fail); try go_wp2)
                            go_roundg kj10
                            case measure => have := HJ1.out; have := HK2.out; have := HJ10.out; omega
                            case rel => exact ⟨(wrap64 (x3_2 + 1)), (by first | rfl | (simp; done) | (simp [*]; done)), H', ⟨by have := HJ1.out; have := HK2.out; have := HJ10.out; omega⟩, by repeat (first | exact Drawn0.refl _ | apply Drawn0.step)⟩
                · rw [if_neg c10] at H
                  exact absurd H (by simp)
              · rw [if_neg c9] at H
                have c9b0 : decide (x3_2 < (((rd_T38 l0 0).f1).length : Int)) = false := decide_eq_false c9
                clear c9
                obtain rfl := Option.some.inj H
                have p115 : 0 ≤ (0 : Int) := (by omega)
                have q115 : 0 < (l0.length : Int) := of_decide_eq_true (by first | (with_reducible assumption) | assumption)
                obtain ⟨ad115, A115_1, c115_1, e115, hx115_0, hx115_1, hl115_1, hi115_1⟩ := at_T38 HR0.out 0 p115 q115
                cases e115
                have qi115 : (0 < l0.length) = True := eq_true (by omega)
                (try rw [show ((0 : Int)).toNat = 0 from rfl] at hx115_0)
                (try rw [show 0 * 2 = 0 from rfl] at hx115_0)
                (try rw [Addr.add_zero'] at hx115_0)
                (try rw [show ((0 : Int)).toNat = 0 from rfl] at hx115_1)
                (try rw [show 0 * 2 = 0 from rfl] at hx115_1)
                (try rw [Addr.add_zero'] at hx115_1)
                have HR115_1 := Aside0.mk hi115_1
                have HC115_1 := Aside0.mk hl115_1
                clear hi115_1 hl115_1
                replace p115 := eq_true p115
                replace q115 := eq_true q115
                go_wp2
                repeat (go_quiet (fail); try go_wp2)
                go_ret
                exact ⟨by first | rfl | (simp; done) | (simp [*]; done), by repeat (first | exact Drawn0.refl _ | apply Drawn0.step)⟩
            · rw [if_neg c8] at H
              exact absurd H (by simp)

end Go.Proofs.Ytndbgkcjccejdaa.PFnExactCheapestPumps
