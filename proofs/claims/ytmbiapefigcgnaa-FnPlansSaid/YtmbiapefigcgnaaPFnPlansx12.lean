-- written by a program of this session (mkp.py) out of the translation; Lean checks it. -- squeezed
import Derived.Shelf.Abstract
import Derived.Deep.RegionHeld3
import Derived.Test.YtmbiapefigcgnaaPFnPlansx0
import Derived.Test.YtmbiapefigcgnaaPFnPlansx4
import Derived.Test.YtmbiapefigcgnaaPFnPlansx8
namespace Go.Proofs.Ytmbiapefigcgnaa.PFnPlans
open Go.RowKit Go.Proofs.YtmbiapefigcgnaaW.PrintWords Go.Proofs.YtmbiapefigcgnaaW.PrintLast Go.Proofs.YtmbiapefigcgnaaW.PrintMore
attribute [local go_sem] bin_leq bin_gtr bin_geq max2_int min2_int max_two min_two max_three min_three max_four min_four   -- for this text's walks alone
set_option linter.unusedVariables false
set_option linter.unusedSimpArgs false

/-! ### impl_costOf: function 51 -/
def impl_costOf.l0 : Nat → List (S34) → Int → List Int → Int → Int → Option (Int)
 | 0, _, _, _, _, _ => none
 | k + 1, x0, x5, x8, x9, x10 => if x10 < x9 then (if 0 ≤ x10 then (if x10 < (x8.length : Int) then (if 0 ≤ (rd x8 x10) then (if (rd x8 x10) < (x0.length : Int) then (impl_costOf.l0 k x0 (wrap64 (x5 + ((rd_T34 x0 (rd x8 x10)).f1))) x8 x9 (wrap64 (x10 + 1))) else (none)) else (none)) else (none)) else (none)) else (some x5)
def impl_costOf.f (k : Nat) (l0 : List (S34)) (l1 : List Int) : Option (Int) := impl_costOf.l0 k l0 0 l1 (l1.length : Int) 0
theorem impl_costOf.mono_l : ∀ k, (∀ y0 y1 y2 y3 y4, LeO (impl_costOf.l0 k y0 y1 y2 y3 y4) (impl_costOf.l0 (k + 1) y0 y1 y2 y3 y4))
 | 0 => fun _ _ _ _ _ r h => by simp [impl_costOf.l0] at h
 | k + 1 => by
  have ih0 := impl_costOf.mono_l k
  ·
   intro y0 y1 y2 y3 y4
   unfold impl_costOf.l0
   repeat' first
   | (with_reducible exact ih0 _ _ _ _ _)
   | (with_reducible exact LeO.refl _)
   | (with_reducible exact LeO.none _)
   | (with_reducible refine LeO.ite ?_ ?_)
   | (with_reducible refine LeO.bind ?_ (fun _ => ?_))
   | exact ih0 _ _ _ _ _
   | exact LeO.none _
   | refine LeO.ite ?_ ?_
   | refine LeO.bind ?_ (fun _ => ?_)
theorem impl_costOf.mono : ∀ a0 a1 k, LeO (impl_costOf.f k a0 a1) (impl_costOf.f (k + 1) a0 a1) := by
 intro a0 a1 k
 have ih0 := impl_costOf.mono_l k
 unfold impl_costOf.f
 repeat' first
  | (with_reducible exact ih0 _ _ _ _ _)
  | (with_reducible exact LeO.refl _)
  | (with_reducible exact LeO.none _)
  | (with_reducible refine LeO.ite ?_ ?_)
  | (with_reducible refine LeO.bind ?_ (fun _ => ?_))
  | exact ih0 _ _ _ _ _
  | exact LeO.none _
  | refine LeO.ite ?_ ?_
  | refine LeO.bind ?_ (fun _ => ?_)
set_option maxHeartbeats 8000000 in
set_option maxRecDepth 100000 in
theorem impl_costOf.calls (k : Nat) (A0 : Option Addr) (c0 : Nat) (l0 : List (S34)) (A1 : Option Addr) (c1 : Nat) (l1 : List Int) (r : Int) (w : World) (hr0 : Kd.C k34 w A0 l0.length l0) (hc0 : l0.length ≤ c0) (hr1 : Kd.C (Kd.int .i64) w A1 l1.length l1) (hc1 : l1.length ≤ c1) (h : impl_costOf.f k l0 l1 = some r) :
  Calls Try.prog 51 #[.slice A0 l0.length c0, .slice A1 l1.length c1] w fun e w' => e = .returned (.int .i64 r) ∧ Drawn0 w w' := by
 have HR0 := Aside0.mk hr0
 have HC0 := Aside0.mk hc0
 clear hr0 hc0
 have HR1 := Aside0.mk hr1
 have HC1 := Aside0.mk hc1
 clear hr1 hc1
 have H : (impl_costOf.l0 k l0 0 l1 (l1.length : Int) 0) = some r := h
 clear h
 have H' := Aside0.mk H
 clear H
 go_enter Try.func51, Try.ntmps51
 go_wp2
 go_loopg [5, 10] k (fun kq v5 v10 w' => ∃ (x5_1 : Int) (x10_1 : Int), v5 = .int .i64 x5_1 ∧ v10 = .int .i64 x10_1 ∧ Aside0 (impl_costOf.l0 kq l0 x5_1 l1 (l1.length : Int) x10_1 = some r) ∧ Aside0 (kq ≤ k) ∧ Drawn0 w w')
 case atStart => exact ⟨(0), (0), rs, rs, H', ⟨Nat.le_refl _⟩, dr0⟩
 case round =>
  clear H'
  obtain ⟨x5_1, x10_1, rfl, rfl, HA, HK1, ⟨m1, rfl⟩⟩ := hrel
  cases gk with
  | zero => exact absurd HA.out (by simp [impl_costOf.l0])
  | succ k1 =>
   have H := HA.out
   clear HA
   simp only [impl_costOf.l0] at H
   by_cases c3 : x10_1 < (l1.length : Int)
   ·
    rw [if_pos c3] at H
    have c3b0 : decide (x10_1 < (l1.length : Int)) = true := decide_eq_true c3
    clear c3
    by_cases c4 : 0 ≤ x10_1
    ·
     rw [if_pos c4] at H
     have c4b0 : decide (0 ≤ x10_1) = true := decide_eq_true c4
     clear c4
     by_cases c5 : x10_1 < (l1.length : Int)
     ·
      rw [if_pos c5] at H
      have c5b0 : decide (x10_1 < (l1.length : Int)) = true := decide_eq_true c5
      clear c5
      by_cases c6 : 0 ≤ (rd l1 x10_1)
      ·
       rw [if_pos c6] at H
       have c6b0 : decide (0 ≤ (rd l1 x10_1)) = true := decide_eq_true c6
       clear c6
       by_cases c7 : (rd l1 x10_1) < (l0.length : Int)
       ·
        rw [if_pos c7] at H
        have c7b0 : decide ((rd l1 x10_1) < (l0.length : Int)) = true := decide_eq_true c7
        clear c7
        have H' := Aside0.mk H
        clear H
        have p400 : 0 ≤ (x10_1 : Int) := od
        have q400 : x10_1 < (l1.length : Int) := od
        obtain ⟨ad400, e400, hx400_0⟩ := Kd.at_int HR1.out x10_1 p400 q400
        cases e400
        replace p400 := eq_true p400
        replace q400 := eq_true q400
        have p401 : 0 ≤ ((rd l1 x10_1) : Int) := od
        have q401 : (rd l1 x10_1) < (l0.length : Int) := od
        obtain ⟨ad401, A401_3, c401_3, e401, hx401_0, hx401_1, hx401_2, hx401_3, hl401_3, hi401_3⟩ := at_T34 HR0.out (rd l1 x10_1) p401 q401
        cases e401
        have HR401_3 := Aside0.mk hi401_3
        have HC401_3 := Aside0.mk hl401_3
        clear hi401_3 hl401_3
        replace p401 := eq_true p401
        replace q401 := eq_true q401
        go_wp2
        go_roundg k1
        case measure => have := HK1.out; omega
        case rel => exact ⟨(wrap64 (x5_1 + ((rd_T34 l0 (rd l1 x10_1)).f1))), (wrap64 (x10_1 + 1)), rs, rs, H', ⟨by have := HK1.out; omega⟩, dr0⟩
       ·
        rw [if_neg c7] at H
        exact absurd H (by simp)
      ·
       rw [if_neg c6] at H
       exact absurd H (by simp)
     ·
      rw [if_neg c5] at H
      exact absurd H (by simp)
    ·
     rw [if_neg c4] at H
     exact absurd H (by simp)
   ·
    rw [if_neg c3] at H
    have c3b0 : decide (x10_1 < (l1.length : Int)) = false := decide_eq_false c3
    clear c3
    obtain rfl := Option.some.inj H
    go_wp2
    go_ret
    exact ⟨rs, dr0⟩

/-! ### impl_orNotFound: function 52 -/
def impl_orNotFound.f (a0 : Int) (a1 : Bool) : Option (Int × Int) := if a1 = true then (some (a0, 0)) else (some (0, 3))
set_option maxHeartbeats 8000000 in
set_option maxRecDepth 100000 in
theorem impl_orNotFound.calls (a0 : Int) (a1 : Bool) (r1 : Int) (r2 : Int) (w : World) (h : impl_orNotFound.f a0 a1 = some (r1, r2)) :
  Calls Try.prog 52 #[.int .i64 a0, .bool a1] w fun e w' => e = .returned (.tuple #[.int .i64 r1, .int .i64 r2]) ∧ Drawn0 w w' := by
 have H : (if a1 = true then (some (a0, 0)) else (some (0, 3))) = some (r1, r2) := h
 clear h
 by_cases c3 : a1 = true
 ·
  subst c3
  have H1 : (some (a0, 0)) = some (r1, r2) := by rw [if_pos rfl] at H; exact H
  clear H
  have H := H1
  clear H1
  simp only [Option.some.injEq, Prod.mk.injEq] at H
  obtain ⟨rfl, rfl⟩ := H
  go_enter Try.func52, Try.ntmps52
  go_wp2
  go_ret2
  exact ⟨rs, dr0⟩
 ·
  replace c3 := Bool.eq_false_iff.mpr c3
  subst c3
  have H1 : (some (0, 3)) = some (r1, r2) := by rw [if_neg (show ¬ (false = true) by decide)] at H; exact H
  clear H
  have H := H1
  clear H1
  simp only [Option.some.injEq, Prod.mk.injEq] at H
  obtain ⟨rfl, rfl⟩ := H
  go_enter Try.func52, Try.ntmps52
  go_wp2
  go_ret2
  exact ⟨rs, dr0⟩

-- NOT PRINTED: function 53 (impl_least)

/-! ### impl_PayBackYear: function 15 -/
/-- What stages have gained up to a year: the first i of an order. -/
def gainT (xs : List S34) (l ys : List Int) (y : Int) : Nat → Int
 | 0 => 0
 | i + 1 => wrap64 (gainT xs l ys y i + wrap64 ((rd_T34 xs (rd l (i : Int))).f2 * (if wrap64 (y - rd ys (i : Int)) < 0 then 0 else wrap64 (y - rd ys (i : Int)))))
set_option maxHeartbeats 4000000 in
set_option maxRecDepth 100000 in
theorem payBack_1.calls (y : Int) (A0 : Option Addr) (c0 : Nat) (l0 : List (S34)) (A1 : Option Addr) (c1 : Nat) (l1 : List Int) (A2 : Option Addr) (c2 : Nat) (ys : List Int) (cost : Int) (B1 B0 B2 B3 : Nat) (w : World) (hr0 : Kd.C k34 w A0 l0.length l0) (hr1 : Kd.C (Kd.int .i64) w A1 l1.length l1) (hr2 : Kd.C (Kd.int .i64) w A2 ys.length ys) (hy : ys.length = l1.length) (hi : inB0 l0 l1 = true)
  (h1 : w.cell? ⟨B1, 0, none⟩ = some (.slice A1 l1.length c1)) (h0 : w.cell? ⟨B0, 0, none⟩ = some (.slice A0 l0.length c0)) (h2 : w.cell? ⟨B2, 0, none⟩ = some (.slice A2 ys.length c2)) (h3 : w.cell? ⟨B3, 0, none⟩ = some (.int .i64 cost)) :
  Calls Try.prog 54 #[.int .i64 y, .pointer (some ⟨B1, 0, none⟩), .pointer (some ⟨B0, 0, none⟩), .pointer (some ⟨B2, 0, none⟩), .pointer (some ⟨B3, 0, none⟩)] w fun e w' => e = .returned (.bool (decide (cost ≤ gainT l0 l1 ys y l1.length))) ∧ Below w.heap.size w w' := by
 have hn : l1.length ≤ 9223372036854775807 := by have := hr1.2.1; omega
 have HR0 := Aside0.mk hr0
 have HR1 := Aside0.mk hr1
 have HR2 := Aside0.mk hr2
 have HY := Aside0.mk hy
 have HI := Aside0.mk hi
 have HN := Aside0.mk hn
 clear hr0 hr1 hr2 hy hi hn
 go_enter Try.func54, Try.ntmps54
 go_wp2
 repeat (go_quiet (fail); try go_wp2)
 go_loopg [7, 12] l1.length (fun gg s7 s12 wr => ∃ kk : Nat, s7 = .int .i64 (gainT l0 l1 ys y kk) ∧ s12 = .int .i64 kk ∧ Aside0 (kk ≤ l1.length) ∧ Aside0 (l1.length - kk ≤ gg) ∧ Drawn0 w wr)
 case atStart => exact ⟨0, rfl, rfl, ⟨Nat.zero_le _⟩, ⟨by omega⟩, dr0⟩
 case round =>
  obtain ⟨kk, rfl, rfl, hkk, hg, ⟨m1, rfl⟩⟩ := hrel
  by_cases hlt : kk < l1.length
  ·
   have hltz : decide ((kk : Int) < (l1.length : Int)) = true := decide_eq_true (by omega)
   have hin := inB0_at HI.out (List.getElem_mem hlt)
   have hrd : rd l1 (kk : Int) = l1[kk] := by unfold rd; simp [List.getD_eq_getElem?_getD, hlt]
   rw [← hrd] at hin
   obtain ⟨ad1, e1, hx1⟩ := Kd.at_int HR1.out (kk : Int) (by omega) (by omega)
   obtain ⟨ad2, e2, hx2⟩ := Kd.at_int HR2.out (kk : Int) (by omega) (by have := HY.out; omega)
   obtain ⟨ad0, A3, c3, e0, _, _, hx0, _, _, _⟩ := at_T34 HR0.out (rd l1 (kk : Int)) hin.1 hin.2
   cases e1
   cases e2
   cases e0
   rw [Int.toNat_natCast] at hx1 hx2
   have p0 := eq_true hin.1
   have p1 := eq_true hin.2
   have p2 : ((kk : Int) < (ys.length : Int)) = True := eq_true (by have := HY.out; omega)
   have p3 : ((kk : Int) < (l1.length : Int)) = True := eq_true (by omega)
   have p4 : ((0 : Int) ≤ (kk : Int)) = True := eq_true (by omega)
   clear hin hrd
   by_cases hm : wrap64 (y - rd ys (kk : Int)) < 0
   ·
    have hmz : decide (wrap64 (y - rd ys (kk : Int)) < 0) = true := decide_eq_true hm
    have HG := Aside0.mk (show gainT l0 l1 ys y (kk + 1) = wrap64 (gainT l0 l1 ys y kk) by rw [gainT, if_pos hm, Int.mul_zero, show wrap64 0 = 0 by (unfold wrap64; omega), Int.add_zero])
    go_wp2
    repeat (go_quiet (fail); try go_wp2)
    go_roundg (l1.length - (kk + 1))
    case measure => have := hg.out; omega
    case rel => exact ⟨kk + 1, by rw [HG.out], by rw [show wrap64 ((kk : Int) + 1) = ((kk + 1 : Nat) : Int) by have := HN.out; unfold wrap64; omega], ⟨by omega⟩, ⟨by omega⟩, dr0⟩
   ·
    have hmz : decide (wrap64 (y - rd ys (kk : Int)) < 0) = false := decide_eq_false hm
    have HG := Aside0.mk (show gainT l0 l1 ys y (kk + 1) = wrap64 (gainT l0 l1 ys y kk + wrap64 ((rd_T34 l0 (rd l1 (kk : Int))).f2 * wrap64 (y - rd ys (kk : Int)))) by rw [gainT, if_neg hm])
    go_wp2
    repeat (go_quiet (fail); try go_wp2)
    go_roundg (l1.length - (kk + 1))
    case measure => have := hg.out; omega
    case rel => exact ⟨kk + 1, by rw [HG.out], by rw [show wrap64 ((kk : Int) + 1) = ((kk + 1 : Nat) : Int) by have := HN.out; unfold wrap64; omega], ⟨by omega⟩, ⟨by omega⟩, dr0⟩
  ·
   have hltz : decide ((kk : Int) < (l1.length : Int)) = false := decide_eq_false (by omega)
   have hk : kk = l1.length := by have := hkk.out; omega
   subst hk
   go_wp2
   repeat (go_quiet (fail); try go_wp2)
   go_ret
   exact ⟨rs, (by repeat (first | exact Below.refl _ _ | apply pw_below_drewN))⟩
/-- The least number from n on, of d numbers, that has a property. -/
def leastI (p : Int → Bool) : Nat → Int → Int × Bool
 | 0, _ => (0, false)
 | d + 1, n => if p n = true then (n, true) else leastI p d (n + 1)
set_option maxHeartbeats 4000000 in
set_option maxRecDepth 100000 in
theorem least_in.calls (g : Nat) (lb : Array Value) (p : Int → Bool) (w : World)
  (eg : ∀ args w, (callFunc g args).run Try.prog w = .ok (.enter g args) w)
  (hp : ∀ (W : World) (n : Int), Below w.heap.size w W → Calls Try.prog g (#[.int .i64 n] ++ lb) W fun e w' => e = .returned (.bool (p n)) ∧ Below w.heap.size w w') :
  Calls Try.prog 53 #[.int .i64 1, .int .i64 1000, .func (.func g) #[] lb] w fun e w' => e = .returned (.tuple #[.int .i64 (leastI p 1000 1).1, .bool (leastI p 1000 1).2]) ∧ Below w.heap.size w w' := by
 have HP := Aside0.mk hp
 clear hp
 go_enter Try.func53, Try.ntmps53
 go_wp2
 go_loopg [8] 1000 (fun gg s8 wr => ∃ kk : Nat, s8 = .int .i64 kk ∧ Aside0 (1 ≤ kk ∧ kk ≤ 1001) ∧ Aside0 (1001 - kk ≤ gg) ∧ Aside0 (leastI p 1000 1 = leastI p (1001 - kk) (kk : Int)) ∧ Aside0 (Below w.heap.size w wr))
 case atStart => exact ⟨1, rfl, ⟨by omega⟩, ⟨by omega⟩, ⟨rfl⟩, ⟨Below.refl _ w⟩⟩
 case round =>
  obtain ⟨kk, rfl, hkk, hg, hq, hb⟩ := hrel
  by_cases hlt : kk < 1001
  ·
   have hltz : decide ((kk : Int) ≤ 1000) = true := decide_eq_true (by omega)
   have hcall := HP.out wr (kk : Int) hb.out
   have hq2 : leastI p 1000 1 = if p (kk : Int) = true then ((kk : Int), true) else leastI p (1000 - kk) ((kk : Int) + 1) := by
    rw [hq.out, show 1001 - kk = (1000 - kk) + 1 by omega]
    rfl
   cases hc : p (kk : Int) with
   | true =>
    rw [hc] at hcall hq2
    have hq3 := Aside0.mk hq2
    clear hq2
    go_wp2_with (go_at_fn g; refine hcall.mono ?_; rintro e w' ⟨rfl, hb'⟩)
    go_ret2
    refine ⟨?_, hb'⟩
    have := hq3.out
    simp only [if_true] at this
    rw [this]
    rfl
   | false =>
    rw [hc] at hcall hq2
    have hq3 := Aside0.mk hq2
    clear hq2
    go_wp2_with (go_at_fn g; refine hcall.mono ?_; rintro e w' ⟨rfl, hb'⟩)
    go_roundg (1001 - (kk + 1))
    case measure => have := hg.out; omega
    case rel => exact ⟨kk + 1, rfl, ⟨by omega⟩, ⟨by omega⟩, ⟨by rw [show 1001 - (kk + 1) = 1000 - kk by omega]; have := hq3.out; simp only [Bool.false_eq_true, if_false] at this; exact this⟩, ⟨hb'⟩⟩
  ·
   have hltz : decide ((kk : Int) ≤ 1000) = false := decide_eq_false (by omega)
   go_wp2
   go_ret2
   refine ⟨?_, hb.out⟩
   have := hq.out
   rw [show 1001 - kk = 0 by omega] at this
   rw [this]
   rfl
def payRes (l0 : List S34) (l1 ys : List Int) (cost : Int) : Int × Int := if (leastI (fun n => decide (cost ≤ gainT l0 l1 ys n l1.length)) 1000 1).2 = true then ((leastI (fun n => decide (cost ≤ gainT l0 l1 ys n l1.length)) 1000 1).1, 0) else (0, 3)
def impl_PayBackYear.f (k : Nat) (l0 : List (S34)) (l1 : List Int) (a2 : Int) : Option (Int × Int) := (impl_planOrderCode.f k l0 l1 a2).bind fun c => if c = 0 then ((impl_yearsOf.f k l0 l1 a2).bind fun ys => (impl_costOf.f k l0 l1).bind fun cost => if (inB0 l0 l1 && decide (ys.length = l1.length)) = true then some (payRes l0 l1 ys cost) else none) else some (0, c)
theorem impl_PayBackYear.mono : ∀ a0 a1 a2 k, LeO (impl_PayBackYear.f k a0 a1 a2) (impl_PayBackYear.f (k + 1) a0 a1 a2) := fun a0 a1 a2 k =>
 LeO.bind (impl_planOrderCode.mono _ _ _ k) (fun _ => LeO.ite (LeO.bind (impl_yearsOf.mono _ _ _ k) (fun _ => LeO.bind (impl_costOf.mono _ _ k) (fun _ => LeO.refl _))) (LeO.refl _))
theorem below_put {b : Nat} {w W : World} (h : Below b w W) {g i : Nat} (hg : b ≤ g) (u : Value) : Below b w (W.setCell ⟨g, i, none⟩ u) := h.setCell (p := ⟨g, i, none⟩) hg u
theorem cell_alP {W : World} {a : Addr} {v : Value} (h : W.cell? a = some v) (o : Obj) : (W.alloc o).cell? a = some v := pw_cell_below (below_alloc (Below.refl _ _) o) h
theorem cell_dr {W : World} {a : Addr} {v : Value} (h : W.cell? a = some v) (n : Nat) : (W.drewN n).cell? a = some v := pw_cell_below (pw_below_drewN (Below.refl _ _) n) h
theorem cell_dr1 {W : World} {a : Addr} {v : Value} (h : W.cell? a = some v) : W.drew.cell? a = some v := pw_cell_below (below_drew (Below.refl _ _)) h
theorem cell_pt {W : World} {a : Addr} {v : Value} (h : W.cell? a = some v) {g i : Nat} (hg : a.block ≠ g) (u : Value) : (W.setCell ⟨g, i, none⟩ u).cell? a = some v := (World.cell?_of_block (w := W) (Below.heap_setCell W ⟨g, i, none⟩ u a.block hg)).trans h
theorem fresh_1 (W : World) (m : Nat) (x : Value) (t : TypeId) : ((W.drewN m).alloc (.cells #[x] t)).heap[W.heap.size]? = some (.cells #[x] t) := blk_new (W.drewN m) _
theorem fresh_2 (W : World) (m : Nat) (o : Obj) (x : Value) (t : TypeId) : (((W.drewN m).alloc o).alloc (.cells #[x] t)).heap[W.heap.size + 1]? = some (.cells #[x] t) := by
 have := blk_new ((W.drewN m).alloc o) (.cells #[x] t)
 simpa using this
theorem fresh_4 (W : World) (o : Obj) (x : Value) (t : TypeId) : ((W.alloc o).alloc (.cells #[x] t)).heap[W.heap.size + 1]? = some (.cells #[x] t) := by
 have := blk_new (W.alloc o) (.cells #[x] t)
 simpa using this
theorem fresh_3 (W : World) (m : Nat) (o : Obj) (a : Addr) (u x : Value) (t : TypeId) : ((((W.drewN m).alloc o).setCell a u).alloc (.cells #[x] t)).heap[W.heap.size + 1]? = some (.cells #[x] t) := by
 have := blk_new (((W.drewN m).alloc o).setCell a u) (.cells #[x] t)
 simpa using this
theorem fresh_5 (W : World) (m : Nat) (o : Obj) (a : Addr) (u x : Value) (t : TypeId) : ((((W.alloc o).drewN m).setCell a u).alloc (.cells #[x] t)).heap[W.heap.size + 1]? = some (.cells #[x] t) := by
 have := blk_new (((W.alloc o).drewN m).setCell a u) (.cells #[x] t)
 simpa using this
theorem cell_same {W : World} {g : Nat} {x : Value} (h : W.cell? ⟨g, 0, none⟩ = some x) (u : Value) : (W.setCell ⟨g, 0, none⟩ u).cell? ⟨g, 0, none⟩ = some u := World.cell?_setCell_same W _ _ h
theorem cell_pt2 {W : World} {b o : Nat} {v : Value} (h : W.cell? ⟨b, o, none⟩ = some v) {g i : Nat} (hg : b ≠ g) (u : Value) : (W.setCell ⟨g, i, none⟩ u).cell? ⟨b, o, none⟩ = some v := cell_pt h hg u
theorem keepR {α : Type} {d : Kd α} {e base : Nat} {w w1 : World} {ok : Nat → Prop} {v : Value} {xs : List α} (h : d.R e w base ok v xs) (hm : ∀ k, base ≤ k → k < w.heap.size → w1.heap[k]? = w.heap[k]?) : d.R e w1 base ok v xs :=
 Kd.R_mono (Kd.R_move (Kd.R_bound h) (fun k hk => hm k hk.2.1 hk.2.2.1)) (fun _ hk => hk.1)
theorem heap_put (W : World) (g : Nat) (u : Value) (k : Nat) (hk : k ≠ g) : (W.setCell ⟨g, 0, none⟩ u).heap[k]? = W.heap[k]? := Below.heap_setCell W ⟨g, 0, none⟩ u k hk
theorem heap_al (W : World) (o : Obj) (k : Nat) (hk : k < W.heap.size) : (W.alloc o).heap[k]? = W.heap[k]? := Below.heap_alloc W o k hk
theorem heap_dr (W : World) (m k : Nat) : (W.drewN m).heap[k]? = W.heap[k]? := rfl
/-- What stands behind the closure's making. -/
theorem payLeast.calls (A0 : Option Addr) (c0 : Nat) (l0 : List (S34)) (A1 : Option Addr) (c1 : Nat) (l1 : List Int) (A2 : Option Addr) (c2 : Nat) (ys : List Int) (cost : Int) (B1 B0 B2 B3 : Nat) (w : World) (hr0 : Kd.C k34 w A0 l0.length l0) (hr1 : Kd.C (Kd.int .i64) w A1 l1.length l1) (hr2 : Kd.C (Kd.int .i64) w A2 ys.length ys) (hy : ys.length = l1.length) (hi : inB0 l0 l1 = true)
  (h1 : w.cell? ⟨B1, 0, none⟩ = some (.slice A1 l1.length c1)) (h0 : w.cell? ⟨B0, 0, none⟩ = some (.slice A0 l0.length c0)) (h2 : w.cell? ⟨B2, 0, none⟩ = some (.slice A2 ys.length c2)) (h3 : w.cell? ⟨B3, 0, none⟩ = some (.int .i64 cost)) :
  Calls Try.prog 53 #[.int .i64 1, .int .i64 1000, .func (.func 54) #[] #[.pointer (some ⟨B1, 0, none⟩), .pointer (some ⟨B0, 0, none⟩), .pointer (some ⟨B2, 0, none⟩), .pointer (some ⟨B3, 0, none⟩)]] w fun e w' => e = .returned (.tuple #[.int .i64 (leastI (fun n => decide (cost ≤ gainT l0 l1 ys n l1.length)) 1000 1).1, .bool (leastI (fun n => decide (cost ≤ gainT l0 l1 ys n l1.length)) 1000 1).2]) ∧ Below w.heap.size w w' :=
 least_in.calls 54 _ (fun n => decide (cost ≤ gainT l0 l1 ys n l1.length)) w (enters_ Try.func54 (by kernel_rfl) rfl) (fun W n hb => by
  exact (payBack_1.calls n A0 c0 l0 A1 c1 l1 A2 c2 ys cost B1 B0 B2 B3 W (Kd.C_below hr0 hb) (Kd.C_below hr1 hb) (Kd.C_below hr2 hb) hy hi (pw_cell_below hb h1) (pw_cell_below hb h0) (pw_cell_below hb h2) (pw_cell_below hb h3)).mono fun e w' ⟨he, hb'⟩ => ⟨he, below_then hb hb.size hb'⟩)
theorem payLeast2.calls (A0 : Option Addr) (c0 : Nat) (l0 : List (S34)) (A1 : Option Addr) (c1 : Nat) (l1 : List Int) (A2 : Option Addr) (c2 : Nat) (ys : List Int) (cost : Int) (B1 B0 B2 B3 : Nat) (w00 w : World) (hr0 : Kd.C k34 w00 A0 l0.length l0) (hr1 : Kd.C (Kd.int .i64) w00 A1 l1.length l1) (hW : Below w00.heap.size w00 w) (hr2 : Kd.C (Kd.int .i64) w A2 ys.length ys) (hy : ys.length = l1.length) (hi : inB0 l0 l1 = true)
  (h1 : w.cell? ⟨B1, 0, none⟩ = some (.slice A1 l1.length c1)) (h0 : w.cell? ⟨B0, 0, none⟩ = some (.slice A0 l0.length c0)) (h2 : w.cell? ⟨B2, 0, none⟩ = some (.slice A2 ys.length c2)) (h3 : w.cell? ⟨B3, 0, none⟩ = some (.int .i64 cost)) :
  Calls Try.prog 53 #[.int .i64 1, .int .i64 1000, .func (.func 54) #[] #[.pointer (some ⟨B1, 0, none⟩), .pointer (some ⟨B0, 0, none⟩), .pointer (some ⟨B2, 0, none⟩), .pointer (some ⟨B3, 0, none⟩)]] w fun e w' => e = .returned (.tuple #[.int .i64 (leastI (fun n => decide (cost ≤ gainT l0 l1 ys n l1.length)) 1000 1).1, .bool (leastI (fun n => decide (cost ≤ gainT l0 l1 ys n l1.length)) 1000 1).2]) ∧ Below w00.heap.size w00 w' :=
 (payLeast.calls A0 c0 l0 A1 c1 l1 A2 c2 ys cost B1 B0 B2 B3 w (Kd.C_below hr0 hW) (Kd.C_below hr1 hW) hr2 hy hi h1 h0 h2 h3).mono fun e w' ⟨he, hb⟩ => ⟨he, below_then hW hW.size hb⟩
-- @cut
set_option maxHeartbeats 20000000 in
set_option maxRecDepth 100000 in
theorem impl_PayBackYear.calls (k : Nat) (A0 : Option Addr) (c0 : Nat) (l0 : List (S34)) (A1 : Option Addr) (c1 : Nat) (l1 : List Int) (a2 : Int) (r1 : Int) (r2 : Int) (w : World) (hr0 : Kd.C k34 w A0 l0.length l0) (hc0 : l0.length ≤ c0) (hr1 : Kd.C (Kd.int .i64) w A1 l1.length l1) (hc1 : l1.length ≤ c1) (h : impl_PayBackYear.f k l0 l1 a2 = some (r1, r2)) :
  Calls Try.prog 15 #[.slice A0 l0.length c0, .slice A1 l1.length c1, .int .i64 a2] w fun e w' => e = .returned (.tuple #[.int .i64 r1, .int .i64 r2]) ∧ Below w.heap.size w w' := by
 unfold impl_PayBackYear.f at h
 obtain ⟨c, hc, h⟩ := Option.bind_eq_some_iff.1 h
 have hplan : ∀ W, (Below w.heap.size w W ∧ W.cell? ⟨w.heap.size, 0, none⟩ = some (.slice A0 l0.length c0) ∧ W.cell? ⟨w.heap.size + 1, 0, none⟩ = some (.slice A1 l1.length c1)) → Calls Try.prog 46 #[.slice A0 l0.length c0, .slice A1 l1.length c1, .int .i64 a2] W fun e w' => e = .returned (.int .i64 c) ∧ (Below w.heap.size w w' ∧ w'.cell? ⟨w.heap.size, 0, none⟩ = some (.slice A0 l0.length c0) ∧ w'.cell? ⟨w.heap.size + 1, 0, none⟩ = some (.slice A1 l1.length c1)) := fun W ⟨hW, g0, g1⟩ =>
  (impl_planOrderCode.calls k A0 c0 l0 A1 c1 l1 a2 c W (Kd.C_below hr0 hW) hc0 (Kd.C_below hr1 hW) hc1 hc).mono fun e w' ⟨he, hb⟩ => ⟨he, below_then hW hW.size hb, pw_cell_below hb g0, pw_cell_below hb g1⟩
 have HP := Aside0.mk hplan
 have H := Aside0.mk h
 have HR0 := Aside0.mk hr0
 have HR1 := Aside0.mk hr1
 have HC0 := Aside0.mk hc0
 have HC1 := Aside0.mk hc1
 clear h hc hplan hr0 hr1 hc0 hc1
 by_cases q : c = 0
 ·
  subst q
  have h := H.out
  rw [if_pos rfl] at h
  obtain ⟨ys, hys, h⟩ := Option.bind_eq_some_iff.1 h
  obtain ⟨cost, hco, h⟩ := Option.bind_eq_some_iff.1 h
  have hcond : (inB0 l0 l1 && decide (ys.length = l1.length)) = true := by
   by_cases hc : (inB0 l0 l1 && decide (ys.length = l1.length)) = true
   ·
    exact hc
   ·
    rw [if_neg hc] at h; cases h
  rw [if_pos hcond] at h
  have HRes := Aside0.mk (Option.some.inj h)
  simp only [Bool.and_eq_true, decide_eq_true_eq] at hcond
  have HI := Aside0.mk hcond.1
  have HL := Aside0.mk hcond.2
  have HY := Aside0.mk (fun W (hW : Below w.heap.size w W) => impl_yearsOf.calls k A0 c0 l0 A1 c1 l1 a2 ys W (Kd.C_below HR0.out hW) HC0.out (Kd.C_below HR1.out hW) HC1.out hys)
  have HCo := Aside0.mk (fun W (hW : Below w.heap.size w W) => impl_costOf.calls k A0 c0 l0 A1 c1 l1 cost W (Kd.C_below HR0.out hW) HC0.out (Kd.C_below HR1.out hW) HC1.out hco)
  clear h hys hco hcond H
  go_enter Try.func15, Try.ntmps15
  go_upto_region 4 with (go_at_call 46; refine (HP.out _ ⟨below_alloc (below_alloc (Below.refl _ _) _) _, by simp, by simp⟩).mono ?_; rintro e w' ⟨rfl, hSS⟩; have HS := Aside0.mk hSS.1; have g0 := hSS.2.1; have g1 := hSS.2.2; have hlt : w.heap.size + 1 < w'.heap.size := World.block_lt_of_cell? _ _ g1; clear hSS)
  go_cut [9, 10] (fun s9 s10 wx => ∃ (B2 B3 : Nat) (A2 : Option Addr) (c2 : Nat), s9 = .pointer (some ⟨B2, 0, none⟩) ∧ s10 = .pointer (some ⟨B3, 0, none⟩) ∧ Aside0 (Below w.heap.size w wx) ∧ wx.cell? ⟨w.heap.size, 0, none⟩ = some (.slice A0 l0.length c0) ∧ wx.cell? ⟨w.heap.size + 1, 0, none⟩ = some (.slice A1 l1.length c1) ∧ wx.cell? ⟨B2, 0, none⟩ = some (.slice A2 ys.length c2) ∧ wx.cell? ⟨B3, 0, none⟩ = some (.int .i64 cost) ∧ Aside0 (Kd.C (Kd.int .i64) wx A2 ys.length ys))
  case first =>
   have n1 : ¬ w.heap.size = w'.heap.size := by omega
   have n2 : ¬ w.heap.size + 1 = w'.heap.size := by omega
   have n3 : ¬ w.heap.size = w'.heap.size + 1 := by omega
   have n4 : w.heap.size ≤ w'.heap.size := by omega
   have F1 := fun (W : World) (m : Nat) (x : Value) (t : TypeId) => (blk_cell (fresh_1 W m x t) 0).trans (show (#[x] : Array Value)[0]? = some x from rfl)
   have F2 := fun (W : World) (m : Nat) (x : Value) (t : TypeId) => blk_frozen (fresh_1 W m x t) 0
   have F3 := fun (W : World) (m : Nat) (o : Obj) (x : Value) (t : TypeId) => (blk_cell (fresh_2 W m o x t) 0).trans (show (#[x] : Array Value)[0]? = some x from rfl)
   have F4 := fun (W : World) (m : Nat) (o : Obj) (x : Value) (t : TypeId) => blk_frozen (fresh_2 W m o x t) 0
   have F5 := fun (W : World) (m : Nat) (o : Obj) (a : Addr) (u x : Value) (t : TypeId) => (blk_cell (fresh_3 W m o a u x t) 0).trans (show (#[x] : Array Value)[0]? = some x from rfl)
   have F6 := fun (W : World) (m : Nat) (o : Obj) (a : Addr) (u x : Value) (t : TypeId) => blk_frozen (fresh_3 W m o a u x t) 0
   go_region_held3 (fun W => Below w.heap.size w W ∧ W.cell? ⟨w.heap.size, 0, none⟩ = some (.slice A0 l0.length c0) ∧ W.cell? ⟨w.heap.size + 1, 0, none⟩ = some (.slice A1 l1.length c1)) (((try dsimp only); (repeat' apply And.intro); all_goals (first | assumption | exact HS.out | exact hB2.out | ((repeat (first | exact HS.out | exact hB2.out | apply below_alloc | apply pw_below_drewN | apply below_drew1 | (refine below_put ?_ (by omega) _) | exact g0 | exact g1 | exact g02 | exact g12 | apply cell_alP | apply cell_dr | apply cell_dr1 | (refine cell_pt ?_ (by (try simp only [World.size_alloc]); omega) _))); done) | (simp [*]; done)))) (first | (go_at_call 47; refine (HY.out _ (by repeat (first | exact HS.out | apply below_alloc | apply pw_below_drewN | apply below_drew1))).mono ?_; rintro e w2 ⟨v, rfl, hR, hb⟩; obtain ⟨A2, c2, hv2⟩ := Kd.R_slice hR; subst hv2; have hB2 := Aside0.mk (below_step (by repeat (first | exact HS.out | apply below_alloc | apply pw_below_drewN | apply below_drew1)) hb); have HRy := Aside0.mk hR; have HBy := Aside0.mk hb; have g02 : w2.cell? ⟨w.heap.size, 0, none⟩ = some (.slice A0 l0.length c0) := pw_cell_below hb (by first | exact g0 | (simp [g0]; done) | (simp [*]; done)); have g12 : w2.cell? ⟨w.heap.size + 1, 0, none⟩ = some (.slice A1 l1.length c1) := pw_cell_below hb (by first | exact g1 | (simp [g1]; done) | (simp [*]; done)); have hlt2 : w.heap.size + 1 < w2.heap.size := World.block_lt_of_cell? _ _ g12; have m1 : ¬ w.heap.size = w2.heap.size := (by omega); have m2 : ¬ w.heap.size + 1 = w2.heap.size := (by omega); have m3_ : ¬ w.heap.size = w2.heap.size + 1 := (by omega); have m4 : w.heap.size ≤ w2.heap.size := (by omega); (first | (have k0 : w2.heap[w'.heap.size]? = some (.cells #[.slice none 0 0] 27 (0, 0)) := blk_below (blk_alloc (blk_new w'.drew (.cells #[.slice none 0 0] 27)) (.cells #[.int .i64 0] 2)) hb; have e0 : w2.cell? ⟨w'.heap.size, 0, none⟩ = some (.slice none 0 0) := (blk_cell k0 0).trans rfl; have f0 := blk_frozen k0 0; have E0 := fun (m : Nat) (o : Obj) => cell_alP (cell_dr e0 m) o; have U0 := fun (o : Obj) => cell_alP e0 o; have V0 := fun (o : Obj) => blk_frozen (blk_alloc k0 o) 0; have G0 := fun (m : Nat) (o : Obj) => blk_frozen (blk_alloc (show (w2.drewN m).heap[w'.heap.size]? = some (.cells #[.slice none 0 0] 27 (0, 0)) from k0) o) 0; have q0 : ¬ w'.heap.size = w2.heap.size := Nat.ne_of_lt (blk_lt k0); have p0 : ¬ w2.heap.size = w'.heap.size := fun h => q0 h.symm; have k1 : w2.heap[w'.heap.size + 1]? = some (.cells #[.int .i64 0] 2 (0, 0)) := blk_below (fresh_4 w'.drew (.cells #[.slice none 0 0] 27) (.int .i64 0) 2) hb; have e1 : w2.cell? ⟨w'.heap.size + 1, 0, none⟩ = some (.int .i64 0) := (blk_cell k1 0).trans rfl; have f1 := blk_frozen k1 0; have E1 := fun (m : Nat) (o : Obj) => cell_alP (cell_dr e1 m) o; have U1 := fun (o : Obj) => cell_alP e1 o; have V1 := fun (o : Obj) => blk_frozen (blk_alloc k1 o) 0; have G1 := fun (m : Nat) (o : Obj) => blk_frozen (blk_alloc (show (w2.drewN m).heap[w'.heap.size + 1]? = some (.cells #[.int .i64 0] 2 (0, 0)) from k1) o) 0; have q1 : ¬ w'.heap.size + 1 = w2.heap.size := Nat.ne_of_lt (blk_lt k1); have p1 : ¬ w2.heap.size = w'.heap.size + 1 := fun h => q1 h.symm) | (have k0 : w2.heap[w'.heap.size]? = some (.cells #[.int .i64 0] 2 (0, 0)) := blk_below (blk_alloc (blk_new w'.drew (.cells #[.int .i64 0] 2)) (.cells #[.slice none 0 0] 27)) hb; have e0 : w2.cell? ⟨w'.heap.size, 0, none⟩ = some (.int .i64 0) := (blk_cell k0 0).trans rfl; have f0 := blk_frozen k0 0; have E0 := fun (m : Nat) (o : Obj) => cell_alP (cell_dr e0 m) o; have U0 := fun (o : Obj) => cell_alP e0 o; have V0 := fun (o : Obj) => blk_frozen (blk_alloc k0 o) 0; have G0 := fun (m : Nat) (o : Obj) => blk_frozen (blk_alloc (show (w2.drewN m).heap[w'.heap.size]? = some (.cells #[.int .i64 0] 2 (0, 0)) from k0) o) 0; have q0 : ¬ w'.heap.size = w2.heap.size := Nat.ne_of_lt (blk_lt k0); have p0 : ¬ w2.heap.size = w'.heap.size := fun h => q0 h.symm; have k1 : w2.heap[w'.heap.size + 1]? = some (.cells #[.slice none 0 0] 27 (0, 0)) := blk_below (fresh_4 w'.drew (.cells #[.int .i64 0] 2) (.slice none 0 0) 27) hb; have e1 : w2.cell? ⟨w'.heap.size + 1, 0, none⟩ = some (.slice none 0 0) := (blk_cell k1 0).trans rfl; have f1 := blk_frozen k1 0; have E1 := fun (m : Nat) (o : Obj) => cell_alP (cell_dr e1 m) o; have U1 := fun (o : Obj) => cell_alP e1 o; have V1 := fun (o : Obj) => blk_frozen (blk_alloc k1 o) 0; have G1 := fun (m : Nat) (o : Obj) => blk_frozen (blk_alloc (show (w2.drewN m).heap[w'.heap.size + 1]? = some (.cells #[.slice none 0 0] 27 (0, 0)) from k1) o) 0; have q1 : ¬ w'.heap.size + 1 = w2.heap.size := Nat.ne_of_lt (blk_lt k1); have p1 : ¬ w2.heap.size = w'.heap.size + 1 := fun h => q1 h.symm) | (have k0 : w2.heap[w'.heap.size]? = some (.cells #[.slice none 0 0] 27 (0, 0)) := blk_below (blk_new w'.drew (.cells #[.slice none 0 0] 27)) hb; have e0 : w2.cell? ⟨w'.heap.size, 0, none⟩ = some (.slice none 0 0) := (blk_cell k0 0).trans rfl; have f0 := blk_frozen k0 0; have E0 := fun (m : Nat) (o : Obj) => cell_alP (cell_dr e0 m) o; have U0 := fun (o : Obj) => cell_alP e0 o; have V0 := fun (o : Obj) => blk_frozen (blk_alloc k0 o) 0; have G0 := fun (m : Nat) (o : Obj) => blk_frozen (blk_alloc (show (w2.drewN m).heap[w'.heap.size]? = some (.cells #[.slice none 0 0] 27 (0, 0)) from k0) o) 0; have q0 : ¬ w'.heap.size = w2.heap.size := Nat.ne_of_lt (blk_lt k0); have p0 : ¬ w2.heap.size = w'.heap.size := fun h => q0 h.symm) | (have k0 : w2.heap[w'.heap.size]? = some (.cells #[.int .i64 0] 2 (0, 0)) := blk_below (blk_new w'.drew (.cells #[.int .i64 0] 2)) hb; have e0 : w2.cell? ⟨w'.heap.size, 0, none⟩ = some (.int .i64 0) := (blk_cell k0 0).trans rfl; have f0 := blk_frozen k0 0; have E0 := fun (m : Nat) (o : Obj) => cell_alP (cell_dr e0 m) o; have U0 := fun (o : Obj) => cell_alP e0 o; have V0 := fun (o : Obj) => blk_frozen (blk_alloc k0 o) 0; have G0 := fun (m : Nat) (o : Obj) => blk_frozen (blk_alloc (show (w2.drewN m).heap[w'.heap.size]? = some (.cells #[.int .i64 0] 2 (0, 0)) from k0) o) 0; have q0 : ¬ w'.heap.size = w2.heap.size := Nat.ne_of_lt (blk_lt k0); have p0 : ¬ w2.heap.size = w'.heap.size := fun h => q0 h.symm) | skip); clear hR hb) | (go_at_call 51; refine (HCo.out _ (by repeat (first | exact hB2.out | apply below_alloc | apply pw_below_drewN | apply below_drew1))).mono ?_; rintro e w3 ⟨rfl, ⟨m3, rfl⟩⟩))
   all_goals
    rename_i hH
    have N1 := fun (W : World) (x : Value) (t : TypeId) => (blk_cell (blk_new W (.cells #[x] t)) 0).trans (show (#[x] : Array Value)[0]? = some x from rfl)
    have N2 := fun (W : World) (o : Obj) (x : Value) (t : TypeId) => (blk_cell (fresh_4 W o x t) 0).trans (show (#[x] : Array Value)[0]? = some x from rfl)
    have N3 := fun (W : World) (m : Nat) (o : Obj) (a : Addr) (u x : Value) (t : TypeId) => (blk_cell (fresh_5 W m o a u x t) 0).trans (show (#[x] : Array Value)[0]? = some x from rfl)
    have HRb := Aside0.mk (Kd.R_bound HRy.out)
    go_wp2_with fail
    go_meet
    exact ⟨_, _, A2, c2, rfl, rfl, ⟨hH.1⟩, hH.2.1, hH.2.2, (by (repeat (first | (with_reducible first | exact F1 _ _ _ _ | exact F3 _ _ _ _ _ | exact F5 _ _ _ _ _ _ _ | exact N1 _ _ _ | exact N2 _ _ _ _ | exact N3 _ _ _ _ _ _ _ | exact e0 | exact e1 | exact g02 | exact g12 | (refine cell_same (x := .slice none 0 0) ?_ _) | apply cell_alP | apply cell_dr | apply cell_dr1) | (refine cell_pt2 ?_ (by omega) _) | (with_reducible assumption)))), (by (repeat (first | (with_reducible first | exact F1 _ _ _ _ | exact F3 _ _ _ _ _ | exact F5 _ _ _ _ _ _ _ | exact N1 _ _ _ | exact N2 _ _ _ _ | exact N3 _ _ _ _ _ _ _ | exact e0 | exact e1 | exact g02 | exact g12 | (refine cell_same (x := .int .i64 0) ?_ _) | apply cell_alP | apply cell_dr | apply cell_dr1) | (refine cell_pt2 ?_ (by omega) _) | (with_reducible assumption)))), ⟨(Kd.R_reads' (keepR HRy.out (by (intro k h1 h2; (try simp at h1); (repeat (first | (with_reducible rfl) | (refine (heap_put _ _ _ _ (by omega)).trans ?_) | (refine (heap_al _ _ _ (by (try simp); omega)).trans ?_) | (refine (heap_dr _ _ _).trans ?_))))))).2.2⟩⟩
  case rest =>
   obtain ⟨B2, B3, A2, c2, rfl, rfl, HB, g0, g1, e2, e3, HC⟩ := hcut
   have HON := Aside0.mk (show impl_orNotFound.f (leastI (fun n => decide (cost ≤ gainT l0 l1 ys n l1.length)) 1000 1).1 (leastI (fun n => decide (cost ≤ gainT l0 l1 ys n l1.length)) 1000 1).2 = some (r1, r2) by rw [← HRes.out]; unfold impl_orNotFound.f payRes; split <;> rfl)
   have HL_ := Aside0.mk (payLeast2.calls A0 c0 l0 A1 c1 l1 A2 c2 ys cost (w.heap.size + 1) w.heap.size B2 B3 w _ HR0.out HR1.out HB.out HC.out HL.out HI.out g1 g0 e2 e3)
   clear g0 g1 e2 e3
   go_wp2_with (first | (go_at_call 53; refine HL_.out.mono ?_; rintro e w4 ⟨rfl, hb4⟩; have hB4 := Aside0.mk hb4; clear hb4) | (go_at_call 52; refine (impl_orNotFound.calls _ _ r1 r2 _ HON.out).mono ?_; rintro e w5 ⟨rfl, ⟨m5, rfl⟩⟩))
   go_ret2
   exact ⟨rfl, pw_below_drewN hB4.out _⟩
 ·
  have h := H.out
  rw [if_neg q] at h
  have e := Option.some.inj h
  injection e with e1 e2
  subst e1
  subst e2
  have hq : decide (c = 0) = false := decide_eq_false q
  clear h
  go_enter Try.func15, Try.ntmps15
  go_wp2_with (go_at_call 46; refine (HP.out _ ⟨below_alloc (below_alloc (Below.refl _ _) _) _, by first | (simp; done) | trace_state, by first | (simp; done) | trace_state⟩).mono ?_; rintro e w' ⟨rfl, hS_⟩)
  go_ret2
  exact ⟨rfl, hS_.1⟩

end Go.Proofs.Ytmbiapefigcgnaa.PFnPlans
