-- written by a program of this session (mkp.py) out of the translation; Lean checks it. -- squeezed
import Derived.Laws.CopyOwn
import Derived.Shelf.Abstract
import Derived.Deep.RegionLaw
import Derived.Test.YtffodlggihmonaaDoorPFnSwitchingx0
import Derived.Test.YtffodlggihmonaaDoorPFnSwitchingx1
namespace Go.Proofs.YtffodlggihmonaaDoor.PFnSwitching
open Go.RowKit Go.Proofs.YtffodlggihmonaaDoorW.PrintWords Go.Proofs.YtffodlggihmonaaDoorW.PrintLast Go.Proofs.YtffodlggihmonaaDoorW.PrintMore
attribute [local go_sem] bin_leq bin_gtr bin_geq max2_int min2_int max_two min_two max_three min_three max_four min_four   -- for this text's walks alone
set_option linter.unusedVariables false
set_option linter.unusedSimpArgs false

/-! ### impl_ValidRules: function 28 -/
mutual
def impl_ValidRules.j0 : Nat → Int → List (S51) → Bool → Option (Bool)
 | 0, _, _, _ => none
 | k + 1, x0, x1, x14 => if x14 = true then (some false) else (impl_ValidRules.l0 k x0 x1 (x1.length : Int) 0)
def impl_ValidRules.l0 : Nat → Int → List (S51) → Int → Int → Option (Bool)
 | 0, _, _, _, _ => none
 | k + 1, x0, x15, x16, x17 => if x17 < x16 then (if 0 ≤ x17 then (if x17 < (x15.length : Int) then ((impl_within.f ((rd_T51 x15 x17).f0) 1 3).bind fun t136 => (if t136 = true then ((impl_within.f ((rd_T51 x15 x17).f1) 0 (wrap64 (x0 - 1))).bind fun t137 => (if t137 = true then ((impl_within.f ((rd_T51 x15 x17).f2) 0 (wrap64 (x0 - 1))).bind fun t138 => (if t138 = true then (if ((rd_T51 x15 x17).f1) = ((rd_T51 x15 x17).f2) then (some false) else (impl_ValidRules.l0 k x0 x15 x16 (wrap64 (x17 + 1)))) else (some false))) else (some false))) else (some false))) else (none)) else (none)) else (some true)
end
def impl_ValidRules.f (k : Nat) (a0 : Int) (l1 : List (S51)) : Option (Bool) := (impl_within.f a0 1 8).bind fun t133 => (if t133 = true then (impl_ValidRules.j0 k a0 l1 (decide ((l1.length : Int) > 12))) else (impl_ValidRules.j0 k a0 l1 true))
theorem impl_ValidRules.mono_l : ∀ k, (∀ y0 y1 y2, LeO (impl_ValidRules.j0 k y0 y1 y2) (impl_ValidRules.j0 (k + 1) y0 y1 y2)) ∧ (∀ y0 y1 y2 y3, LeO (impl_ValidRules.l0 k y0 y1 y2 y3) (impl_ValidRules.l0 (k + 1) y0 y1 y2 y3))
 | 0 => ⟨fun _ _ _ r h => by simp [impl_ValidRules.j0] at h, fun _ _ _ _ r h => by simp [impl_ValidRules.l0] at h⟩
 | k + 1 => by
  obtain ⟨ih0, ih1⟩ := impl_ValidRules.mono_l k
  refine ⟨?_, ?_⟩
  ·
   intro y0 y1 y2
   unfold impl_ValidRules.j0
   repeat' first
   | (with_reducible exact ih0 _ _ _)
   | (with_reducible exact ih1 _ _ _ _)
   | (with_reducible exact LeO.refl _)
   | (with_reducible exact LeO.none _)
   | (with_reducible refine LeO.ite ?_ ?_)
   | (with_reducible refine LeO.bind ?_ (fun _ => ?_))
   | exact ih0 _ _ _
   | exact ih1 _ _ _ _
   | exact LeO.none _
   | refine LeO.ite ?_ ?_
   | refine LeO.bind ?_ (fun _ => ?_)
  ·
   intro y0 y1 y2 y3
   unfold impl_ValidRules.l0
   repeat' first
   | (with_reducible exact ih0 _ _ _)
   | (with_reducible exact ih1 _ _ _ _)
   | (with_reducible exact LeO.refl _)
   | (with_reducible exact LeO.none _)
   | (with_reducible refine LeO.ite ?_ ?_)
   | (with_reducible refine LeO.bind ?_ (fun _ => ?_))
   | exact ih0 _ _ _
   | exact ih1 _ _ _ _
   | exact LeO.none _
   | refine LeO.ite ?_ ?_
   | refine LeO.bind ?_ (fun _ => ?_)
theorem impl_ValidRules.mono : ∀ a0 a1 k, LeO (impl_ValidRules.f k a0 a1) (impl_ValidRules.f (k + 1) a0 a1) := by
 intro a0 a1 k
 obtain ⟨ih0, ih1⟩ := impl_ValidRules.mono_l k
 unfold impl_ValidRules.f
 repeat' first
  | (with_reducible exact ih0 _ _ _)
  | (with_reducible exact ih1 _ _ _ _)
  | (with_reducible exact LeO.refl _)
  | (with_reducible exact LeO.none _)
  | (with_reducible refine LeO.ite ?_ ?_)
  | (with_reducible refine LeO.bind ?_ (fun _ => ?_))
  | exact ih0 _ _ _
  | exact ih1 _ _ _ _
  | exact LeO.none _
  | refine LeO.ite ?_ ?_
  | refine LeO.bind ?_ (fun _ => ?_)
set_option maxHeartbeats 8000000 in
set_option maxRecDepth 100000 in
theorem impl_ValidRules.calls (k : Nat) (a0 : Int) (A1 : Option Addr) (c1 : Nat) (l1 : List (S51)) (r : Bool) (w : World) (hr1 : Kd.C k51 w A1 l1.length l1) (hc1 : l1.length ≤ c1) (h : impl_ValidRules.f k a0 l1 = some r) :
  Calls Tryd.prog 28 #[.int .i64 a0, .slice A1 l1.length c1] w fun e w' => e = .returned (.bool r) ∧ Below w.heap.size w w' := by
 have hu51 := Tryd.underlying51
 have HR1 := Aside0.mk hr1
 have HC1 := Aside0.mk hc1
 clear hr1 hc1
 have HB := Aside0.mk (Below.refl w.heap.size w)
 have H : ((impl_within.f a0 1 8).bind fun t133 => (if t133 = true then (impl_ValidRules.j0 k a0 l1 (decide ((l1.length : Int) > 12))) else (impl_ValidRules.j0 k a0 l1 true))) = some r := h
 clear h
 have HC3 := Aside0.mk H
 clear H
 go_enter Tryd.func28, Tryd.ntmps28
 go_upto_region 1 with (fail)
 go_cut [14] (fun v14 wc => ∃ (kq : Nat) (x14_2 : Bool), v14 = .bool x14_2 ∧ Aside0 (impl_ValidRules.j0 kq a0 l1 x14_2 = some r) ∧ Aside0 (kq ≤ k) ∧ Aside0 (Below w.heap.size w wc))
 case first =>
  have H := HC3.out
  clear HC3
  replace H := Option.bind_eq_some_iff.mp H
  obtain ⟨t133, A40, H⟩ := H
  replace H : (if t133 = true then (impl_ValidRules.j0 k a0 l1 (decide ((l1.length : Int) > 12))) else (impl_ValidRules.j0 k a0 l1 true)) = some r := H
  have A4 := Aside0.mk A40
  clear A40
  by_cases c5 : t133 = true
  ·
   subst c5
   have H1 : (impl_ValidRules.j0 k a0 l1 (decide ((l1.length : Int) > 12))) = some r := by rw [if_pos rfl] at H; exact H
   clear H
   have H := H1
   clear H1
   have H' := Aside0.mk H
   clear H
   go_wp2_with (first | ((with_reducible refine gate_callee (f := 50) rfl ?_); refine goesA_ (some 8) Tryd.func50 #[.int .i64 a0, .int .i64 1, .int .i64 8] ?_; (with_reducible refine (impl_within.calls a0 1 8 true _ A4.out).mono ?_); rintro e w' ⟨rfl, ⟨nd, rfl⟩⟩; refine ⟨_, rfl, ?_⟩))
   go_meet
   case rel => exact ⟨_, (decide ((l1.length : Int) > 12)), rs, H', ⟨by first | omega | exact Nat.le_refl _⟩, ⟨mvB HB.out⟩⟩
  ·
   replace c5 := Bool.eq_false_iff.mpr c5
   subst c5
   have H1 : (impl_ValidRules.j0 k a0 l1 true) = some r := by rw [if_neg (show ¬ (false = true) by decide)] at H; exact H
   clear H
   have H := H1
   clear H1
   have H' := Aside0.mk H
   clear H
   go_wp2_with (first | ((with_reducible refine gate_callee (f := 50) rfl ?_); refine goesA_ (some 8) Tryd.func50 #[.int .i64 a0, .int .i64 1, .int .i64 8] ?_; (with_reducible refine (impl_within.calls a0 1 8 false _ A4.out).mono ?_); rintro e w' ⟨rfl, ⟨nd, rfl⟩⟩; refine ⟨_, rfl, ?_⟩))
   go_meet
   case rel => exact ⟨_, (true), rs, H', ⟨by first | omega | exact Nat.le_refl _⟩, ⟨mvB HB.out⟩⟩
 case rest =>
  clear HC3
  obtain ⟨kq, x14_2, rfl, HA, HJ2, HB⟩ := hcut
  cases kq with
  | zero => exact absurd HA.out (by simp [impl_ValidRules.j0])
  | succ kj2 =>
   have H := HA.out
   clear HA
   simp only [impl_ValidRules.j0] at H
   by_cases c6 : x14_2 = true
   ·
    subst c6
    have H1 : (some false) = some r := by rw [if_pos rfl] at H; exact H
    clear H
    have H := H1
    clear H1
    obtain rfl := Option.some.inj H
    go_wp2
    go_ret
    exact ⟨by first | rfl | (simp [errW_none, errW_some] <;> rfl) | (simp [*, errW_none, errW_some] <;> rfl), mvB HB.out⟩
   ·
    replace c6 := Bool.eq_false_iff.mpr c6
    subst c6
    have H1 : (impl_ValidRules.l0 kj2 a0 l1 (l1.length : Int) 0) = some r := by rw [if_neg (show ¬ (false = true) by decide)] at H; exact H
    clear H
    have H := H1
    clear H1
    have H' := Aside0.mk H
    clear H
    go_wp2
    go_loopg [17] kj2 (fun kq v17 w' => ∃ (x17_2 : Int), v17 = .int .i64 x17_2 ∧ Aside0 (impl_ValidRules.l0 kq a0 l1 (l1.length : Int) x17_2 = some r) ∧ Aside0 (kq ≤ kj2) ∧ Aside0 (Below w.heap.size w w'))
    case atStart => exact ⟨(0), rs, H', ⟨Nat.le_refl _⟩, ⟨mvB HB.out⟩⟩
    case round =>
     clear H'
     try clear c6
     obtain ⟨x17_2, rfl, HA, HK2, HB⟩ := hrel
     cases gk with
     | zero => exact absurd HA.out (by simp [impl_ValidRules.l0])
     | succ k2 =>
      have H := HA.out
      clear HA
      simp only [impl_ValidRules.l0] at H
      by_cases c7 : x17_2 < (l1.length : Int)
      ·
       rw [if_pos c7] at H
       have c7b0 : decide (x17_2 < (l1.length : Int)) = true := decide_eq_true c7
       clear c7
       by_cases c8 : 0 ≤ x17_2
       ·
        rw [if_pos c8] at H
        have c8b0 : decide (0 ≤ x17_2) = true := decide_eq_true c8
        clear c8
        by_cases c9 : x17_2 < (l1.length : Int)
        ·
         rw [if_pos c9] at H
         have c9b0 : decide (x17_2 < (l1.length : Int)) = true := decide_eq_true c9
         clear c9
         replace H := Option.bind_eq_some_iff.mp H
         obtain ⟨t136, A100, H⟩ := H
         replace H : (if t136 = true then ((impl_within.f ((rd_T51 l1 x17_2).f1) 0 (wrap64 (a0 - 1))).bind fun t137 => (if t137 = true then ((impl_within.f ((rd_T51 l1 x17_2).f2) 0 (wrap64 (a0 - 1))).bind fun t138 => (if t138 = true then (if ((rd_T51 l1 x17_2).f1) = ((rd_T51 l1 x17_2).f2) then (some false) else (impl_ValidRules.l0 k2 a0 l1 (l1.length : Int) (wrap64 (x17_2 + 1)))) else (some false))) else (some false))) else (some false)) = some r := H
         have A10 := Aside0.mk A100
         clear A100
         by_cases c11 : t136 = true
         ·
          subst c11
          have H1 : ((impl_within.f ((rd_T51 l1 x17_2).f1) 0 (wrap64 (a0 - 1))).bind fun t137 => (if t137 = true then ((impl_within.f ((rd_T51 l1 x17_2).f2) 0 (wrap64 (a0 - 1))).bind fun t138 => (if t138 = true then (if ((rd_T51 l1 x17_2).f1) = ((rd_T51 l1 x17_2).f2) then (some false) else (impl_ValidRules.l0 k2 a0 l1 (l1.length : Int) (wrap64 (x17_2 + 1)))) else (some false))) else (some false))) = some r := by rw [if_pos rfl] at H; exact H
          clear H
          have H := H1
          clear H1
          replace H := Option.bind_eq_some_iff.mp H
          obtain ⟨t137, A120, H⟩ := H
          replace H : (if t137 = true then ((impl_within.f ((rd_T51 l1 x17_2).f2) 0 (wrap64 (a0 - 1))).bind fun t138 => (if t138 = true then (if ((rd_T51 l1 x17_2).f1) = ((rd_T51 l1 x17_2).f2) then (some false) else (impl_ValidRules.l0 k2 a0 l1 (l1.length : Int) (wrap64 (x17_2 + 1)))) else (some false))) else (some false)) = some r := H
          have A12 := Aside0.mk A120
          clear A120
          by_cases c13 : t137 = true
          ·
           subst c13
           have H1 : ((impl_within.f ((rd_T51 l1 x17_2).f2) 0 (wrap64 (a0 - 1))).bind fun t138 => (if t138 = true then (if ((rd_T51 l1 x17_2).f1) = ((rd_T51 l1 x17_2).f2) then (some false) else (impl_ValidRules.l0 k2 a0 l1 (l1.length : Int) (wrap64 (x17_2 + 1)))) else (some false))) = some r := by rw [if_pos rfl] at H; exact H
           clear H
           have H := H1
           clear H1
           replace H := Option.bind_eq_some_iff.mp H
           obtain ⟨t138, A140, H⟩ := H
           replace H : (if t138 = true then (if ((rd_T51 l1 x17_2).f1) = ((rd_T51 l1 x17_2).f2) then (some false) else (impl_ValidRules.l0 k2 a0 l1 (l1.length : Int) (wrap64 (x17_2 + 1)))) else (some false)) = some r := H
           have A14 := Aside0.mk A140
           clear A140
           by_cases c15 : t138 = true
           ·
            subst c15
            have H1 : (if ((rd_T51 l1 x17_2).f1) = ((rd_T51 l1 x17_2).f2) then (some false) else (impl_ValidRules.l0 k2 a0 l1 (l1.length : Int) (wrap64 (x17_2 + 1)))) = some r := by rw [if_pos rfl] at H; exact H
            clear H
            have H := H1
            clear H1
            by_cases c16 : ((rd_T51 l1 x17_2).f1) = ((rd_T51 l1 x17_2).f2)
            ·
             rw [if_pos c16] at H
             have c16b0 : (((rd_T51 l1 x17_2).f1) == ((rd_T51 l1 x17_2).f2)) = true := beq_iff_eq.mpr c16
             have c16b1 : (((rd_T51 l1 x17_2).f1) != ((rd_T51 l1 x17_2).f2)) = false := bne_eq_false_iff_eq.mpr c16
             clear c16
             obtain rfl := Option.some.inj H
             have p134 : 0 ≤ (x17_2 : Int) := od
             have q134 : x17_2 < (l1.length : Int) := od
             obtain ⟨ad134, e134, hx134_0, hx134_1, hx134_2⟩ := at_T51 HR1.out x17_2 p134 q134
             cases e134
             replace hx134_0 := (HB.out.cell (World.block_lt_of_cell? w _ hx134_0)).trans hx134_0
             replace hx134_1 := (HB.out.cell (World.block_lt_of_cell? w _ hx134_1)).trans hx134_1
             replace hx134_2 := (HB.out.cell (World.block_lt_of_cell? w _ hx134_2)).trans hx134_2
             replace p134 := eq_true p134
             replace q134 := eq_true q134
             go_wp2_with (first | ((with_reducible refine gate_dst (N := 6) rfl ?_); (try (refine gate_guard (by rfl) ?_; dsimp only)); refine box_event ?hg (N := 6) ?hd (cs := #[.int .i64 0, .int .i64 0, .int .i64 0]) (t := 51) ?hr ?_; (case hd => rfl); (case hg => rfl); (case hr => first | (go_simp; done) | (go_simp; rfl)); intro gb135 hg w17 hbox hb; have n0_ := Aside0.mk (below_step (mvB HB.out) hb); have n1_ := Aside0.mk (hbox); have n2_ := Aside0.mk ((by rw [hg]; exact (below_size (mvB HB.out)) : w.heap.size ≤ gb135)); have n3_ := Aside0.mk ((by rw [hg]; exact (below_size (mvB HB.out)) : w.heap.size ≤ gb135)); clear HB; revert n0_ n1_ n2_ n3_; intro HB BK135 GW135 GE135; clear hb hbox hg; have hcz18_0 : w17.cell? ⟨gb135, 0, none⟩ = some (.int .i64 0) := (blk_cell BK135.out 0).trans rfl; have hcz18_1 : w17.cell? ⟨gb135, 1, none⟩ = some (.int .i64 0) := (blk_cell BK135.out 1).trans rfl; have hcz18_2 : w17.cell? ⟨gb135, 2, none⟩ = some (.int .i64 0) := (blk_cell BK135.out 2).trans rfl; have hfz18_0 := blk_frozen BK135.out 0; have hfz18_1 := blk_frozen BK135.out 1; have hfz18_2 := blk_frozen BK135.out 2) | ((with_reducible refine gate_callee (f := 50) rfl ?_); refine goesA_ (some 23) Tryd.func50 #[.int .i64 ((rd_T51 l1 x17_2).f0), .int .i64 1, .int .i64 3] ?_; (with_reducible refine (impl_within.calls ((rd_T51 l1 x17_2).f0) 1 3 true _ A10.out).mono ?_); rintro e w' ⟨rfl, ⟨nd, rfl⟩⟩; refine ⟨_, rfl, ?_⟩) | (go_at_call 50; (try simp only [Go.IntWalk.i64_left]); (with_reducible refine (impl_within.calls ((rd_T51 l1 x17_2).f1) 0 (wrap64 (a0 - 1)) true _ A12.out).mono ?_); rintro e w' ⟨rfl, ⟨nd, rfl⟩⟩) | (go_at_call 50; (try simp only [Go.IntWalk.i64_left]); (with_reducible refine (impl_within.calls ((rd_T51 l1 x17_2).f2) 0 (wrap64 (a0 - 1)) true _ A14.out).mono ?_); rintro e w' ⟨rfl, ⟨nd, rfl⟩⟩))
             go_ret
             exact ⟨by first | rfl | (simp [errW_none, errW_some] <;> rfl) | (simp [*, errW_none, errW_some] <;> rfl), by repeat (first | (with_reducible first | exact HB.out | apply below_alloc | apply pw_below_drewN | apply below_drew1 | refine below_set ?_ GE135.out) | exact HB.out)⟩
            ·
             rw [if_neg c16] at H
             have c16b0 : (((rd_T51 l1 x17_2).f1) == ((rd_T51 l1 x17_2).f2)) = false := beq_eq_false_iff_ne.mpr c16
             have c16b1 : (((rd_T51 l1 x17_2).f1) != ((rd_T51 l1 x17_2).f2)) = true := bne_iff_ne.mpr c16
             have H' := Aside0.mk H
             clear H
             have p134 : 0 ≤ (x17_2 : Int) := od
             have q134 : x17_2 < (l1.length : Int) := od
             obtain ⟨ad134, e134, hx134_0, hx134_1, hx134_2⟩ := at_T51 HR1.out x17_2 p134 q134
             cases e134
             replace hx134_0 := (HB.out.cell (World.block_lt_of_cell? w _ hx134_0)).trans hx134_0
             replace hx134_1 := (HB.out.cell (World.block_lt_of_cell? w _ hx134_1)).trans hx134_1
             replace hx134_2 := (HB.out.cell (World.block_lt_of_cell? w _ hx134_2)).trans hx134_2
             replace p134 := eq_true p134
             replace q134 := eq_true q134
             go_wp2_with (first | ((with_reducible refine gate_dst (N := 6) rfl ?_); (try (refine gate_guard (by rfl) ?_; dsimp only)); refine box_event ?hg (N := 6) ?hd (cs := #[.int .i64 0, .int .i64 0, .int .i64 0]) (t := 51) ?hr ?_; (case hd => rfl); (case hg => rfl); (case hr => first | (go_simp; done) | (go_simp; rfl)); intro gb135 hg w19 hbox hb; have n0_ := Aside0.mk (below_step (mvB HB.out) hb); have n1_ := Aside0.mk (hbox); have n2_ := Aside0.mk ((by rw [hg]; exact (below_size (mvB HB.out)) : w.heap.size ≤ gb135)); have n3_ := Aside0.mk ((by rw [hg]; exact (below_size (mvB HB.out)) : w.heap.size ≤ gb135)); clear HB; revert n0_ n1_ n2_ n3_; intro HB BK135 GW135 GE135; clear hb hbox hg; have hcz20_0 : w19.cell? ⟨gb135, 0, none⟩ = some (.int .i64 0) := (blk_cell BK135.out 0).trans rfl; have hcz20_1 : w19.cell? ⟨gb135, 1, none⟩ = some (.int .i64 0) := (blk_cell BK135.out 1).trans rfl; have hcz20_2 : w19.cell? ⟨gb135, 2, none⟩ = some (.int .i64 0) := (blk_cell BK135.out 2).trans rfl; have hfz20_0 := blk_frozen BK135.out 0; have hfz20_1 := blk_frozen BK135.out 1; have hfz20_2 := blk_frozen BK135.out 2) | ((with_reducible refine gate_callee (f := 50) rfl ?_); refine goesA_ (some 23) Tryd.func50 #[.int .i64 ((rd_T51 l1 x17_2).f0), .int .i64 1, .int .i64 3] ?_; (with_reducible refine (impl_within.calls ((rd_T51 l1 x17_2).f0) 1 3 true _ A10.out).mono ?_); rintro e w' ⟨rfl, ⟨nd, rfl⟩⟩; refine ⟨_, rfl, ?_⟩) | (go_at_call 50; (try simp only [Go.IntWalk.i64_left]); (with_reducible refine (impl_within.calls ((rd_T51 l1 x17_2).f1) 0 (wrap64 (a0 - 1)) true _ A12.out).mono ?_); rintro e w' ⟨rfl, ⟨nd, rfl⟩⟩) | (go_at_call 50; (try simp only [Go.IntWalk.i64_left]); (with_reducible refine (impl_within.calls ((rd_T51 l1 x17_2).f2) 0 (wrap64 (a0 - 1)) true _ A14.out).mono ?_); rintro e w' ⟨rfl, ⟨nd, rfl⟩⟩))
             go_roundg k2
             case measure => have := HJ2.out; have := HK2.out; omega
             case rel => exact ⟨(wrap64 (x17_2 + 1)), rs, H', ⟨by have := HJ2.out; have := HK2.out; omega⟩, ⟨by repeat (first | (with_reducible first | exact HB.out | apply below_alloc | apply pw_below_drewN | apply below_drew1 | refine below_set ?_ GE135.out) | exact HB.out)⟩⟩
           ·
            replace c15 := Bool.eq_false_iff.mpr c15
            subst c15
            have H1 : (some false) = some r := by rw [if_neg (show ¬ (false = true) by decide)] at H; exact H
            clear H
            have H := H1
            clear H1
            obtain rfl := Option.some.inj H
            have p134 : 0 ≤ (x17_2 : Int) := od
            have q134 : x17_2 < (l1.length : Int) := od
            obtain ⟨ad134, e134, hx134_0, hx134_1, hx134_2⟩ := at_T51 HR1.out x17_2 p134 q134
            cases e134
            replace hx134_0 := (HB.out.cell (World.block_lt_of_cell? w _ hx134_0)).trans hx134_0
            replace hx134_1 := (HB.out.cell (World.block_lt_of_cell? w _ hx134_1)).trans hx134_1
            replace hx134_2 := (HB.out.cell (World.block_lt_of_cell? w _ hx134_2)).trans hx134_2
            replace p134 := eq_true p134
            replace q134 := eq_true q134
            go_wp2_with (first | ((with_reducible refine gate_dst (N := 6) rfl ?_); (try (refine gate_guard (by rfl) ?_; dsimp only)); refine box_event ?hg (N := 6) ?hd (cs := #[.int .i64 0, .int .i64 0, .int .i64 0]) (t := 51) ?hr ?_; (case hd => rfl); (case hg => rfl); (case hr => first | (go_simp; done) | (go_simp; rfl)); intro gb135 hg w21 hbox hb; have n0_ := Aside0.mk (below_step (mvB HB.out) hb); have n1_ := Aside0.mk (hbox); have n2_ := Aside0.mk ((by rw [hg]; exact (below_size (mvB HB.out)) : w.heap.size ≤ gb135)); have n3_ := Aside0.mk ((by rw [hg]; exact (below_size (mvB HB.out)) : w.heap.size ≤ gb135)); clear HB; revert n0_ n1_ n2_ n3_; intro HB BK135 GW135 GE135; clear hb hbox hg; have hcz22_0 : w21.cell? ⟨gb135, 0, none⟩ = some (.int .i64 0) := (blk_cell BK135.out 0).trans rfl; have hcz22_1 : w21.cell? ⟨gb135, 1, none⟩ = some (.int .i64 0) := (blk_cell BK135.out 1).trans rfl; have hcz22_2 : w21.cell? ⟨gb135, 2, none⟩ = some (.int .i64 0) := (blk_cell BK135.out 2).trans rfl; have hfz22_0 := blk_frozen BK135.out 0; have hfz22_1 := blk_frozen BK135.out 1; have hfz22_2 := blk_frozen BK135.out 2) | ((with_reducible refine gate_callee (f := 50) rfl ?_); refine goesA_ (some 23) Tryd.func50 #[.int .i64 ((rd_T51 l1 x17_2).f0), .int .i64 1, .int .i64 3] ?_; (with_reducible refine (impl_within.calls ((rd_T51 l1 x17_2).f0) 1 3 true _ A10.out).mono ?_); rintro e w' ⟨rfl, ⟨nd, rfl⟩⟩; refine ⟨_, rfl, ?_⟩) | (go_at_call 50; (try simp only [Go.IntWalk.i64_left]); (with_reducible refine (impl_within.calls ((rd_T51 l1 x17_2).f1) 0 (wrap64 (a0 - 1)) true _ A12.out).mono ?_); rintro e w' ⟨rfl, ⟨nd, rfl⟩⟩) | (go_at_call 50; (try simp only [Go.IntWalk.i64_left]); (with_reducible refine (impl_within.calls ((rd_T51 l1 x17_2).f2) 0 (wrap64 (a0 - 1)) false _ A14.out).mono ?_); rintro e w' ⟨rfl, ⟨nd, rfl⟩⟩))
            go_ret
            exact ⟨by first | rfl | (simp [errW_none, errW_some] <;> rfl) | (simp [*, errW_none, errW_some] <;> rfl), by repeat (first | (with_reducible first | exact HB.out | apply below_alloc | apply pw_below_drewN | apply below_drew1 | refine below_set ?_ GE135.out) | exact HB.out)⟩
          ·
           replace c13 := Bool.eq_false_iff.mpr c13
           subst c13
           have H1 : (some false) = some r := by rw [if_neg (show ¬ (false = true) by decide)] at H; exact H
           clear H
           have H := H1
           clear H1
           obtain rfl := Option.some.inj H
           have p134 : 0 ≤ (x17_2 : Int) := od
           have q134 : x17_2 < (l1.length : Int) := od
           obtain ⟨ad134, e134, hx134_0, hx134_1, hx134_2⟩ := at_T51 HR1.out x17_2 p134 q134
           cases e134
           replace hx134_0 := (HB.out.cell (World.block_lt_of_cell? w _ hx134_0)).trans hx134_0
           replace hx134_1 := (HB.out.cell (World.block_lt_of_cell? w _ hx134_1)).trans hx134_1
           replace hx134_2 := (HB.out.cell (World.block_lt_of_cell? w _ hx134_2)).trans hx134_2
           replace p134 := eq_true p134
           replace q134 := eq_true q134
           go_wp2_with (first | ((with_reducible refine gate_dst (N := 6) rfl ?_); (try (refine gate_guard (by rfl) ?_; dsimp only)); refine box_event ?hg (N := 6) ?hd (cs := #[.int .i64 0, .int .i64 0, .int .i64 0]) (t := 51) ?hr ?_; (case hd => rfl); (case hg => rfl); (case hr => first | (go_simp; done) | (go_simp; rfl)); intro gb135 hg w23 hbox hb; have n0_ := Aside0.mk (below_step (mvB HB.out) hb); have n1_ := Aside0.mk (hbox); have n2_ := Aside0.mk ((by rw [hg]; exact (below_size (mvB HB.out)) : w.heap.size ≤ gb135)); have n3_ := Aside0.mk ((by rw [hg]; exact (below_size (mvB HB.out)) : w.heap.size ≤ gb135)); clear HB; revert n0_ n1_ n2_ n3_; intro HB BK135 GW135 GE135; clear hb hbox hg; have hcz24_0 : w23.cell? ⟨gb135, 0, none⟩ = some (.int .i64 0) := (blk_cell BK135.out 0).trans rfl; have hcz24_1 : w23.cell? ⟨gb135, 1, none⟩ = some (.int .i64 0) := (blk_cell BK135.out 1).trans rfl; have hcz24_2 : w23.cell? ⟨gb135, 2, none⟩ = some (.int .i64 0) := (blk_cell BK135.out 2).trans rfl; have hfz24_0 := blk_frozen BK135.out 0; have hfz24_1 := blk_frozen BK135.out 1; have hfz24_2 := blk_frozen BK135.out 2) | ((with_reducible refine gate_callee (f := 50) rfl ?_); refine goesA_ (some 23) Tryd.func50 #[.int .i64 ((rd_T51 l1 x17_2).f0), .int .i64 1, .int .i64 3] ?_; (with_reducible refine (impl_within.calls ((rd_T51 l1 x17_2).f0) 1 3 true _ A10.out).mono ?_); rintro e w' ⟨rfl, ⟨nd, rfl⟩⟩; refine ⟨_, rfl, ?_⟩) | (go_at_call 50; (try simp only [Go.IntWalk.i64_left]); (with_reducible refine (impl_within.calls ((rd_T51 l1 x17_2).f1) 0 (wrap64 (a0 - 1)) false _ A12.out).mono ?_); rintro e w' ⟨rfl, ⟨nd, rfl⟩⟩))
           go_ret
           exact ⟨by first | rfl | (simp [errW_none, errW_some] <;> rfl) | (simp [*, errW_none, errW_some] <;> rfl), by repeat (first | (with_reducible first | exact HB.out | apply below_alloc | apply pw_below_drewN | apply below_drew1 | refine below_set ?_ GE135.out) | exact HB.out)⟩
         ·
          replace c11 := Bool.eq_false_iff.mpr c11
          subst c11
          have H1 : (some false) = some r := by rw [if_neg (show ¬ (false = true) by decide)] at H; exact H
          clear H
          have H := H1
          clear H1
          obtain rfl := Option.some.inj H
          have p134 : 0 ≤ (x17_2 : Int) := od
          have q134 : x17_2 < (l1.length : Int) := od
          obtain ⟨ad134, e134, hx134_0, hx134_1, hx134_2⟩ := at_T51 HR1.out x17_2 p134 q134
          cases e134
          replace hx134_0 := (HB.out.cell (World.block_lt_of_cell? w _ hx134_0)).trans hx134_0
          replace hx134_1 := (HB.out.cell (World.block_lt_of_cell? w _ hx134_1)).trans hx134_1
          replace hx134_2 := (HB.out.cell (World.block_lt_of_cell? w _ hx134_2)).trans hx134_2
          replace p134 := eq_true p134
          replace q134 := eq_true q134
          go_wp2_with (first | ((with_reducible refine gate_dst (N := 6) rfl ?_); (try (refine gate_guard (by rfl) ?_; dsimp only)); refine box_event ?hg (N := 6) ?hd (cs := #[.int .i64 0, .int .i64 0, .int .i64 0]) (t := 51) ?hr ?_; (case hd => rfl); (case hg => rfl); (case hr => first | (go_simp; done) | (go_simp; rfl)); intro gb135 hg w25 hbox hb; have n0_ := Aside0.mk (below_step (mvB HB.out) hb); have n1_ := Aside0.mk (hbox); have n2_ := Aside0.mk ((by rw [hg]; exact (below_size (mvB HB.out)) : w.heap.size ≤ gb135)); have n3_ := Aside0.mk ((by rw [hg]; exact (below_size (mvB HB.out)) : w.heap.size ≤ gb135)); clear HB; revert n0_ n1_ n2_ n3_; intro HB BK135 GW135 GE135; clear hb hbox hg; have hcz26_0 : w25.cell? ⟨gb135, 0, none⟩ = some (.int .i64 0) := (blk_cell BK135.out 0).trans rfl; have hcz26_1 : w25.cell? ⟨gb135, 1, none⟩ = some (.int .i64 0) := (blk_cell BK135.out 1).trans rfl; have hcz26_2 : w25.cell? ⟨gb135, 2, none⟩ = some (.int .i64 0) := (blk_cell BK135.out 2).trans rfl; have hfz26_0 := blk_frozen BK135.out 0; have hfz26_1 := blk_frozen BK135.out 1; have hfz26_2 := blk_frozen BK135.out 2) | ((with_reducible refine gate_callee (f := 50) rfl ?_); refine goesA_ (some 23) Tryd.func50 #[.int .i64 ((rd_T51 l1 x17_2).f0), .int .i64 1, .int .i64 3] ?_; (with_reducible refine (impl_within.calls ((rd_T51 l1 x17_2).f0) 1 3 false _ A10.out).mono ?_); rintro e w' ⟨rfl, ⟨nd, rfl⟩⟩; refine ⟨_, rfl, ?_⟩))
          go_ret
          exact ⟨by first | rfl | (simp [errW_none, errW_some] <;> rfl) | (simp [*, errW_none, errW_some] <;> rfl), by repeat (first | (with_reducible first | exact HB.out | apply below_alloc | apply pw_below_drewN | apply below_drew1 | refine below_set ?_ GE135.out) | exact HB.out)⟩
        ·
         rw [if_neg c9] at H
         exact absurd H (by simp)
       ·
        rw [if_neg c8] at H
        exact absurd H (by simp)
      ·
       rw [if_neg c7] at H
       have c7b0 : decide (x17_2 < (l1.length : Int)) = false := decide_eq_false c7
       clear c7
       obtain rfl := Option.some.inj H
       go_wp2
       go_ret
       exact ⟨by first | rfl | (simp [errW_none, errW_some] <;> rfl) | (simp [*, errW_none, errW_some] <;> rfl), mvB HB.out⟩

/-! ### impl_switchSet: function 29 -/
def impl_switchSet.l0 : Nat → Int → List Bool → Int → Int → Option (Int)
 | 0, _, _, _, _ => none
 | k + 1, x3, x6, x7, x8 => if x8 < x7 then (if 0 ≤ x8 then (if x8 < (x6.length : Int) then (if rdOf false x6 x8 = true then (impl_switchSet.l0 k (Go.bits .or .i64 x3 (shl .i64 1 x8)) x6 x7 (wrap64 (x8 + 1))) else (impl_switchSet.l0 k x3 x6 x7 (wrap64 (x8 + 1)))) else (none)) else (none)) else (some x3)
def impl_switchSet.f (k : Nat) (l0 : List Bool) : Option (Int) := impl_switchSet.l0 k 0 l0 (l0.length : Int) 0
theorem impl_switchSet.mono_l : ∀ k, (∀ y0 y1 y2 y3, LeO (impl_switchSet.l0 k y0 y1 y2 y3) (impl_switchSet.l0 (k + 1) y0 y1 y2 y3))
 | 0 => fun _ _ _ _ r h => by simp [impl_switchSet.l0] at h
 | k + 1 => by
  have ih0 := impl_switchSet.mono_l k
  ·
   intro y0 y1 y2 y3
   unfold impl_switchSet.l0
   repeat' first
   | (with_reducible exact ih0 _ _ _ _)
   | (with_reducible exact LeO.refl _)
   | (with_reducible exact LeO.none _)
   | (with_reducible refine LeO.ite ?_ ?_)
   | (with_reducible refine LeO.bind ?_ (fun _ => ?_))
   | exact ih0 _ _ _ _
   | exact LeO.none _
   | refine LeO.ite ?_ ?_
   | refine LeO.bind ?_ (fun _ => ?_)
theorem impl_switchSet.mono : ∀ a0 k, LeO (impl_switchSet.f k a0) (impl_switchSet.f (k + 1) a0) := by
 intro a0 k
 have ih0 := impl_switchSet.mono_l k
 unfold impl_switchSet.f
 repeat' first
  | (with_reducible exact ih0 _ _ _ _)
  | (with_reducible exact LeO.refl _)
  | (with_reducible exact LeO.none _)
  | (with_reducible refine LeO.ite ?_ ?_)
  | (with_reducible refine LeO.bind ?_ (fun _ => ?_))
  | exact ih0 _ _ _ _
  | exact LeO.none _
  | refine LeO.ite ?_ ?_
  | refine LeO.bind ?_ (fun _ => ?_)
set_option maxHeartbeats 8000000 in
set_option maxRecDepth 100000 in
theorem impl_switchSet.calls (k : Nat) (A0 : Option Addr) (c0 : Nat) (l0 : List Bool) (r : Int) (w : World) (hr0 : Kd.C Kd.bool w A0 l0.length l0) (hc0 : l0.length ≤ c0) (h : impl_switchSet.f k l0 = some r) :
  Calls Tryd.prog 29 #[.slice A0 l0.length c0] w fun e w' => e = .returned (.int .i64 r) ∧ Drawn0 w w' := by
 have HR0 := Aside0.mk hr0
 have HC0 := Aside0.mk hc0
 clear hr0 hc0
 have H : (impl_switchSet.l0 k 0 l0 (l0.length : Int) 0) = some r := h
 clear h
 have H' := Aside0.mk H
 clear H
 go_enter Tryd.func29, Tryd.ntmps29
 go_wp2
 go_loopg [3, 8] k (fun kq v3 v8 w' => ∃ (x3_1 : Int) (x8_1 : Int), v3 = .int .i64 x3_1 ∧ v8 = .int .i64 x8_1 ∧ Aside0 (impl_switchSet.l0 kq x3_1 l0 (l0.length : Int) x8_1 = some r) ∧ Aside0 (kq ≤ k) ∧ Drawn0 w w')
 case atStart => exact ⟨(0), (0), rs, rs, H', ⟨Nat.le_refl _⟩, dr0⟩
 case round =>
  clear H'
  obtain ⟨x3_1, x8_1, rfl, rfl, HA, HK1, ⟨m1, rfl⟩⟩ := hrel
  cases gk with
  | zero => exact absurd HA.out (by simp [impl_switchSet.l0])
  | succ k1 =>
   have H := HA.out
   clear HA
   simp only [impl_switchSet.l0] at H
   by_cases c2 : x8_1 < (l0.length : Int)
   ·
    rw [if_pos c2] at H
    have c2b0 : decide (x8_1 < (l0.length : Int)) = true := decide_eq_true c2
    clear c2
    by_cases c3 : 0 ≤ x8_1
    ·
     rw [if_pos c3] at H
     have c3b0 : decide (0 ≤ x8_1) = true := decide_eq_true c3
     clear c3
     by_cases c4 : x8_1 < (l0.length : Int)
     ·
      rw [if_pos c4] at H
      have c4b0 : decide (x8_1 < (l0.length : Int)) = true := decide_eq_true c4
      clear c4
      obtain ⟨bq5, hbq5⟩ : ∃ b_ : Bool, b_ = (rdOf false l0 x8_1) := ⟨_, rfl⟩
      replace H : (if bq5 = true then (impl_switchSet.l0 k1 (Go.bits .or .i64 x3_1 (shl .i64 1 x8_1)) l0 (l0.length : Int) (wrap64 (x8_1 + 1))) else (impl_switchSet.l0 k1 x3_1 l0 (l0.length : Int) (wrap64 (x8_1 + 1)))) = some r := by rw [← hbq5] at H; exact H
      have Nbq5 := Aside0.mk hbq5
      clear hbq5
      by_cases c6 : bq5 = true
      ·
       subst c6
       have H1 : (impl_switchSet.l0 k1 (Go.bits .or .i64 x3_1 (shl .i64 1 x8_1)) l0 (l0.length : Int) (wrap64 (x8_1 + 1))) = some r := by rw [if_pos rfl] at H; exact H
       clear H
       have H := H1
       clear H1
       have c7b0 := eq_true (od : 0 ≤ x8_1)
       obtain ⟨ji8, hji8⟩ : ∃ j_ : Int, (shl .i64 1 x8_1) = j_ := ⟨_, rfl⟩
       replace H : (impl_switchSet.l0 k1 (Go.bits .or .i64 x3_1 (ji8)) l0 (l0.length : Int) (wrap64 (x8_1 + 1))) = some r := by first | (rw [hji8] at H; exact H) | (simp only [hji8] at H ⊢; exact H)
       have hji8_ : (IntKind.i64.wrap (1 * 2 ^ min x8_1.toNat 64)) = ji8 := hji8
       have hji8z : x8_1 ≤ 64 → (IntKind.i64.wrap (1 * 2 ^ x8_1.toNat)) = ji8 := shl_small hji8
       have hji8u : (IntKind.i64.wrap (2 ^ min x8_1.toNat 64)) = ji8 := by have h_ := hji8_; rw [Int.one_mul] at h_; exact h_
       have hji8v : x8_1 ≤ 64 → (IntKind.i64.wrap (2 ^ x8_1.toNat)) = ji8 := fun hle_ => by have h_ := hji8z hle_; rw [Int.one_mul] at h_; exact h_
       have hji8y : (wrap64 (1 * 2 ^ min x8_1.toNat 64)) = ji8 := (i64_w _).symm.trans hji8_
       have hji8x : x8_1 ≤ 64 → (wrap64 (1 * 2 ^ x8_1.toNat)) = ji8 := fun h_ => (i64_w _).symm.trans (hji8z h_)
       have H' := Aside0.mk H
       clear H
       have p139 : 0 ≤ (x8_1 : Int) := od
       have q139 : x8_1 < (l0.length : Int) := od
       obtain ⟨ad139, e139, hx139_0⟩ := Kd.at_bool HR0.out x8_1 p139 q139
       (try rw [← Nbq5.out] at hx139_0)
       cases e139
       replace p139 := eq_true p139
       replace q139 := eq_true q139
       go_wp2
       go_roundg k1
       case measure => have := HK1.out; omega
       case rel => exact ⟨(Go.bits .or .i64 x3_1 (ji8)), (wrap64 (x8_1 + 1)), (by first | rfl | (simp; done) | (simp only [← hji8] <;> (first | rfl | simp)) | (simp [*]; done)), rs, H', ⟨by have := HK1.out; omega⟩, dr0⟩
      ·
       replace c6 := Bool.eq_false_iff.mpr c6
       subst c6
       have H1 : (impl_switchSet.l0 k1 x3_1 l0 (l0.length : Int) (wrap64 (x8_1 + 1))) = some r := by rw [if_neg (show ¬ (false = true) by decide)] at H; exact H
       clear H
       have H := H1
       clear H1
       have H' := Aside0.mk H
       clear H
       have p139 : 0 ≤ (x8_1 : Int) := od
       have q139 : x8_1 < (l0.length : Int) := od
       obtain ⟨ad139, e139, hx139_0⟩ := Kd.at_bool HR0.out x8_1 p139 q139
       (try rw [← Nbq5.out] at hx139_0)
       cases e139
       replace p139 := eq_true p139
       replace q139 := eq_true q139
       go_wp2
       go_roundg k1
       case measure => have := HK1.out; omega
       case rel => exact ⟨(x3_1), (wrap64 (x8_1 + 1)), rs, rs, H', ⟨by have := HK1.out; omega⟩, dr0⟩
     ·
      rw [if_neg c4] at H
      exact absurd H (by simp)
    ·
     rw [if_neg c3] at H
     exact absurd H (by simp)
   ·
    rw [if_neg c2] at H
    have c2b0 : decide (x8_1 < (l0.length : Int)) = false := decide_eq_false c2
    clear c2
    obtain rfl := Option.some.inj H
    go_wp2
    go_ret
    exact ⟨rs, dr0⟩

/-! ### impl_switches_breaks: function 35 -/
def impl_switches_breaks.f (a0 : Int) (a1_0 : Int) (a1_1 : Int) (a1_2 : Int) : Option (Bool) := if 0 ≤ a1_1 then (if 0 ≤ a1_2 then (if a1_0 = 1 then (if (Go.bits .and .i64 (shr .i64 a0 a1_1) 1) = 1 then (some ((Go.bits .and .i64 (shr .i64 a0 a1_2) 1) == 1)) else (some false)) else (if a1_0 = 2 then (if ((Go.bits .and .i64 (shr .i64 a0 a1_1) 1) = 1) then (some false) else (some (!((Go.bits .and .i64 (shr .i64 a0 a1_2) 1) == 1)))) else (if (Go.bits .and .i64 (shr .i64 a0 a1_1) 1) = 1 then (some (!((Go.bits .and .i64 (shr .i64 a0 a1_2) 1) == 1))) else (some false)))) else (none)) else (none)
set_option maxHeartbeats 8000000 in
set_option maxRecDepth 100000 in
theorem impl_switches_breaks.calls (a0 : Int) (a1_0 : Int) (a1_1 : Int) (a1_2 : Int) (r : Bool) (w : World) (h : impl_switches_breaks.f a0 a1_0 a1_1 a1_2 = some r) :
  Calls Tryd.prog 35 #[.int .i64 a0, .agg #[.int .i64 a1_0, .int .i64 a1_1, .int .i64 a1_2]] w fun e w' => e = .returned (.bool r) ∧ Below w.heap.size w w' := by
 have hu51 := Tryd.underlying51
 have HB := Aside0.mk (Below.refl w.heap.size w)
 have H : (if 0 ≤ a1_1 then (if 0 ≤ a1_2 then (if a1_0 = 1 then (if (Go.bits .and .i64 (shr .i64 a0 a1_1) 1) = 1 then (some ((Go.bits .and .i64 (shr .i64 a0 a1_2) 1) == 1)) else (some false)) else (if a1_0 = 2 then (if ((Go.bits .and .i64 (shr .i64 a0 a1_1) 1) = 1) then (some false) else (some (!((Go.bits .and .i64 (shr .i64 a0 a1_2) 1) == 1)))) else (if (Go.bits .and .i64 (shr .i64 a0 a1_1) 1) = 1 then (some (!((Go.bits .and .i64 (shr .i64 a0 a1_2) 1) == 1))) else (some false)))) else (none)) else (none)) = some r := h
 clear h
 by_cases c3 : 0 ≤ a1_1
 ·
  rw [if_pos c3] at H
  have c3b0 := eq_true c3
  have c3b1 : decide (0 ≤ a1_1) = true := decide_eq_true c3
  clear c3
  obtain ⟨ji4, hji4⟩ : ∃ j_ : Int, (shr .i64 a0 a1_1) = j_ := ⟨_, rfl⟩
  replace H : (if 0 ≤ a1_2 then (if a1_0 = 1 then (if (Go.bits .and .i64 (ji4) 1) = 1 then (some ((Go.bits .and .i64 (shr .i64 a0 a1_2) 1) == 1)) else (some false)) else (if a1_0 = 2 then (if ((Go.bits .and .i64 (ji4) 1) = 1) then (some false) else (some (!((Go.bits .and .i64 (shr .i64 a0 a1_2) 1) == 1)))) else (if (Go.bits .and .i64 (ji4) 1) = 1 then (some (!((Go.bits .and .i64 (shr .i64 a0 a1_2) 1) == 1))) else (some false)))) else (none)) = some r := by first | (rw [hji4] at H; exact H) | (simp only [hji4] at H ⊢; exact H)
  have hji4_ : (a0 / 2 ^ min a1_1.toNat 64) = ji4 := hji4
  have hji4z : a1_1 ≤ 64 → (a0 / 2 ^ a1_1.toNat) = ji4 := shr_small hji4
  by_cases c5 : 0 ≤ a1_2
  ·
   rw [if_pos c5] at H
   have c5b0 := eq_true c5
   have c5b1 : decide (0 ≤ a1_2) = true := decide_eq_true c5
   clear c5
   obtain ⟨ji6, hji6⟩ : ∃ j_ : Int, (shr .i64 a0 a1_2) = j_ := ⟨_, rfl⟩
   replace H : (if a1_0 = 1 then (if (Go.bits .and .i64 (ji4) 1) = 1 then (some ((Go.bits .and .i64 (ji6) 1) == 1)) else (some false)) else (if a1_0 = 2 then (if ((Go.bits .and .i64 (ji4) 1) = 1) then (some false) else (some (!((Go.bits .and .i64 (ji6) 1) == 1)))) else (if (Go.bits .and .i64 (ji4) 1) = 1 then (some (!((Go.bits .and .i64 (ji6) 1) == 1))) else (some false)))) = some r := by first | (rw [hji6] at H; exact H) | (simp only [hji6] at H ⊢; exact H)
   have hji6_ : (a0 / 2 ^ min a1_2.toNat 64) = ji6 := hji6
   have hji6z : a1_2 ≤ 64 → (a0 / 2 ^ a1_2.toNat) = ji6 := shr_small hji6
   by_cases c7 : a1_0 = 1
   ·
    rw [if_pos c7] at H
    have c7b0 : (a1_0 == 1) = true := beq_iff_eq.mpr c7
    have c7b1 : (a1_0 != 1) = false := bne_eq_false_iff_eq.mpr c7
    clear c7
    by_cases c8 : (Go.bits .and .i64 (ji4) 1) = 1
    ·
     rw [if_pos c8] at H
     have c8b0 : ((Go.bits .and .i64 (ji4) 1) == 1) = true := beq_iff_eq.mpr c8
     have c8b1 : ((Go.bits .and .i64 (ji4) 1) != 1) = false := bne_eq_false_iff_eq.mpr c8
     clear c8
     obtain rfl := Option.some.inj H
     go_enter Tryd.func35, Tryd.ntmps35
     go_wp2_with (first | ((with_reducible refine gate_dst (N := 3) rfl ?_); refine box_event ?hg (N := 3) ?hd (cs := #[.int .i64 a1_0, .int .i64 a1_1, .int .i64 a1_2]) (t := 51) ?hr ?_; (case hd => rfl); (case hg => rfl); (case hr => first | (go_simp; done) | (go_simp; rfl)); intro gb140 hg w9 hbox hb; have n0_ := Aside0.mk (below_step (mvB HB.out) hb); have n1_ := Aside0.mk (hbox); have n2_ := Aside0.mk ((by rw [hg]; exact (below_size (mvB HB.out)) : w.heap.size ≤ gb140)); have n3_ := Aside0.mk ((by rw [hg]; exact (below_size (mvB HB.out)) : w.heap.size ≤ gb140)); clear HB; revert n0_ n1_ n2_ n3_; intro HB BK140 GW140 GE140; clear hb hbox hg; have hcz10_0 : w9.cell? ⟨gb140, 0, none⟩ = some (.int .i64 a1_0) := (blk_cell BK140.out 0).trans rfl; have hcz10_1 : w9.cell? ⟨gb140, 1, none⟩ = some (.int .i64 a1_1) := (blk_cell BK140.out 1).trans rfl; have hcz10_2 : w9.cell? ⟨gb140, 2, none⟩ = some (.int .i64 a1_2) := (blk_cell BK140.out 2).trans rfl; have hfz10_0 := blk_frozen BK140.out 0; have hfz10_1 := blk_frozen BK140.out 1; have hfz10_2 := blk_frozen BK140.out 2))
     repeat (go_quiet (first | ((with_reducible refine gate_dst (N := 3) rfl ?_); refine box_event ?hg (N := 3) ?hd (cs := #[.int .i64 a1_0, .int .i64 a1_1, .int .i64 a1_2]) (t := 51) ?hr ?_; (case hd => rfl); (case hg => rfl); (case hr => first | (go_simp; done) | (go_simp; rfl)); intro gb140 hg w9 hbox hb; have n0_ := Aside0.mk (below_step (mvB HB.out) hb); have n1_ := Aside0.mk (hbox); have n2_ := Aside0.mk ((by rw [hg]; exact (below_size (mvB HB.out)) : w.heap.size ≤ gb140)); have n3_ := Aside0.mk ((by rw [hg]; exact (below_size (mvB HB.out)) : w.heap.size ≤ gb140)); clear HB; revert n0_ n1_ n2_ n3_; intro HB BK140 GW140 GE140; clear hb hbox hg; have hcz10_0 : w9.cell? ⟨gb140, 0, none⟩ = some (.int .i64 a1_0) := (blk_cell BK140.out 0).trans rfl; have hcz10_1 : w9.cell? ⟨gb140, 1, none⟩ = some (.int .i64 a1_1) := (blk_cell BK140.out 1).trans rfl; have hcz10_2 : w9.cell? ⟨gb140, 2, none⟩ = some (.int .i64 a1_2) := (blk_cell BK140.out 2).trans rfl; have hfz10_0 := blk_frozen BK140.out 0; have hfz10_1 := blk_frozen BK140.out 1; have hfz10_2 := blk_frozen BK140.out 2)); try go_wp2_with (first | ((with_reducible refine gate_dst (N := 3) rfl ?_); refine box_event ?hg (N := 3) ?hd (cs := #[.int .i64 a1_0, .int .i64 a1_1, .int .i64 a1_2]) (t := 51) ?hr ?_; (case hd => rfl); (case hg => rfl); (case hr => first | (go_simp; done) | (go_simp; rfl)); intro gb140 hg w9 hbox hb; have n0_ := Aside0.mk (below_step (mvB HB.out) hb); have n1_ := Aside0.mk (hbox); have n2_ := Aside0.mk ((by rw [hg]; exact (below_size (mvB HB.out)) : w.heap.size ≤ gb140)); have n3_ := Aside0.mk ((by rw [hg]; exact (below_size (mvB HB.out)) : w.heap.size ≤ gb140)); clear HB; revert n0_ n1_ n2_ n3_; intro HB BK140 GW140 GE140; clear hb hbox hg; have hcz10_0 : w9.cell? ⟨gb140, 0, none⟩ = some (.int .i64 a1_0) := (blk_cell BK140.out 0).trans rfl; have hcz10_1 : w9.cell? ⟨gb140, 1, none⟩ = some (.int .i64 a1_1) := (blk_cell BK140.out 1).trans rfl; have hcz10_2 : w9.cell? ⟨gb140, 2, none⟩ = some (.int .i64 a1_2) := (blk_cell BK140.out 2).trans rfl; have hfz10_0 := blk_frozen BK140.out 0; have hfz10_1 := blk_frozen BK140.out 1; have hfz10_2 := blk_frozen BK140.out 2)))
     go_ret
     exact ⟨by first | rfl | (simp [errW_none, errW_some] <;> rfl) | (simp only [← hji4, ← hji6]; first | rfl | (simp [errW_none, errW_some] <;> rfl)) | (simp [*, errW_none, errW_some] <;> rfl), by repeat (first | (with_reducible first | exact HB.out | apply below_alloc | apply pw_below_drewN | apply below_drew1 | refine below_set ?_ GE140.out) | exact HB.out)⟩
    ·
     rw [if_neg c8] at H
     have c8b0 : ((Go.bits .and .i64 (ji4) 1) == 1) = false := beq_eq_false_iff_ne.mpr c8
     have c8b1 : ((Go.bits .and .i64 (ji4) 1) != 1) = true := bne_iff_ne.mpr c8
     obtain rfl := Option.some.inj H
     go_enter Tryd.func35, Tryd.ntmps35
     go_wp2_with (first | ((with_reducible refine gate_dst (N := 3) rfl ?_); refine box_event ?hg (N := 3) ?hd (cs := #[.int .i64 a1_0, .int .i64 a1_1, .int .i64 a1_2]) (t := 51) ?hr ?_; (case hd => rfl); (case hg => rfl); (case hr => first | (go_simp; done) | (go_simp; rfl)); intro gb140 hg w11 hbox hb; have n0_ := Aside0.mk (below_step (mvB HB.out) hb); have n1_ := Aside0.mk (hbox); have n2_ := Aside0.mk ((by rw [hg]; exact (below_size (mvB HB.out)) : w.heap.size ≤ gb140)); have n3_ := Aside0.mk ((by rw [hg]; exact (below_size (mvB HB.out)) : w.heap.size ≤ gb140)); clear HB; revert n0_ n1_ n2_ n3_; intro HB BK140 GW140 GE140; clear hb hbox hg; have hcz12_0 : w11.cell? ⟨gb140, 0, none⟩ = some (.int .i64 a1_0) := (blk_cell BK140.out 0).trans rfl; have hcz12_1 : w11.cell? ⟨gb140, 1, none⟩ = some (.int .i64 a1_1) := (blk_cell BK140.out 1).trans rfl; have hcz12_2 : w11.cell? ⟨gb140, 2, none⟩ = some (.int .i64 a1_2) := (blk_cell BK140.out 2).trans rfl; have hfz12_0 := blk_frozen BK140.out 0; have hfz12_1 := blk_frozen BK140.out 1; have hfz12_2 := blk_frozen BK140.out 2))
     repeat (go_quiet (first | ((with_reducible refine gate_dst (N := 3) rfl ?_); refine box_event ?hg (N := 3) ?hd (cs := #[.int .i64 a1_0, .int .i64 a1_1, .int .i64 a1_2]) (t := 51) ?hr ?_; (case hd => rfl); (case hg => rfl); (case hr => first | (go_simp; done) | (go_simp; rfl)); intro gb140 hg w11 hbox hb; have n0_ := Aside0.mk (below_step (mvB HB.out) hb); have n1_ := Aside0.mk (hbox); have n2_ := Aside0.mk ((by rw [hg]; exact (below_size (mvB HB.out)) : w.heap.size ≤ gb140)); have n3_ := Aside0.mk ((by rw [hg]; exact (below_size (mvB HB.out)) : w.heap.size ≤ gb140)); clear HB; revert n0_ n1_ n2_ n3_; intro HB BK140 GW140 GE140; clear hb hbox hg; have hcz12_0 : w11.cell? ⟨gb140, 0, none⟩ = some (.int .i64 a1_0) := (blk_cell BK140.out 0).trans rfl; have hcz12_1 : w11.cell? ⟨gb140, 1, none⟩ = some (.int .i64 a1_1) := (blk_cell BK140.out 1).trans rfl; have hcz12_2 : w11.cell? ⟨gb140, 2, none⟩ = some (.int .i64 a1_2) := (blk_cell BK140.out 2).trans rfl; have hfz12_0 := blk_frozen BK140.out 0; have hfz12_1 := blk_frozen BK140.out 1; have hfz12_2 := blk_frozen BK140.out 2)); try go_wp2_with (first | ((with_reducible refine gate_dst (N := 3) rfl ?_); refine box_event ?hg (N := 3) ?hd (cs := #[.int .i64 a1_0, .int .i64 a1_1, .int .i64 a1_2]) (t := 51) ?hr ?_; (case hd => rfl); (case hg => rfl); (case hr => first | (go_simp; done) | (go_simp; rfl)); intro gb140 hg w11 hbox hb; have n0_ := Aside0.mk (below_step (mvB HB.out) hb); have n1_ := Aside0.mk (hbox); have n2_ := Aside0.mk ((by rw [hg]; exact (below_size (mvB HB.out)) : w.heap.size ≤ gb140)); have n3_ := Aside0.mk ((by rw [hg]; exact (below_size (mvB HB.out)) : w.heap.size ≤ gb140)); clear HB; revert n0_ n1_ n2_ n3_; intro HB BK140 GW140 GE140; clear hb hbox hg; have hcz12_0 : w11.cell? ⟨gb140, 0, none⟩ = some (.int .i64 a1_0) := (blk_cell BK140.out 0).trans rfl; have hcz12_1 : w11.cell? ⟨gb140, 1, none⟩ = some (.int .i64 a1_1) := (blk_cell BK140.out 1).trans rfl; have hcz12_2 : w11.cell? ⟨gb140, 2, none⟩ = some (.int .i64 a1_2) := (blk_cell BK140.out 2).trans rfl; have hfz12_0 := blk_frozen BK140.out 0; have hfz12_1 := blk_frozen BK140.out 1; have hfz12_2 := blk_frozen BK140.out 2)))
     go_ret
     exact ⟨by first | rfl | (simp [errW_none, errW_some] <;> rfl) | (simp only [← hji4, ← hji6]; first | rfl | (simp [errW_none, errW_some] <;> rfl)) | (simp [*, errW_none, errW_some] <;> rfl), by repeat (first | (with_reducible first | exact HB.out | apply below_alloc | apply pw_below_drewN | apply below_drew1 | refine below_set ?_ GE140.out) | exact HB.out)⟩
   ·
    rw [if_neg c7] at H
    have c7b0 : (a1_0 == 1) = false := beq_eq_false_iff_ne.mpr c7
    have c7b1 : (a1_0 != 1) = true := bne_iff_ne.mpr c7
    by_cases c13 : a1_0 = 2
    ·
     rw [if_pos c13] at H
     have c13b0 : (a1_0 == 2) = true := beq_iff_eq.mpr c13
     have c13b1 : (a1_0 != 2) = false := bne_eq_false_iff_eq.mpr c13
     clear c13
     by_cases c14 : ((Go.bits .and .i64 (ji4) 1) = 1)
     ·
      rw [if_pos c14] at H
      have c14b0 : ((Go.bits .and .i64 (ji4) 1) == 1) = true := beq_iff_eq.mpr c14
      have c14b1 : ((Go.bits .and .i64 (ji4) 1) != 1) = false := bne_eq_false_iff_eq.mpr c14
      clear c14
      obtain rfl := Option.some.inj H
      go_enter Tryd.func35, Tryd.ntmps35
      go_wp2_with (first | ((with_reducible refine gate_dst (N := 3) rfl ?_); refine box_event ?hg (N := 3) ?hd (cs := #[.int .i64 a1_0, .int .i64 a1_1, .int .i64 a1_2]) (t := 51) ?hr ?_; (case hd => rfl); (case hg => rfl); (case hr => first | (go_simp; done) | (go_simp; rfl)); intro gb140 hg w15 hbox hb; have n0_ := Aside0.mk (below_step (mvB HB.out) hb); have n1_ := Aside0.mk (hbox); have n2_ := Aside0.mk ((by rw [hg]; exact (below_size (mvB HB.out)) : w.heap.size ≤ gb140)); have n3_ := Aside0.mk ((by rw [hg]; exact (below_size (mvB HB.out)) : w.heap.size ≤ gb140)); clear HB; revert n0_ n1_ n2_ n3_; intro HB BK140 GW140 GE140; clear hb hbox hg; have hcz16_0 : w15.cell? ⟨gb140, 0, none⟩ = some (.int .i64 a1_0) := (blk_cell BK140.out 0).trans rfl; have hcz16_1 : w15.cell? ⟨gb140, 1, none⟩ = some (.int .i64 a1_1) := (blk_cell BK140.out 1).trans rfl; have hcz16_2 : w15.cell? ⟨gb140, 2, none⟩ = some (.int .i64 a1_2) := (blk_cell BK140.out 2).trans rfl; have hfz16_0 := blk_frozen BK140.out 0; have hfz16_1 := blk_frozen BK140.out 1; have hfz16_2 := blk_frozen BK140.out 2))
      repeat (go_quiet (first | ((with_reducible refine gate_dst (N := 3) rfl ?_); refine box_event ?hg (N := 3) ?hd (cs := #[.int .i64 a1_0, .int .i64 a1_1, .int .i64 a1_2]) (t := 51) ?hr ?_; (case hd => rfl); (case hg => rfl); (case hr => first | (go_simp; done) | (go_simp; rfl)); intro gb140 hg w15 hbox hb; have n0_ := Aside0.mk (below_step (mvB HB.out) hb); have n1_ := Aside0.mk (hbox); have n2_ := Aside0.mk ((by rw [hg]; exact (below_size (mvB HB.out)) : w.heap.size ≤ gb140)); have n3_ := Aside0.mk ((by rw [hg]; exact (below_size (mvB HB.out)) : w.heap.size ≤ gb140)); clear HB; revert n0_ n1_ n2_ n3_; intro HB BK140 GW140 GE140; clear hb hbox hg; have hcz16_0 : w15.cell? ⟨gb140, 0, none⟩ = some (.int .i64 a1_0) := (blk_cell BK140.out 0).trans rfl; have hcz16_1 : w15.cell? ⟨gb140, 1, none⟩ = some (.int .i64 a1_1) := (blk_cell BK140.out 1).trans rfl; have hcz16_2 : w15.cell? ⟨gb140, 2, none⟩ = some (.int .i64 a1_2) := (blk_cell BK140.out 2).trans rfl; have hfz16_0 := blk_frozen BK140.out 0; have hfz16_1 := blk_frozen BK140.out 1; have hfz16_2 := blk_frozen BK140.out 2)); try go_wp2_with (first | ((with_reducible refine gate_dst (N := 3) rfl ?_); refine box_event ?hg (N := 3) ?hd (cs := #[.int .i64 a1_0, .int .i64 a1_1, .int .i64 a1_2]) (t := 51) ?hr ?_; (case hd => rfl); (case hg => rfl); (case hr => first | (go_simp; done) | (go_simp; rfl)); intro gb140 hg w15 hbox hb; have n0_ := Aside0.mk (below_step (mvB HB.out) hb); have n1_ := Aside0.mk (hbox); have n2_ := Aside0.mk ((by rw [hg]; exact (below_size (mvB HB.out)) : w.heap.size ≤ gb140)); have n3_ := Aside0.mk ((by rw [hg]; exact (below_size (mvB HB.out)) : w.heap.size ≤ gb140)); clear HB; revert n0_ n1_ n2_ n3_; intro HB BK140 GW140 GE140; clear hb hbox hg; have hcz16_0 : w15.cell? ⟨gb140, 0, none⟩ = some (.int .i64 a1_0) := (blk_cell BK140.out 0).trans rfl; have hcz16_1 : w15.cell? ⟨gb140, 1, none⟩ = some (.int .i64 a1_1) := (blk_cell BK140.out 1).trans rfl; have hcz16_2 : w15.cell? ⟨gb140, 2, none⟩ = some (.int .i64 a1_2) := (blk_cell BK140.out 2).trans rfl; have hfz16_0 := blk_frozen BK140.out 0; have hfz16_1 := blk_frozen BK140.out 1; have hfz16_2 := blk_frozen BK140.out 2)))
      go_ret
      exact ⟨by first | rfl | (simp [errW_none, errW_some] <;> rfl) | (simp only [← hji4, ← hji6]; first | rfl | (simp [errW_none, errW_some] <;> rfl)) | (simp [*, errW_none, errW_some] <;> rfl), by repeat (first | (with_reducible first | exact HB.out | apply below_alloc | apply pw_below_drewN | apply below_drew1 | refine below_set ?_ GE140.out) | exact HB.out)⟩
     ·
      rw [if_neg c14] at H
      have c14b0 : ((Go.bits .and .i64 (ji4) 1) == 1) = false := beq_eq_false_iff_ne.mpr c14
      have c14b1 : ((Go.bits .and .i64 (ji4) 1) != 1) = true := bne_iff_ne.mpr c14
      obtain rfl := Option.some.inj H
      go_enter Tryd.func35, Tryd.ntmps35
      go_wp2_with (first | ((with_reducible refine gate_dst (N := 3) rfl ?_); refine box_event ?hg (N := 3) ?hd (cs := #[.int .i64 a1_0, .int .i64 a1_1, .int .i64 a1_2]) (t := 51) ?hr ?_; (case hd => rfl); (case hg => rfl); (case hr => first | (go_simp; done) | (go_simp; rfl)); intro gb140 hg w17 hbox hb; have n0_ := Aside0.mk (below_step (mvB HB.out) hb); have n1_ := Aside0.mk (hbox); have n2_ := Aside0.mk ((by rw [hg]; exact (below_size (mvB HB.out)) : w.heap.size ≤ gb140)); have n3_ := Aside0.mk ((by rw [hg]; exact (below_size (mvB HB.out)) : w.heap.size ≤ gb140)); clear HB; revert n0_ n1_ n2_ n3_; intro HB BK140 GW140 GE140; clear hb hbox hg; have hcz18_0 : w17.cell? ⟨gb140, 0, none⟩ = some (.int .i64 a1_0) := (blk_cell BK140.out 0).trans rfl; have hcz18_1 : w17.cell? ⟨gb140, 1, none⟩ = some (.int .i64 a1_1) := (blk_cell BK140.out 1).trans rfl; have hcz18_2 : w17.cell? ⟨gb140, 2, none⟩ = some (.int .i64 a1_2) := (blk_cell BK140.out 2).trans rfl; have hfz18_0 := blk_frozen BK140.out 0; have hfz18_1 := blk_frozen BK140.out 1; have hfz18_2 := blk_frozen BK140.out 2))
      repeat (go_quiet (first | ((with_reducible refine gate_dst (N := 3) rfl ?_); refine box_event ?hg (N := 3) ?hd (cs := #[.int .i64 a1_0, .int .i64 a1_1, .int .i64 a1_2]) (t := 51) ?hr ?_; (case hd => rfl); (case hg => rfl); (case hr => first | (go_simp; done) | (go_simp; rfl)); intro gb140 hg w17 hbox hb; have n0_ := Aside0.mk (below_step (mvB HB.out) hb); have n1_ := Aside0.mk (hbox); have n2_ := Aside0.mk ((by rw [hg]; exact (below_size (mvB HB.out)) : w.heap.size ≤ gb140)); have n3_ := Aside0.mk ((by rw [hg]; exact (below_size (mvB HB.out)) : w.heap.size ≤ gb140)); clear HB; revert n0_ n1_ n2_ n3_; intro HB BK140 GW140 GE140; clear hb hbox hg; have hcz18_0 : w17.cell? ⟨gb140, 0, none⟩ = some (.int .i64 a1_0) := (blk_cell BK140.out 0).trans rfl; have hcz18_1 : w17.cell? ⟨gb140, 1, none⟩ = some (.int .i64 a1_1) := (blk_cell BK140.out 1).trans rfl; have hcz18_2 : w17.cell? ⟨gb140, 2, none⟩ = some (.int .i64 a1_2) := (blk_cell BK140.out 2).trans rfl; have hfz18_0 := blk_frozen BK140.out 0; have hfz18_1 := blk_frozen BK140.out 1; have hfz18_2 := blk_frozen BK140.out 2)); try go_wp2_with (first | ((with_reducible refine gate_dst (N := 3) rfl ?_); refine box_event ?hg (N := 3) ?hd (cs := #[.int .i64 a1_0, .int .i64 a1_1, .int .i64 a1_2]) (t := 51) ?hr ?_; (case hd => rfl); (case hg => rfl); (case hr => first | (go_simp; done) | (go_simp; rfl)); intro gb140 hg w17 hbox hb; have n0_ := Aside0.mk (below_step (mvB HB.out) hb); have n1_ := Aside0.mk (hbox); have n2_ := Aside0.mk ((by rw [hg]; exact (below_size (mvB HB.out)) : w.heap.size ≤ gb140)); have n3_ := Aside0.mk ((by rw [hg]; exact (below_size (mvB HB.out)) : w.heap.size ≤ gb140)); clear HB; revert n0_ n1_ n2_ n3_; intro HB BK140 GW140 GE140; clear hb hbox hg; have hcz18_0 : w17.cell? ⟨gb140, 0, none⟩ = some (.int .i64 a1_0) := (blk_cell BK140.out 0).trans rfl; have hcz18_1 : w17.cell? ⟨gb140, 1, none⟩ = some (.int .i64 a1_1) := (blk_cell BK140.out 1).trans rfl; have hcz18_2 : w17.cell? ⟨gb140, 2, none⟩ = some (.int .i64 a1_2) := (blk_cell BK140.out 2).trans rfl; have hfz18_0 := blk_frozen BK140.out 0; have hfz18_1 := blk_frozen BK140.out 1; have hfz18_2 := blk_frozen BK140.out 2)))
      go_ret
      exact ⟨by first | rfl | (simp [errW_none, errW_some] <;> rfl) | (simp only [← hji4, ← hji6]; first | rfl | (simp [errW_none, errW_some] <;> rfl)) | (simp [*, errW_none, errW_some] <;> rfl), by repeat (first | (with_reducible first | exact HB.out | apply below_alloc | apply pw_below_drewN | apply below_drew1 | refine below_set ?_ GE140.out) | exact HB.out)⟩
    ·
     rw [if_neg c13] at H
     have c13b0 : (a1_0 == 2) = false := beq_eq_false_iff_ne.mpr c13
     have c13b1 : (a1_0 != 2) = true := bne_iff_ne.mpr c13
     by_cases c19 : (Go.bits .and .i64 (ji4) 1) = 1
     ·
      rw [if_pos c19] at H
      have c19b0 : ((Go.bits .and .i64 (ji4) 1) == 1) = true := beq_iff_eq.mpr c19
      have c19b1 : ((Go.bits .and .i64 (ji4) 1) != 1) = false := bne_eq_false_iff_eq.mpr c19
      clear c19
      obtain rfl := Option.some.inj H
      go_enter Tryd.func35, Tryd.ntmps35
      go_wp2_with (first | ((with_reducible refine gate_dst (N := 3) rfl ?_); refine box_event ?hg (N := 3) ?hd (cs := #[.int .i64 a1_0, .int .i64 a1_1, .int .i64 a1_2]) (t := 51) ?hr ?_; (case hd => rfl); (case hg => rfl); (case hr => first | (go_simp; done) | (go_simp; rfl)); intro gb140 hg w20 hbox hb; have n0_ := Aside0.mk (below_step (mvB HB.out) hb); have n1_ := Aside0.mk (hbox); have n2_ := Aside0.mk ((by rw [hg]; exact (below_size (mvB HB.out)) : w.heap.size ≤ gb140)); have n3_ := Aside0.mk ((by rw [hg]; exact (below_size (mvB HB.out)) : w.heap.size ≤ gb140)); clear HB; revert n0_ n1_ n2_ n3_; intro HB BK140 GW140 GE140; clear hb hbox hg; have hcz21_0 : w20.cell? ⟨gb140, 0, none⟩ = some (.int .i64 a1_0) := (blk_cell BK140.out 0).trans rfl; have hcz21_1 : w20.cell? ⟨gb140, 1, none⟩ = some (.int .i64 a1_1) := (blk_cell BK140.out 1).trans rfl; have hcz21_2 : w20.cell? ⟨gb140, 2, none⟩ = some (.int .i64 a1_2) := (blk_cell BK140.out 2).trans rfl; have hfz21_0 := blk_frozen BK140.out 0; have hfz21_1 := blk_frozen BK140.out 1; have hfz21_2 := blk_frozen BK140.out 2))
      repeat (go_quiet (first | ((with_reducible refine gate_dst (N := 3) rfl ?_); refine box_event ?hg (N := 3) ?hd (cs := #[.int .i64 a1_0, .int .i64 a1_1, .int .i64 a1_2]) (t := 51) ?hr ?_; (case hd => rfl); (case hg => rfl); (case hr => first | (go_simp; done) | (go_simp; rfl)); intro gb140 hg w20 hbox hb; have n0_ := Aside0.mk (below_step (mvB HB.out) hb); have n1_ := Aside0.mk (hbox); have n2_ := Aside0.mk ((by rw [hg]; exact (below_size (mvB HB.out)) : w.heap.size ≤ gb140)); have n3_ := Aside0.mk ((by rw [hg]; exact (below_size (mvB HB.out)) : w.heap.size ≤ gb140)); clear HB; revert n0_ n1_ n2_ n3_; intro HB BK140 GW140 GE140; clear hb hbox hg; have hcz21_0 : w20.cell? ⟨gb140, 0, none⟩ = some (.int .i64 a1_0) := (blk_cell BK140.out 0).trans rfl; have hcz21_1 : w20.cell? ⟨gb140, 1, none⟩ = some (.int .i64 a1_1) := (blk_cell BK140.out 1).trans rfl; have hcz21_2 : w20.cell? ⟨gb140, 2, none⟩ = some (.int .i64 a1_2) := (blk_cell BK140.out 2).trans rfl; have hfz21_0 := blk_frozen BK140.out 0; have hfz21_1 := blk_frozen BK140.out 1; have hfz21_2 := blk_frozen BK140.out 2)); try go_wp2_with (first | ((with_reducible refine gate_dst (N := 3) rfl ?_); refine box_event ?hg (N := 3) ?hd (cs := #[.int .i64 a1_0, .int .i64 a1_1, .int .i64 a1_2]) (t := 51) ?hr ?_; (case hd => rfl); (case hg => rfl); (case hr => first | (go_simp; done) | (go_simp; rfl)); intro gb140 hg w20 hbox hb; have n0_ := Aside0.mk (below_step (mvB HB.out) hb); have n1_ := Aside0.mk (hbox); have n2_ := Aside0.mk ((by rw [hg]; exact (below_size (mvB HB.out)) : w.heap.size ≤ gb140)); have n3_ := Aside0.mk ((by rw [hg]; exact (below_size (mvB HB.out)) : w.heap.size ≤ gb140)); clear HB; revert n0_ n1_ n2_ n3_; intro HB BK140 GW140 GE140; clear hb hbox hg; have hcz21_0 : w20.cell? ⟨gb140, 0, none⟩ = some (.int .i64 a1_0) := (blk_cell BK140.out 0).trans rfl; have hcz21_1 : w20.cell? ⟨gb140, 1, none⟩ = some (.int .i64 a1_1) := (blk_cell BK140.out 1).trans rfl; have hcz21_2 : w20.cell? ⟨gb140, 2, none⟩ = some (.int .i64 a1_2) := (blk_cell BK140.out 2).trans rfl; have hfz21_0 := blk_frozen BK140.out 0; have hfz21_1 := blk_frozen BK140.out 1; have hfz21_2 := blk_frozen BK140.out 2)))
      go_ret
      exact ⟨by first | rfl | (simp [errW_none, errW_some] <;> rfl) | (simp only [← hji4, ← hji6]; first | rfl | (simp [errW_none, errW_some] <;> rfl)) | (simp [*, errW_none, errW_some] <;> rfl), by repeat (first | (with_reducible first | exact HB.out | apply below_alloc | apply pw_below_drewN | apply below_drew1 | refine below_set ?_ GE140.out) | exact HB.out)⟩
     ·
      rw [if_neg c19] at H
      have c19b0 : ((Go.bits .and .i64 (ji4) 1) == 1) = false := beq_eq_false_iff_ne.mpr c19
      have c19b1 : ((Go.bits .and .i64 (ji4) 1) != 1) = true := bne_iff_ne.mpr c19
      obtain rfl := Option.some.inj H
      go_enter Tryd.func35, Tryd.ntmps35
      go_wp2_with (first | ((with_reducible refine gate_dst (N := 3) rfl ?_); refine box_event ?hg (N := 3) ?hd (cs := #[.int .i64 a1_0, .int .i64 a1_1, .int .i64 a1_2]) (t := 51) ?hr ?_; (case hd => rfl); (case hg => rfl); (case hr => first | (go_simp; done) | (go_simp; rfl)); intro gb140 hg w22 hbox hb; have n0_ := Aside0.mk (below_step (mvB HB.out) hb); have n1_ := Aside0.mk (hbox); have n2_ := Aside0.mk ((by rw [hg]; exact (below_size (mvB HB.out)) : w.heap.size ≤ gb140)); have n3_ := Aside0.mk ((by rw [hg]; exact (below_size (mvB HB.out)) : w.heap.size ≤ gb140)); clear HB; revert n0_ n1_ n2_ n3_; intro HB BK140 GW140 GE140; clear hb hbox hg; have hcz23_0 : w22.cell? ⟨gb140, 0, none⟩ = some (.int .i64 a1_0) := (blk_cell BK140.out 0).trans rfl; have hcz23_1 : w22.cell? ⟨gb140, 1, none⟩ = some (.int .i64 a1_1) := (blk_cell BK140.out 1).trans rfl; have hcz23_2 : w22.cell? ⟨gb140, 2, none⟩ = some (.int .i64 a1_2) := (blk_cell BK140.out 2).trans rfl; have hfz23_0 := blk_frozen BK140.out 0; have hfz23_1 := blk_frozen BK140.out 1; have hfz23_2 := blk_frozen BK140.out 2))
      repeat (go_quiet (first | ((with_reducible refine gate_dst (N := 3) rfl ?_); refine box_event ?hg (N := 3) ?hd (cs := #[.int .i64 a1_0, .int .i64 a1_1, .int .i64 a1_2]) (t := 51) ?hr ?_; (case hd => rfl); (case hg => rfl); (case hr => first | (go_simp; done) | (go_simp; rfl)); intro gb140 hg w22 hbox hb; have n0_ := Aside0.mk (below_step (mvB HB.out) hb); have n1_ := Aside0.mk (hbox); have n2_ := Aside0.mk ((by rw [hg]; exact (below_size (mvB HB.out)) : w.heap.size ≤ gb140)); have n3_ := Aside0.mk ((by rw [hg]; exact (below_size (mvB HB.out)) : w.heap.size ≤ gb140)); clear HB; revert n0_ n1_ n2_ n3_; intro HB BK140 GW140 GE140; clear hb hbox hg; have hcz23_0 : w22.cell? ⟨gb140, 0, none⟩ = some (.int .i64 a1_0) := (blk_cell BK140.out 0).trans rfl; have hcz23_1 : w22.cell? ⟨gb140, 1, none⟩ = some (.int .i64 a1_1) := (blk_cell BK140.out 1).trans rfl; have hcz23_2 : w22.cell? ⟨gb140, 2, none⟩ = some (.int .i64 a1_2) := (blk_cell BK140.out 2).trans rfl; have hfz23_0 := blk_frozen BK140.out 0; have hfz23_1 := blk_frozen BK140.out 1; have hfz23_2 := blk_frozen BK140.out 2)); try go_wp2_with (first | ((with_reducible refine gate_dst (N := 3) rfl ?_); refine box_event ?hg (N := 3) ?hd (cs := #[.int .i64 a1_0, .int .i64 a1_1, .int .i64 a1_2]) (t := 51) ?hr ?_; (case hd => rfl); (case hg => rfl); (case hr => first | (go_simp; done) | (go_simp; rfl)); intro gb140 hg w22 hbox hb; have n0_ := Aside0.mk (below_step (mvB HB.out) hb); have n1_ := Aside0.mk (hbox); have n2_ := Aside0.mk ((by rw [hg]; exact (below_size (mvB HB.out)) : w.heap.size ≤ gb140)); have n3_ := Aside0.mk ((by rw [hg]; exact (below_size (mvB HB.out)) : w.heap.size ≤ gb140)); clear HB; revert n0_ n1_ n2_ n3_; intro HB BK140 GW140 GE140; clear hb hbox hg; have hcz23_0 : w22.cell? ⟨gb140, 0, none⟩ = some (.int .i64 a1_0) := (blk_cell BK140.out 0).trans rfl; have hcz23_1 : w22.cell? ⟨gb140, 1, none⟩ = some (.int .i64 a1_1) := (blk_cell BK140.out 1).trans rfl; have hcz23_2 : w22.cell? ⟨gb140, 2, none⟩ = some (.int .i64 a1_2) := (blk_cell BK140.out 2).trans rfl; have hfz23_0 := blk_frozen BK140.out 0; have hfz23_1 := blk_frozen BK140.out 1; have hfz23_2 := blk_frozen BK140.out 2)))
      go_ret
      exact ⟨by first | rfl | (simp [errW_none, errW_some] <;> rfl) | (simp only [← hji4, ← hji6]; first | rfl | (simp [errW_none, errW_some] <;> rfl)) | (simp [*, errW_none, errW_some] <;> rfl), by repeat (first | (with_reducible first | exact HB.out | apply below_alloc | apply pw_below_drewN | apply below_drew1 | refine below_set ?_ GE140.out) | exact HB.out)⟩
  ·
   rw [if_neg c5] at H
   exact absurd H (by simp)
 ·
  rw [if_neg c3] at H
  exact absurd H (by simp)

-- NOT PRINTED: function 65 (impl_Rule_65)

-- NOT PRINTED: function 52 (impl_Rule_52)

/-! ### impl_switches_allowed: function 31 -/
/-- The first place, from i on, of which p holds; -1. -/
def idxFrom_51 (p : S51 → Bool) (xs : List S51) (i : Nat) : Int := if h : i < xs.length then (if p xs[i] = true then (i : Int) else idxFrom_51 p xs (i + 1)) else -1
termination_by xs.length - i
set_option maxHeartbeats 4000000 in
theorem idx_51.calls (g : Nat) (pre lb : Array Value) (p : S51 → Bool) (A0 : Option Addr) (c0 : Nat) (l0 : List S51) (w : World) (hr0 : Kd.C k51 w A0 l0.length l0)
  (eg : ∀ args w, (callFunc g args).run Tryd.prog w = .ok (.enter g args) w)
  (hp : ∀ (W : World) (x : S51) , x ∈ l0 →  Below w.heap.size w W → Calls Tryd.prog g (pre ++ #[.agg #[.int .i64 x.f0, .int .i64 x.f1, .int .i64 x.f2]] ++ lb) W fun e w' => e = .returned (.bool (p x)) ∧ Below w.heap.size w w') :
  Calls Tryd.prog 65 #[.slice A0 l0.length c0, .func (.func g) pre lb] w fun e w' => e = .returned (.int .i64 (idxFrom_51 p l0 0)) ∧ Below w.heap.size w w' := by
 have hn : l0.length ≤ 9223372036854775807 := by have := hr0.2.1; omega
 have HR0 := Aside0.mk hr0
 have HP := Aside0.mk hp
 have HN := Aside0.mk hn
 clear hr0 hp hn
 go_enter Tryd.func65, Tryd.ntmps65
 go_wp2
 go_loopg [5, 8] l0.length (fun gg _ s8 wr => ∃ kk : Nat, s8 = .int .i64 kk ∧ Aside0 (kk ≤ l0.length) ∧ Aside0 (l0.length - kk ≤ gg) ∧ Aside0 (idxFrom_51 p l0 0 = idxFrom_51 p l0 kk) ∧ Aside0 (Below w.heap.size w wr))
 case atStart => exact ⟨0, rfl, ⟨Nat.zero_le _⟩, ⟨by omega⟩, ⟨rfl⟩, ⟨Below.refl _ w⟩⟩
 case round =>
  obtain ⟨kk, rfl, hkk, hg, hq, hb⟩ := hrel
  by_cases hlt : kk < l0.length
  ·
   have hltz : decide ((kk : Int) < (l0.length : Int)) = true := decide_eq_true (by omega)
   obtain ⟨ad, e, hx0, hx1, hx2⟩ := at_T51 HR0.out (kk : Int) (by omega) (by omega)
   cases e
   have hxx : rd_T51 l0 (kk : Int) = l0[kk] := by unfold rd_T51; simp [List.getD_eq_getElem?_getD, hlt]
   rw [hxx, Int.toNat_natCast] at hx0
   replace hx0 := (hb.out.cell (World.block_lt_of_cell? w _ hx0)).trans hx0
   rw [hxx, Int.toNat_natCast] at hx1
   replace hx1 := (hb.out.cell (World.block_lt_of_cell? w _ hx1)).trans hx1
   rw [hxx, Int.toNat_natCast] at hx2
   replace hx2 := (hb.out.cell (World.block_lt_of_cell? w _ hx2)).trans hx2
   have hcall := HP.out wr l0[kk]  (List.getElem_mem hlt)  hb.out
   have hq2 := hq.out
   rw [show idxFrom_51 p l0 kk = if p l0[kk] = true then (kk : Int) else idxFrom_51 p l0 (kk + 1) by rw [idxFrom_51, dif_pos hlt]] at hq2
   clear hxx
   generalize hx : l0[kk] = x at hx0 hx1 hx2 hcall hq2
   clear hx
   cases hc : p x with
   | true =>
    rw [hc] at hcall hq2
    have hq3 := Aside0.mk hq2
    clear hq2 hc
    go_wp2_with (go_at_fn g; refine hcall.mono ?_; rintro e w' ⟨rfl, hb'⟩)
    go_ret
    refine ⟨?_, hb'⟩
    rw [hq3.out]; rfl
   | false =>
    rw [hc] at hcall hq2
    have hq3 := Aside0.mk hq2
    clear hq2 hc
    go_wp2_with (go_at_fn g; refine hcall.mono ?_; rintro e w' ⟨rfl, hb'⟩)
    go_roundg (l0.length - (kk + 1))
    case measure => have := hg.out; omega
    case rel => exact ⟨kk + 1, by rw [show wrap64 ((kk : Int) + 1) = ((kk + 1 : Nat) : Int) by have := HN.out; unfold wrap64; omega], ⟨by omega⟩, ⟨by omega⟩, ⟨by rw [hq3.out]; rfl⟩, ⟨hb'⟩⟩
  ·
   have hltz : decide ((kk : Int) < (l0.length : Int)) = false := decide_eq_false (by omega)
   go_wp2
   go_ret
   refine ⟨?_, hb.out⟩
   rw [hq.out, idxFrom_51, dif_neg hlt]
   rfl
theorem idxFrom_51_any (p : S51 → Bool) (xs : List S51) (i : Nat) : decide (0 ≤ idxFrom_51 p xs i) = (xs.drop i).any p := by
 rw [idxFrom_51]
 by_cases h : i < xs.length
 ·
  rw [dif_pos h, List.drop_eq_getElem_cons h, List.any_cons]
  cases c : p xs[i] with
  | true => simp
  | false =>
   rw [if_neg (by simp), idxFrom_51_any p xs (i + 1), Bool.false_or]
 ·
  rw [dif_neg h, List.drop_eq_nil_of_le (by omega)]; rfl
termination_by xs.length - i
set_option maxHeartbeats 2000000 in
theorem has_51.calls (g : Nat) (pre lb : Array Value) (p : S51 → Bool) (A0 : Option Addr) (c0 : Nat) (l0 : List S51) (w : World) (hr0 : Kd.C k51 w A0 l0.length l0)
  (eg : ∀ args w, (callFunc g args).run Tryd.prog w = .ok (.enter g args) w)
  (hp : ∀ (W : World) (x : S51) , x ∈ l0 →  Below w.heap.size w W → Calls Tryd.prog g (pre ++ #[.agg #[.int .i64 x.f0, .int .i64 x.f1, .int .i64 x.f2]] ++ lb) W fun e w' => e = .returned (.bool (p x)) ∧ Below w.heap.size w w') :
  Calls Tryd.prog 52 #[.slice A0 l0.length c0, .func (.func g) pre lb] w fun e w' => e = .returned (.bool (l0.any p)) ∧ Below w.heap.size w w' := by
 have hcall := idx_51.calls g pre lb p A0 c0 l0 w hr0 eg hp
 rw [show l0.any p = decide (0 ≤ idxFrom_51 p l0 0) by rw [idxFrom_51_any]; rfl]
 clear hr0 hp
 go_enter Tryd.func52, Tryd.ntmps52
 go_wp2_with (go_at_call 65; refine hcall.mono ?_; rintro e w' ⟨rfl, hb'⟩)
 go_ret
 exact ⟨rfl, hb'⟩

def impl_switches_allowed.f (a0 : Int) (l1 : List S51) : Option Bool := if l1.all (fun x => (impl_switches_breaks.f a0 x.f0 x.f1 x.f2).isSome) = true then some (!(l1.any fun x => (impl_switches_breaks.f a0 x.f0 x.f1 x.f2).getD false)) else none
set_option maxHeartbeats 2000000 in
theorem impl_switches_allowed.calls (a0 : Int) (A1 : Option Addr) (c1 : Nat) (l1 : List (S51)) (r : Bool) (w : World) (hr1 : Kd.C k51 w A1 l1.length l1) (hc1 : l1.length ≤ c1) (h : impl_switches_allowed.f a0 l1 = some r) :
  Calls Tryd.prog 31 #[.int .i64 a0, .slice A1 l1.length c1] w fun e w' => e = .returned (.bool r) ∧ Below w.heap.size w w' := by
 unfold impl_switches_allowed.f at h
 by_cases c : l1.all (fun x => (impl_switches_breaks.f a0 x.f0 x.f1 x.f2).isSome) = true
 ·
  rw [if_pos c] at h
  have h := Option.some.inj h
  have hr : (!r) = l1.any fun x => (impl_switches_breaks.f a0 x.f0 x.f1 x.f2).getD false := by rw [← h, Bool.not_not]
  rw [List.all_eq_true] at c
  have hcall := has_51.calls 35 #[.int .i64 a0] #[] _ A1 c1 l1 w hr1 (enters_ Tryd.func35 (by kernel_rfl) rfl) (fun W x hx hb => by
   obtain ⟨b, hb1⟩ := Option.isSome_iff_exists.1 (c x hx)
   have := impl_switches_breaks.calls a0 x.f0 x.f1 x.f2 b W hb1
   rw [show b = (impl_switches_breaks.f a0 x.f0 x.f1 x.f2).getD false by rw [hb1]; rfl] at this
   exact this.mono fun e w' ⟨he, hb'⟩ => ⟨he, below_then hb hb.size hb'⟩)
  rw [← hr] at hcall
  clear hr h c hr1
  go_enter Tryd.func31, Tryd.ntmps31
  go_wp2_with (go_at_call 52; refine hcall.mono ?_; rintro e w' ⟨rfl, hb'⟩)
  go_ret
  exact ⟨by simp, hb'⟩
 ·
  rw [if_neg c] at h
  cases h

/-! ### bits_Mul32: function 75 -/
def bits_Mul32.f (a0 : Int) (a1 : Int) : Option (Int × Int) := some (((IntKind.u64.wrap ((IntKind.u64.wrap (a0)) * (IntKind.u64.wrap (a1)))) / 4294967296) % 4294967296, (IntKind.u64.wrap ((IntKind.u64.wrap (a0)) * (IntKind.u64.wrap (a1)))) % 4294967296)
set_option maxHeartbeats 8000000 in
set_option maxRecDepth 100000 in
theorem bits_Mul32.calls (a0 : Int) (a1 : Int) (r1 : Int) (r2 : Int) (w : World) (h : bits_Mul32.f a0 a1 = some (r1, r2)) :
  Calls Tryd.prog 75 #[.int .u32 a0, .int .u32 a1] w fun e w' => e = .returned (.tuple #[.int .u32 r1, .int .u32 r2]) ∧ Drawn0 w w' := by
 have H : (some (((IntKind.u64.wrap ((IntKind.u64.wrap (a0)) * (IntKind.u64.wrap (a1)))) / 4294967296) % 4294967296, (IntKind.u64.wrap ((IntKind.u64.wrap (a0)) * (IntKind.u64.wrap (a1)))) % 4294967296)) = some (r1, r2) := h
 clear h
 simp only [Option.some.injEq, Prod.mk.injEq] at H
 obtain ⟨rfl, rfl⟩ := H
 go_enter Tryd.func75, Tryd.ntmps75
 go_wp2
 go_ret2
 exact ⟨rs, dr0⟩

/-! ### bits_Mul64: function 76 -/
def bits_Mul64.f (a0 : Int) (a1 : Int) : Option (Int × Int) := some (IntKind.u64.wrap ((IntKind.u64.wrap ((IntKind.u64.wrap ((a0 / 4294967296) * (a1 / 4294967296))) + ((IntKind.u64.wrap ((IntKind.u64.wrap ((a0 / 4294967296) * (Go.bits .and .u64 a1 4294967295))) + ((IntKind.u64.wrap ((Go.bits .and .u64 a0 4294967295) * (Go.bits .and .u64 a1 4294967295))) / 4294967296))) / 4294967296))) + ((IntKind.u64.wrap ((Go.bits .and .u64 (IntKind.u64.wrap ((IntKind.u64.wrap ((a0 / 4294967296) * (Go.bits .and .u64 a1 4294967295))) + ((IntKind.u64.wrap ((Go.bits .and .u64 a0 4294967295) * (Go.bits .and .u64 a1 4294967295))) / 4294967296))) 4294967295) + (IntKind.u64.wrap ((Go.bits .and .u64 a0 4294967295) * (a1 / 4294967296))))) / 4294967296)), IntKind.u64.wrap (a0 * a1))
set_option maxHeartbeats 8000000 in
set_option maxRecDepth 100000 in
theorem bits_Mul64.calls (a0 : Int) (a1 : Int) (r1 : Int) (r2 : Int) (w : World) (h : bits_Mul64.f a0 a1 = some (r1, r2)) :
  Calls Tryd.prog 76 #[.int .u64 a0, .int .u64 a1] w fun e w' => e = .returned (.tuple #[.int .u64 r1, .int .u64 r2]) ∧ Drawn0 w w' := by
 have H : (some (IntKind.u64.wrap ((IntKind.u64.wrap ((IntKind.u64.wrap ((a0 / 4294967296) * (a1 / 4294967296))) + ((IntKind.u64.wrap ((IntKind.u64.wrap ((a0 / 4294967296) * (Go.bits .and .u64 a1 4294967295))) + ((IntKind.u64.wrap ((Go.bits .and .u64 a0 4294967295) * (Go.bits .and .u64 a1 4294967295))) / 4294967296))) / 4294967296))) + ((IntKind.u64.wrap ((Go.bits .and .u64 (IntKind.u64.wrap ((IntKind.u64.wrap ((a0 / 4294967296) * (Go.bits .and .u64 a1 4294967295))) + ((IntKind.u64.wrap ((Go.bits .and .u64 a0 4294967295) * (Go.bits .and .u64 a1 4294967295))) / 4294967296))) 4294967295) + (IntKind.u64.wrap ((Go.bits .and .u64 a0 4294967295) * (a1 / 4294967296))))) / 4294967296)), IntKind.u64.wrap (a0 * a1))) = some (r1, r2) := h
 clear h
 simp only [Option.some.injEq, Prod.mk.injEq] at H
 obtain ⟨rfl, rfl⟩ := H
 go_enter Tryd.func76, Tryd.ntmps76
 go_wp2
 go_ret2
 exact ⟨rs, dr0⟩

/-! ### bits_Mul: function 64 -/
def bits_Mul.f (a0 : Int) (a1 : Int) : Option (Int × Int) := (bits_Mul64.f a0 a1).bind fun bt141 => (some (bt141.1, bt141.2))
set_option maxHeartbeats 8000000 in
set_option maxRecDepth 100000 in
theorem bits_Mul.calls (a0 : Int) (a1 : Int) (r1 : Int) (r2 : Int) (w : World) (h : bits_Mul.f a0 a1 = some (r1, r2)) :
  Calls Tryd.prog 64 #[.int .u64 a0, .int .u64 a1] w fun e w' => e = .returned (.tuple #[.int .u64 r1, .int .u64 r2]) ∧ Drawn0 w w' := by
 have H : ((bits_Mul64.f a0 a1).bind fun bt141 => (some (bt141.1, bt141.2))) = some (r1, r2) := h
 clear h
 replace H := Option.bind_eq_some_iff.mp H
 obtain ⟨⟨t141, t142⟩, A30, H⟩ := H
 replace H : (some (t141, t142)) = some (r1, r2) := H
 have A3 := Aside0.mk A30
 clear A30
 simp only [Option.some.injEq, Prod.mk.injEq] at H
 obtain ⟨rfl, rfl⟩ := H
 go_enter Tryd.func64, Tryd.ntmps64
 go_wp2_with (first | ((with_reducible refine gate_callee (f := 76) rfl ?_); refine goesA_ (some 25) Tryd.func76 #[.int .u64 a0, .int .u64 a1] ?_; (with_reducible refine (bits_Mul64.calls a0 a1 t141 t142 _ A3.out).mono ?_); rintro e w' ⟨rfl, ⟨nd, rfl⟩⟩; refine ⟨_, rfl, ?_⟩))
 go_ret2
 exact ⟨rs, dr0⟩

/-! ### slices_Repeat_int_int: function 51 -/
def slices_Repeat_int_int.f (l0 : List Int) (a1 : Int) : Option (List Int) := if l0.length = 1 ∧ 1 ≤ a1 ∧ a1 ≤ 4096 ∧ bits_Mul.f 1 a1 = some (0, a1) then some (List.replicate a1.toNat (rd l0 0)) else none
-- copy_splice
theorem rep_splice (cur : List Value) (x : Value) (n k : Nat) (hn : n ≤ cur.length) (h : cur.take n = List.replicate n x) : (splice cur n (List.replicate k x)).take (n + k) = List.replicate (n + k) x := by
 unfold splice
 rw [h, List.take_append, List.take_of_length_le (by simp)]
 simp only [List.length_replicate, Nat.add_sub_cancel_left]
 rw [List.take_append_of_le_length (by simp), List.take_of_length_le (by simp), List.replicate_append_replicate]
theorem rep_own {w : World} {g m : Nat} {x : Value} {cur : List Value} {base : Nat} {e : TypeId} (hg : w.heap[g]? = some (.cells cur.toArray e (0, 0))) (hb : base ≤ g) (h1 : m ≤ cur.length) (h2 : cur.length ≤ maxLen) (h : cur.take m = List.replicate m x) :
  w.ownsRow base e 1 (.slice (some ⟨g, 0, none⟩) m cur.length) m (List.replicate m x) :=
 ⟨by simp, Or.inr ⟨g, cur.length, cur.toArray, rfl, hb, hg, h1, h2, by simp, by simpa using h⟩⟩
theorem rep_made {w : World} {base e m : Nat} {ok : Nat → Prop} {v : Value} {xs : List Int} (h : (Kd.int .i64).R e w base ok v xs) (hx : xs.length = m) (hm : 1 ≤ m) :
  ∃ g cap, ∃ cur : List Value, v = .slice (some ⟨g, 0, none⟩) m cap ∧ base ≤ g ∧ w.heap[g]? = some (.cells cur.toArray e (0, 0)) ∧ m ≤ cur.length ∧ cur.length ≤ maxLen ∧ cur.length = cap := by
 subst hx
 obtain ⟨inner, ho⟩ := Kd.R_own h
 obtain ⟨h1, h2 | ⟨g, cap, cur, rfl, hb, hg, hn, hx, hs, _⟩⟩ := ho
 ·
  omega
 ·
  rw [show (Kd.int .i64).sz = 1 from rfl, Nat.mul_one] at hs
  exact ⟨g, cap, cur.toList, rfl, hb, by simpa using hg, by simp; omega, by simp; omega, by simpa using hs⟩
theorem rep_cp {w w1 : World} {ad : Addr} {g : Nat} {x : Value} (hb : Below w.heap.size w w1) (hl : ad.block < w.heap.size) (hc : w.cell? ad = some x) :
  0 < [x].length → (some ⟨g, 0, none⟩ : Option Addr) = some ⟨g, 0, none⟩ ∧ ∃ ad', some ad = some ad' ∧ ∀ j v, [x][j]? = some v → w1.cell? (ad'.add j) = some v := by
 refine fun _ => ⟨rfl, ad, rfl, fun j v hj => ?_⟩
 cases j with
 | zero =>
  simp at hj
  subst hj
  rw [show ad.add 0 = ad from by cases ad; simp [Addr.add]]
  exact (hb.cell hl).trans hc
 | succ j => simp at hj
theorem rep_cp2 {w : World} {g nn q : Nat} {t : TypeId} {x : Value} {cu : List Value} (hg : w.heap[g]? = some (.cells cu.toArray t (0, 0))) (h : cu.take nn = List.replicate nn x) (hm : q ≤ nn) :
  0 < (List.replicate q x).length → (some ⟨g, nn, none⟩ : Option Addr) = some ⟨g, nn, none⟩ ∧ ∃ ad', (some ⟨g, 0, none⟩ : Option Addr) = some ad' ∧ ∀ j v, (List.replicate q x)[j]? = some v → w.cell? (ad'.add j) = some v := by
 refine fun _ => ⟨rfl, _, rfl, fun j v hj => ?_⟩
 rw [add_plain, cell_of_row w g j cu.toArray t _ hg]
 obtain ⟨hlt, hv⟩ := List.getElem?_eq_some_iff.1 hj
 rw [List.length_replicate] at hlt
 have hlt2 : j < nn := Nat.lt_of_lt_of_le hlt hm
 have h2 : (cu.take nn)[j]? = some x := by rw [h]; simp [hlt2]
 rw [List.getElem?_take_of_lt hlt2] at h2
 rw [List.getElem_replicate] at hv
 subst hv
 simpa using h2
set_option maxHeartbeats 2000000 in
theorem slices_Repeat_int_int.walk (ad : Addr) (c0 m : Nat) (x : Int) (w : World) (h1 : 1 ≤ m) (h2 : m ≤ 4096) (hm : bits_Mul.f 1 (m : Int) = some (0, (m : Int)))
  (hc : w.cell? ad = some (.int .i64 x)) :
  Calls Tryd.prog 51 #[.slice (some ad) 1 c0, .int .i64 (m : Int)] w fun e w' => ∃ v0_ : Value, e = .returned (v0_) ∧ w'.ownsRow w.heap.size 3 1 v0_ m (List.replicate m (.int .i64 x)) ∧ Below w.heap.size w w' := by
 have hcl : ad.block < w.heap.size := World.block_lt_of_cell? w _ hc
 have HM := Aside0.mk hm
 have HC := Aside0.mk hc
 have HL := Aside0.mk hcl
 have HN := Aside0.mk (And.intro h1 h2)
 have g1 : decide ((m : Int) < 0) = false := decide_eq_false (by omega)
 have g2 : decide ((m : Int) > 9223372036854775807) = false := decide_eq_false (by omega)
 have g3 : IntKind.u64.wrap (m : Int) = (m : Int) := IntWalk.u64_in _ (by omega)
 have g4 : IntKind.i64.wrap (m : Int) = (m : Int) := IntWalk.i64_in _ (by omega)
 have g5 : wrap64 (m : Int) = (m : Int) := IntWalk.wrap64_in _ (by omega)
 have hsz : (Tryd.prog.info? 3).map (·.size) = some 1 := by kernel_rfl
 have HSZ := Aside0.mk hsz
 clear hm hc hcl h1 h2 hsz
 go_enter Tryd.func51, Tryd.ntmps51
 go_wp2_with (first | (go_at_call 64; (with_reducible refine (bits_Mul.calls 1 (m : Int) 0 (m : Int) _ HM.out).mono ?_); rintro e w' ⟨rfl, ⟨nd, rfl⟩⟩) | ((with_reducible refine gate_dst (N := 30) rfl ?_); refine Kd.R_make (Kd.int .i64) (w0 := w) w.heap.size 3 rfl (N := 30) rfl 55 _ _ rfl (m : Int) rfl rfl Tryd.underlying55 (.int .i64 0) 8 (by kernel_rfl) rfl (by decide) (by omega) 0 (ok := fun _ => True) (okp := fun _ => True) rfl (fun _ hk => hk) trivial (by omega) (by have := HN.out; omega) (pw_below_drewN (Below.refl _ w) _) (by simp) ?_; intro v1 w1 hR hb hg_ hnew_; clear hg_ hnew_; have HR := Aside0.mk hR; clear hR; have HB := Aside0.mk hb; clear hb; obtain ⟨g, cap, cur, rfl, hbg0, hg0, hle0, hmx0, hcs0⟩ := rep_made (m := m) HR.out (by simp) HN.out.1; have HG := Aside0.mk (And.intro hbg0 (And.intro hle0 (And.intro hmx0 hcs0))); have HH := Aside0.mk hg0; clear hbg0 hg0 hle0 hmx0 hcs0 HR) | ((with_reducible refine gate_dst (N := 33) rfl ?_); go_loud (refine wpList_copy_splice rfl (.tmp 31) (.tmp 32) 55 55 rfl 3 Tryd.underlying55 HSZ.out _ _ _ _ _ _ rfl rfl g 0 cur 3 HH.out [.int .i64 x] ?cn (rep_cp HB.out HL.out HC.out) ?cf ?c1 w.heap.size w HB.out HG.out.1 ?_); go_loud (case cn => exact (Nat.min_eq_left HN.out.1).symm); go_loud (case cf => exact Nat.le_trans (Nat.le_of_eq (Nat.zero_add _)) (Nat.le_trans HN.out.1 HG.out.2.1)); go_loud (case c1 => intro v hv; simp at hv; subst hv; rfl); intro w2 hg2 hb2; have HH2 := hg2; have HB2 := Aside0.mk hb2; clear hg2 hb2 HH HB))
 trace_state
 go_loopg [8] m (fun gg v8 wr => ∃ nn : Nat, ∃ cu : List Value, v8 = .int .i64 nn ∧ Aside0 (m - nn ≤ gg) ∧ Aside0 (1 ≤ nn ∧ nn ≤ m) ∧ Aside0 (wr.heap[g]? = some (.cells cu.toArray 3 (0, 0))) ∧ Aside0 (cu.length = cap ∧ cu.take nn = List.replicate nn (.int .i64 x)) ∧ Aside0 (Below w.heap.size w wr))
 case atStart => exact ⟨1, _, rfl, ⟨by omega⟩, ⟨⟨Nat.le_refl _, HN.out.1⟩⟩, ⟨HH2.out⟩, ⟨⟨by rw [length_splice _ _ _ (by have := HG.out.2; have := HN.out; simp; omega)]; exact HG.out.2.2.2, rep_splice cur (.int .i64 x) 0 1 (Nat.zero_le _) (by simp)⟩⟩, HB2⟩
 case round =>
  obtain ⟨nn, cu, rfl, hgg, hnn, hgr, hcu, hbr⟩ := hrel
  by_cases hlt : nn < m
  ·
   have hltz : decide ((nn : Int) < (m : Int)) = true := decide_eq_true (by omega)
   have hl3 : nn ≤ m := by omega
   have hl4 : ¬ cap = nn := by have := HG.out; omega
   have hl5 : nn ≤ cap := by have := HG.out; omega
   have hl6 : m ≤ cap := by have := HG.out; omega
   go_wp2
   obtain ⟨q, hq0, hq1, hq2, hq3⟩ : ∃ q, q = Nat.min nn (m - nn) ∧ q ≤ nn ∧ q ≤ m - nn ∧ 1 ≤ q := ⟨_, rfl, Nat.min_le_left _ _, Nat.min_le_right _ _, Nat.le_min.2 ⟨hnn.out.1, by omega⟩⟩
   have HQ := Aside0.mk (And.intro hq0 (And.intro hq1 (And.intro hq2 hq3)))
   have hq4 : nn + q ≤ m := by omega
   have hq5 : (nn : Int) + (q : Int) ≤ 9223372036854775807 := by have := HN.out; omega
   have hq6 : IntKind.i64.wrap ((nn : Int) + (q : Int)) = ((nn + q : Nat) : Int) := by rw [IntWalk.i64_in _ (by omega)]; omega
   have HQ4 := Aside0.mk (And.intro hq4 hq6)
   clear hq0 hq1 hq2 hq3 hq4 hq6
   have hcp := rep_cp2 (x := .int .i64 x) hgr.out hcu.out.2 HQ.out.2.1
   have HCP := Aside0.mk hcp
   clear hcp
   go_region_law? (refine step_copy_splice rfl (.tmp 41) (.tmp 44) 55 55 rfl 3 Tryd.underlying55 HSZ.out (some ⟨g, nn, none⟩) (some ⟨g, 0, none⟩) (m - nn) (cap - nn) nn cap (by simp [Act.eval, Act.put]) (by simp [Act.eval, Act.put]) g nn cu 3 (by exact hgr.out) (List.replicate q (.int .i64 x)) ((List.length_replicate).trans HQ.out.1) (by exact HCP.out) (by rw [List.length_replicate, hcu.out.1]; exact Nat.le_trans HQ4.out.1 (HG.out.2.2.2 ▸ HG.out.2.1)) (fun v hv => by rw [List.eq_of_mem_replicate hv]; rfl) w.heap.size w (by repeat (first | exact hbr.out | apply below_drew1)) HG.out.1 ?_; intro w4 hg4 hb4)
   have HB4 := Aside0.mk hb4
   clear hb4
   go_wp2
   go_roundg (m - (nn + q))
   case measure => have := hgg.out; have := HQ.out; omega
   case rel => exact ⟨nn + q, _, by first | rw [HQ4.out.2] | rw [← HQ4.out.2, IntKind.wrap_i64] | (simp only [Value.int.injEq, true_and]; exact HQ4.out.2), ⟨Nat.le_refl _⟩, ⟨⟨by have := hnn.out; omega, HQ4.out.1⟩⟩, ⟨hg4.out⟩, ⟨⟨by rw [length_splice _ _ _ (by rw [List.length_replicate, hcu.out.1]; exact Nat.le_trans HQ4.out.1 (HG.out.2.2.2 ▸ HG.out.2.1))]; exact hcu.out.1, rep_splice _ _ _ _ (by rw [hcu.out.1]; exact Nat.le_trans hnn.out.2 (HG.out.2.2.2 ▸ HG.out.2.1)) hcu.out.2⟩⟩, HB4⟩
  ·
   have hltz : decide ((nn : Int) < (m : Int)) = false := decide_eq_false (by omega)
   go_wp2
   go_ret
   have e1 : nn = m := by have := hnn.out; omega
   subst e1
   refine ⟨_, rfl, ?_, hbr.out⟩
   have := rep_own (base := w.heap.size) hgr.out HG.out.1 (by rw [hcu.out.1]; exact HG.out.2.2.2 ▸ HG.out.2.1) (by rw [hcu.out.1]; exact HG.out.2.2.2 ▸ HG.out.2.2.1) hcu.out.2
   rw [hcu.out.1] at this
   exact this
theorem slices_Repeat_int_int.calls (A0 : Option Addr) (c0 : Nat) (l0 : List Int) (a1 : Int) (r : List Int) (w : World) (hr0 : Kd.C (Kd.int .i64) w A0 l0.length l0) (hc0 : l0.length ≤ c0) (h : slices_Repeat_int_int.f l0 a1 = some r) :
  Calls Tryd.prog 51 #[.slice A0 l0.length c0, .int .i64 a1] w fun e w' => ∃ v0_ : Value, e = .returned (v0_) ∧ Kd.R (Kd.int .i64) 3 w' w.heap.size (fun _ => True) v0_ r ∧ Below w.heap.size w w' := by
 unfold slices_Repeat_int_int.f at h
 by_cases c : l0.length = 1 ∧ 1 ≤ a1 ∧ a1 ≤ 4096 ∧ bits_Mul.f 1 a1 = some (0, a1)
 ·
  rw [if_pos c] at h
  obtain rfl := Option.some.inj h
  obtain ⟨c1, c2, c3, c4⟩ := c
  obtain ⟨m, rfl⟩ : ∃ m : Nat, a1 = (m : Int) := ⟨a1.toNat, by omega⟩
  obtain ⟨ad, rfl, hx⟩ := Kd.at_int hr0 0 (by omega) (by omega)
  rw [show ad.add (0 : Int).toNat = ad from by cases ad; simp [Addr.add]] at hx
  rw [c1]
  refine (slices_Repeat_int_int.walk ad c0 m (rd l0 0) w (by omega) (by omega) c4 hx).mono ?_
  rintro e w' ⟨v', rfl, hown, hb⟩
  refine ⟨v', rfl, Kd.R_of_own (enc := fun x => .int .i64 x) (h1 := fun _ => rfl) ?_ (fun _ _ => trivial), hb⟩
  rw [Int.toNat_natCast, List.length_replicate]
  simpa [encs] using hown
 ·
  rw [if_neg c] at h
  cases h

end Go.Proofs.YtffodlggihmonaaDoor.PFnSwitching
