-- written by a program of this session (mkp.py) out of the translation; Lean checks it. -- squeezed
import Derived.Lib.SliceRun
import Derived.Test.YtmbiapefigcgnaaPFnPlansx0
import Derived.Test.YtmbiapefigcgnaaPFnPlansx4
import Derived.Test.YtmbiapefigcgnaaPFnPlansx5
namespace Go.Proofs.Ytmbiapefigcgnaa.PFnPlans
open Go.RowKit Go.Proofs.YtmbiapefigcgnaaW.PrintWords Go.Proofs.YtmbiapefigcgnaaW.PrintLast Go.Proofs.YtmbiapefigcgnaaW.PrintMore
attribute [local go_sem] bin_leq bin_gtr bin_geq max2_int min2_int max_two min_two max_three min_three max_four min_four   -- for this text's walks alone
set_option linter.unusedVariables false
set_option linter.unusedSimpArgs false

/-! ### impl_ValidStages: function 41 -/
mutual
def impl_ValidStages.l0 : Nat → List (S34) → List (S34) → Int → Int → Option (Bool)
 | 0, _, _, _, _ => none
 | k + 1, x0, x10, x11, x12 => if x12 < x11 then (if 0 ≤ x12 then (if x12 < (x10.length : Int) then ((impl_IsName.f k ((rd_T34 x10 x12).f0)).bind fun t270 => (if t270 = true then ((impl_within.f ((rd_T34 x10 x12).f1) 1 1000000).bind fun t271 => (if t271 = true then ((impl_within.f ((rd_T34 x10 x12).f2) 0 1000000).bind fun t272 => (if t272 = true then (if (((rd_T34 x10 x12).f3).length : Int) > 8 then (impl_ValidStages.j1 k x0 x10 x11 x12 true ((rd_T34 x10 x12).f0) ((rd_T34 x10 x12).f1) ((rd_T34 x10 x12).f2) ((rd_T34 x10 x12).f3)) else (if x12 > 0 then (if 0 ≤ (wrap64 (x12 - 1)) then (if (wrap64 (x12 - 1)) < (x0.length : Int) then (impl_ValidStages.j1 k x0 x10 x11 x12 (!(Op.bytesLess (((rd_T34 x0 (wrap64 (x12 - 1))).f0).toList) (((rd_T34 x10 x12).f0).toList))) ((rd_T34 x10 x12).f0) ((rd_T34 x10 x12).f1) ((rd_T34 x10 x12).f2) ((rd_T34 x10 x12).f3)) else (none)) else (none)) else (impl_ValidStages.j1 k x0 x10 x11 x12 false ((rd_T34 x10 x12).f0) ((rd_T34 x10 x12).f1) ((rd_T34 x10 x12).f2) ((rd_T34 x10 x12).f3)))) else (impl_ValidStages.j1 k x0 x10 x11 x12 true ((rd_T34 x10 x12).f0) ((rd_T34 x10 x12).f1) ((rd_T34 x10 x12).f2) ((rd_T34 x10 x12).f3)))) else (impl_ValidStages.j1 k x0 x10 x11 x12 true ((rd_T34 x10 x12).f0) ((rd_T34 x10 x12).f1) ((rd_T34 x10 x12).f2) ((rd_T34 x10 x12).f3)))) else (impl_ValidStages.j1 k x0 x10 x11 x12 true ((rd_T34 x10 x12).f0) ((rd_T34 x10 x12).f1) ((rd_T34 x10 x12).f2) ((rd_T34 x10 x12).f3)))) else (none)) else (none)) else ((impl_allStages.f k x0).bind fun t262 => ((impl_firstOrder.f k x0 t262).bind fun t265 => (some ((t265.length : Int) == (x0.length : Int)))))
def impl_ValidStages.j1 : Nat → List (S34) → List (S34) → Int → Int → Bool → ByteArray → Int → Int → List ByteArray → Option (Bool)
 | 0, _, _, _, _, _, _, _, _, _ => none
 | k + 1, x0, x10, x11, x12, x53, x270000, x270001, x270002, x270003 => if x53 = true then (some false) else (impl_ValidStages.l1 k x0 x10 x11 x12 x270003 (x270003.length : Int) 0 x270000 x270001 x270002 x270003)
def impl_ValidStages.l1 : Nat → List (S34) → List (S34) → Int → Int → List ByteArray → Int → Int → ByteArray → Int → Int → List ByteArray → Option (Bool)
 | 0, _, _, _, _, _, _, _, _, _, _, _ => none
 | k + 1, x0, x10, x11, x12, x55, x56, x57, x270000, x270001, x270002, x270003 => if x57 < x56 then (if 0 ≤ x57 then (if x57 < (x55.length : Int) then ((impl_stageAt.f x0 (rdOf ByteArray.empty x55 x57)).bind fun t275 => (if t275 < 0 then (some false) else (if x57 > 0 then (if 0 ≤ (wrap64 (x57 - 1)) then (if (wrap64 (x57 - 1)) < (x270003.length : Int) then (if ((Op.bytesLess ((rdOf ByteArray.empty x270003 (wrap64 (x57 - 1))).toList) ((rdOf ByteArray.empty x55 x57).toList)) = true) then (impl_ValidStages.l1 k x0 x10 x11 x12 x55 x56 (wrap64 (x57 + 1)) x270000 x270001 x270002 x270003) else (some false)) else (none)) else (none)) else (impl_ValidStages.l1 k x0 x10 x11 x12 x55 x56 (wrap64 (x57 + 1)) x270000 x270001 x270002 x270003)))) else (none)) else (none)) else (impl_ValidStages.l0 k x0 x10 x11 (wrap64 (x12 + 1)))
end
def impl_ValidStages.f (k : Nat) (l0 : List (S34)) : Option (Bool) := if (l0.length : Int) > 8 then (some false) else (impl_ValidStages.l0 k l0 l0 (l0.length : Int) 0)
theorem impl_ValidStages.mono_l : ∀ k, (∀ y0 y1 y2 y3, LeO (impl_ValidStages.l0 k y0 y1 y2 y3) (impl_ValidStages.l0 (k + 1) y0 y1 y2 y3)) ∧ (∀ y0 y1 y2 y3 y4 y5 y6 y7 y8, LeO (impl_ValidStages.j1 k y0 y1 y2 y3 y4 y5 y6 y7 y8) (impl_ValidStages.j1 (k + 1) y0 y1 y2 y3 y4 y5 y6 y7 y8)) ∧ (∀ y0 y1 y2 y3 y4 y5 y6 y7 y8 y9 y10, LeO (impl_ValidStages.l1 k y0 y1 y2 y3 y4 y5 y6 y7 y8 y9 y10) (impl_ValidStages.l1 (k + 1) y0 y1 y2 y3 y4 y5 y6 y7 y8 y9 y10))
 | 0 => ⟨fun _ _ _ _ r h => by simp [impl_ValidStages.l0] at h, fun _ _ _ _ _ _ _ _ _ r h => by simp [impl_ValidStages.j1] at h, fun _ _ _ _ _ _ _ _ _ _ _ r h => by simp [impl_ValidStages.l1] at h⟩
 | k + 1 => by
  obtain ⟨ih0, ih1, ih2⟩ := impl_ValidStages.mono_l k
  refine ⟨?_, ?_, ?_⟩
  ·
   intro y0 y1 y2 y3
   unfold impl_ValidStages.l0
   repeat' first
   | (with_reducible exact ih0 _ _ _ _)
   | (with_reducible exact ih1 _ _ _ _ _ _ _ _ _)
   | (with_reducible exact ih2 _ _ _ _ _ _ _ _ _ _ _)
   | (with_reducible exact impl_IsName.mono _ _)
   | (with_reducible exact impl_allStages.mono _ _)
   | (with_reducible exact impl_firstOrder.mono _ _ _)
   | (with_reducible exact LeO.refl _)
   | (with_reducible exact LeO.none _)
   | (with_reducible refine LeO.ite ?_ ?_)
   | (with_reducible refine LeO.bind ?_ (fun _ => ?_))
   | exact ih0 _ _ _ _
   | exact ih1 _ _ _ _ _ _ _ _ _
   | exact ih2 _ _ _ _ _ _ _ _ _ _ _
   | exact impl_IsName.mono _ _
   | exact impl_allStages.mono _ _
   | exact impl_firstOrder.mono _ _ _
   | exact LeO.none _
   | refine LeO.ite ?_ ?_
   | refine LeO.bind ?_ (fun _ => ?_)
  ·
   intro y0 y1 y2 y3 y4 y5 y6 y7 y8
   unfold impl_ValidStages.j1
   repeat' first
   | (with_reducible exact ih0 _ _ _ _)
   | (with_reducible exact ih1 _ _ _ _ _ _ _ _ _)
   | (with_reducible exact ih2 _ _ _ _ _ _ _ _ _ _ _)
   | (with_reducible exact impl_IsName.mono _ _)
   | (with_reducible exact impl_allStages.mono _ _)
   | (with_reducible exact impl_firstOrder.mono _ _ _)
   | (with_reducible exact LeO.refl _)
   | (with_reducible exact LeO.none _)
   | (with_reducible refine LeO.ite ?_ ?_)
   | (with_reducible refine LeO.bind ?_ (fun _ => ?_))
   | exact ih0 _ _ _ _
   | exact ih1 _ _ _ _ _ _ _ _ _
   | exact ih2 _ _ _ _ _ _ _ _ _ _ _
   | exact impl_IsName.mono _ _
   | exact impl_allStages.mono _ _
   | exact impl_firstOrder.mono _ _ _
   | exact LeO.none _
   | refine LeO.ite ?_ ?_
   | refine LeO.bind ?_ (fun _ => ?_)
  ·
   intro y0 y1 y2 y3 y4 y5 y6 y7 y8 y9 y10
   unfold impl_ValidStages.l1
   repeat' first
   | (with_reducible exact ih0 _ _ _ _)
   | (with_reducible exact ih1 _ _ _ _ _ _ _ _ _)
   | (with_reducible exact ih2 _ _ _ _ _ _ _ _ _ _ _)
   | (with_reducible exact impl_IsName.mono _ _)
   | (with_reducible exact impl_allStages.mono _ _)
   | (with_reducible exact impl_firstOrder.mono _ _ _)
   | (with_reducible exact LeO.refl _)
   | (with_reducible exact LeO.none _)
   | (with_reducible refine LeO.ite ?_ ?_)
   | (with_reducible refine LeO.bind ?_ (fun _ => ?_))
   | exact ih0 _ _ _ _
   | exact ih1 _ _ _ _ _ _ _ _ _
   | exact ih2 _ _ _ _ _ _ _ _ _ _ _
   | exact impl_IsName.mono _ _
   | exact impl_allStages.mono _ _
   | exact impl_firstOrder.mono _ _ _
   | exact LeO.none _
   | refine LeO.ite ?_ ?_
   | refine LeO.bind ?_ (fun _ => ?_)
theorem impl_ValidStages.mono : ∀ a0 k, LeO (impl_ValidStages.f k a0) (impl_ValidStages.f (k + 1) a0) := by
 intro a0 k
 obtain ⟨ih0, ih1, ih2⟩ := impl_ValidStages.mono_l k
 unfold impl_ValidStages.f
 repeat' first
  | (with_reducible exact ih0 _ _ _ _)
  | (with_reducible exact ih1 _ _ _ _ _ _ _ _ _)
  | (with_reducible exact ih2 _ _ _ _ _ _ _ _ _ _ _)
  | (with_reducible exact impl_IsName.mono _ _)
  | (with_reducible exact impl_allStages.mono _ _)
  | (with_reducible exact impl_firstOrder.mono _ _ _)
  | (with_reducible exact LeO.refl _)
  | (with_reducible exact LeO.none _)
  | (with_reducible refine LeO.ite ?_ ?_)
  | (with_reducible refine LeO.bind ?_ (fun _ => ?_))
  | exact ih0 _ _ _ _
  | exact ih1 _ _ _ _ _ _ _ _ _
  | exact ih2 _ _ _ _ _ _ _ _ _ _ _
  | exact impl_IsName.mono _ _
  | exact impl_allStages.mono _ _
  | exact impl_firstOrder.mono _ _ _
  | exact LeO.none _
  | refine LeO.ite ?_ ?_
  | refine LeO.bind ?_ (fun _ => ?_)
set_option maxHeartbeats 8000000 in
set_option maxRecDepth 100000 in
theorem impl_ValidStages.calls (k : Nat) (A0 : Option Addr) (c0 : Nat) (l0 : List (S34)) (r : Bool) (w : World) (hr0 : Kd.C k34 w A0 l0.length l0) (hc0 : l0.length ≤ c0) (h : impl_ValidStages.f k l0 = some r) :
  Calls Try.prog 41 #[.slice A0 l0.length c0] w fun e w' => e = .returned (.bool r) ∧ Below w.heap.size w w' := by
 have hu34 := Try.underlying34
 have HR0 := Aside0.mk hr0
 have HC0 := Aside0.mk hc0
 clear hr0 hc0
 have HB := Aside0.mk (Below.refl w.heap.size w)
 have H : (if (l0.length : Int) > 8 then (some false) else (impl_ValidStages.l0 k l0 l0 (l0.length : Int) 0)) = some r := h
 clear h
 by_cases c2 : (l0.length : Int) > 8
 ·
  rw [if_pos c2] at H
  have c2b0 : decide (8 < (l0.length : Int)) = true := decide_eq_true c2
  have c2b1 : decide (8 < l0.length) = true := decide_eq_true (by omega)
  clear c2
  obtain rfl := Option.some.inj H
  go_enter Try.func41, Try.ntmps41
  go_wp2
  repeat (go_quiet (fail); try go_wp2)
  go_ret
  exact ⟨by first | rfl | (simp [errW_none, errW_some] <;> rfl) | (simp [*, errW_none, errW_some] <;> rfl), mvB HB.out⟩
 ·
  rw [if_neg c2] at H
  have c2b0 : decide (8 < (l0.length : Int)) = false := decide_eq_false c2
  have c2b1 : decide (8 < l0.length) = false := decide_eq_false (by omega)
  clear c2
  have H' := Aside0.mk H
  clear H
  go_enter Try.func41, Try.ntmps41
  go_wp2
  repeat (go_quiet (fail); try go_wp2)
  go_loopg [12] k (fun kq v12 w' => ∃ (x12_1 : Int), v12 = .int .i64 x12_1 ∧ Aside0 (impl_ValidStages.l0 kq l0 l0 (l0.length : Int) x12_1 = some r) ∧ Aside0 (kq ≤ k) ∧ Aside0 (Below w.heap.size w w'))
  case atStart => exact ⟨(0), rs, H', ⟨Nat.le_refl _⟩, ⟨mvB HB.out⟩⟩
  case round =>
   clear H'
   try clear c2b0
   try clear c2b1
   obtain ⟨x12_1, rfl, HA, HK1, HB⟩ := hrel
   cases gk with
   | zero => exact absurd HA.out (by simp [impl_ValidStages.l0])
   | succ k1 =>
    have H := HA.out
    clear HA
    simp only [impl_ValidStages.l0] at H
    by_cases c3 : x12_1 < (l0.length : Int)
    ·
     rw [if_pos c3] at H
     have c3b0 : decide (x12_1 < (l0.length : Int)) = true := decide_eq_true c3
     clear c3
     by_cases c4 : 0 ≤ x12_1
     ·
      rw [if_pos c4] at H
      have c4b0 : decide (0 ≤ x12_1) = true := decide_eq_true c4
      clear c4
      by_cases c5 : x12_1 < (l0.length : Int)
      ·
       rw [if_pos c5] at H
       have c5b0 : decide (x12_1 < (l0.length : Int)) = true := decide_eq_true c5
       clear c5
       have HC6 := Aside0.mk H
       clear H
       have p268 : 0 ≤ (x12_1 : Int) := od
       have q268 : x12_1 < (l0.length : Int) := od
       obtain ⟨ad268, A268_3, c268_3, e268, hx268_0, hx268_1, hx268_2, hx268_3, hl268_3, hi268_3⟩ := at_T34 HR0.out x12_1 p268 q268
       cases e268
       replace hx268_0 := (HB.out.cell (World.block_lt_of_cell? w _ hx268_0)).trans hx268_0
       replace hx268_1 := (HB.out.cell (World.block_lt_of_cell? w _ hx268_1)).trans hx268_1
       replace hx268_2 := (HB.out.cell (World.block_lt_of_cell? w _ hx268_2)).trans hx268_2
       replace hx268_3 := (HB.out.cell (World.block_lt_of_cell? w _ hx268_3)).trans hx268_3
       have HR268_3 := Aside0.mk hi268_3
       have HC268_3 := Aside0.mk hl268_3
       clear hi268_3 hl268_3
       replace p268 := eq_true p268
       replace q268 := eq_true q268
       go_upto_region 6 with (first | ((with_reducible refine gate_dst (N := 4) rfl ?_); (try (refine gate_guard (by rfl) ?_; dsimp only)); refine box_event ?hg (N := 4) ?hd (cs := #[.string (⟨#[]⟩ : ByteArray), .int .i64 0, .int .i64 0, .slice none 0 0]) (t := 34) ?hr ?_; (case hd => rfl); (case hg => rfl); (case hr => first | (go_simp; done) | (go_simp; rfl)); intro gb269 hg w7 hbox hb; have n0_ := Aside0.mk (below_step (mvB HB.out) hb); have n1_ := Aside0.mk (hbox); have n2_ := Aside0.mk ((by rw [hg]; exact (below_size (mvB HB.out)) : w.heap.size ≤ gb269)); have n3_ := Aside0.mk ((by rw [hg]; exact (below_size (mvB HB.out)) : w.heap.size ≤ gb269)); clear HB; revert n0_ n1_ n2_ n3_; intro HB BK269 GW269 GE269; clear hb hbox hg; have hcz8_0 : w7.cell? ⟨gb269, 0, none⟩ = some (.string (⟨#[]⟩ : ByteArray)) := (blk_cell BK269.out 0).trans rfl; have hcz8_1 : w7.cell? ⟨gb269, 1, none⟩ = some (.int .i64 0) := (blk_cell BK269.out 1).trans rfl; have hcz8_2 : w7.cell? ⟨gb269, 2, none⟩ = some (.int .i64 0) := (blk_cell BK269.out 2).trans rfl; have hcz8_3 : w7.cell? ⟨gb269, 3, none⟩ = some (.slice none 0 0) := (blk_cell BK269.out 3).trans rfl; have hfz8_0 := blk_frozen BK269.out 0; have hfz8_1 := blk_frozen BK269.out 1; have hfz8_2 := blk_frozen BK269.out 2; have hfz8_3 := blk_frozen BK269.out 3))
       repeat (go_quiet (first | ((with_reducible refine gate_dst (N := 4) rfl ?_); (try (refine gate_guard (by rfl) ?_; dsimp only)); refine box_event ?hg (N := 4) ?hd (cs := #[.string (⟨#[]⟩ : ByteArray), .int .i64 0, .int .i64 0, .slice none 0 0]) (t := 34) ?hr ?_; (case hd => rfl); (case hg => rfl); (case hr => first | (go_simp; done) | (go_simp; rfl)); intro gb269 hg w7 hbox hb; have n0_ := Aside0.mk (below_step (mvB HB.out) hb); have n1_ := Aside0.mk (hbox); have n2_ := Aside0.mk ((by rw [hg]; exact (below_size (mvB HB.out)) : w.heap.size ≤ gb269)); have n3_ := Aside0.mk ((by rw [hg]; exact (below_size (mvB HB.out)) : w.heap.size ≤ gb269)); clear HB; revert n0_ n1_ n2_ n3_; intro HB BK269 GW269 GE269; clear hb hbox hg; have hcz8_0 : w7.cell? ⟨gb269, 0, none⟩ = some (.string (⟨#[]⟩ : ByteArray)) := (blk_cell BK269.out 0).trans rfl; have hcz8_1 : w7.cell? ⟨gb269, 1, none⟩ = some (.int .i64 0) := (blk_cell BK269.out 1).trans rfl; have hcz8_2 : w7.cell? ⟨gb269, 2, none⟩ = some (.int .i64 0) := (blk_cell BK269.out 2).trans rfl; have hcz8_3 : w7.cell? ⟨gb269, 3, none⟩ = some (.slice none 0 0) := (blk_cell BK269.out 3).trans rfl; have hfz8_0 := blk_frozen BK269.out 0; have hfz8_1 := blk_frozen BK269.out 1; have hfz8_2 := blk_frozen BK269.out 2; have hfz8_3 := blk_frozen BK269.out 3)); go_upto_region 6 with (first | ((with_reducible refine gate_dst (N := 4) rfl ?_); (try (refine gate_guard (by rfl) ?_; dsimp only)); refine box_event ?hg (N := 4) ?hd (cs := #[.string (⟨#[]⟩ : ByteArray), .int .i64 0, .int .i64 0, .slice none 0 0]) (t := 34) ?hr ?_; (case hd => rfl); (case hg => rfl); (case hr => first | (go_simp; done) | (go_simp; rfl)); intro gb269 hg w7 hbox hb; have n0_ := Aside0.mk (below_step (mvB HB.out) hb); have n1_ := Aside0.mk (hbox); have n2_ := Aside0.mk ((by rw [hg]; exact (below_size (mvB HB.out)) : w.heap.size ≤ gb269)); have n3_ := Aside0.mk ((by rw [hg]; exact (below_size (mvB HB.out)) : w.heap.size ≤ gb269)); clear HB; revert n0_ n1_ n2_ n3_; intro HB BK269 GW269 GE269; clear hb hbox hg; have hcz8_0 : w7.cell? ⟨gb269, 0, none⟩ = some (.string (⟨#[]⟩ : ByteArray)) := (blk_cell BK269.out 0).trans rfl; have hcz8_1 : w7.cell? ⟨gb269, 1, none⟩ = some (.int .i64 0) := (blk_cell BK269.out 1).trans rfl; have hcz8_2 : w7.cell? ⟨gb269, 2, none⟩ = some (.int .i64 0) := (blk_cell BK269.out 2).trans rfl; have hcz8_3 : w7.cell? ⟨gb269, 3, none⟩ = some (.slice none 0 0) := (blk_cell BK269.out 3).trans rfl; have hfz8_0 := blk_frozen BK269.out 0; have hfz8_1 := blk_frozen BK269.out 1; have hfz8_2 := blk_frozen BK269.out 2; have hfz8_3 := blk_frozen BK269.out 3)))
       (try simp only [Act.put, List.setIfInBounds_toArray, List.set_cons_zero, List.set_cons_succ])
       go_cut [53] (fun v53 wc => ∃ (kq : Nat) (x53_5 : Bool), v53 = .bool x53_5 ∧ Aside0 (impl_ValidStages.j1 kq l0 l0 (l0.length : Int) x12_1 x53_5 ((rd_T34 l0 x12_1).f0) ((rd_T34 l0 x12_1).f1) ((rd_T34 l0 x12_1).f2) ((rd_T34 l0 x12_1).f3) = some r) ∧ Aside0 (kq ≤ k1) ∧ Aside0 (wc.heap[gb269]? = some (.cells #[.string ((rd_T34 l0 x12_1).f0), .int .i64 ((rd_T34 l0 x12_1).f1), .int .i64 ((rd_T34 l0 x12_1).f2), (.slice A268_3 ((rd_T34 l0 x12_1).f3).length c268_3)] 34 (0, 0))) ∧ Aside0 (Below w.heap.size w wc))
       case first =>
        have H := HC6.out
        clear HC6
        replace H := Option.bind_eq_some_iff.mp H
        obtain ⟨t270, A90, H⟩ := H
        replace H : (if t270 = true then ((impl_within.f ((rd_T34 l0 x12_1).f1) 1 1000000).bind fun t271 => (if t271 = true then ((impl_within.f ((rd_T34 l0 x12_1).f2) 0 1000000).bind fun t272 => (if t272 = true then (if (((rd_T34 l0 x12_1).f3).length : Int) > 8 then (impl_ValidStages.j1 k1 l0 l0 (l0.length : Int) x12_1 true ((rd_T34 l0 x12_1).f0) ((rd_T34 l0 x12_1).f1) ((rd_T34 l0 x12_1).f2) ((rd_T34 l0 x12_1).f3)) else (if x12_1 > 0 then (if 0 ≤ (wrap64 (x12_1 - 1)) then (if (wrap64 (x12_1 - 1)) < (l0.length : Int) then (impl_ValidStages.j1 k1 l0 l0 (l0.length : Int) x12_1 (!(Op.bytesLess (((rd_T34 l0 (wrap64 (x12_1 - 1))).f0).toList) (((rd_T34 l0 x12_1).f0).toList))) ((rd_T34 l0 x12_1).f0) ((rd_T34 l0 x12_1).f1) ((rd_T34 l0 x12_1).f2) ((rd_T34 l0 x12_1).f3)) else (none)) else (none)) else (impl_ValidStages.j1 k1 l0 l0 (l0.length : Int) x12_1 false ((rd_T34 l0 x12_1).f0) ((rd_T34 l0 x12_1).f1) ((rd_T34 l0 x12_1).f2) ((rd_T34 l0 x12_1).f3)))) else (impl_ValidStages.j1 k1 l0 l0 (l0.length : Int) x12_1 true ((rd_T34 l0 x12_1).f0) ((rd_T34 l0 x12_1).f1) ((rd_T34 l0 x12_1).f2) ((rd_T34 l0 x12_1).f3)))) else (impl_ValidStages.j1 k1 l0 l0 (l0.length : Int) x12_1 true ((rd_T34 l0 x12_1).f0) ((rd_T34 l0 x12_1).f1) ((rd_T34 l0 x12_1).f2) ((rd_T34 l0 x12_1).f3)))) else (impl_ValidStages.j1 k1 l0 l0 (l0.length : Int) x12_1 true ((rd_T34 l0 x12_1).f0) ((rd_T34 l0 x12_1).f1) ((rd_T34 l0 x12_1).f2) ((rd_T34 l0 x12_1).f3))) = some r := H
        have A9 := Aside0.mk A90
        clear A90
        by_cases c10 : t270 = true
        ·
         subst c10
         have H1 : ((impl_within.f ((rd_T34 l0 x12_1).f1) 1 1000000).bind fun t271 => (if t271 = true then ((impl_within.f ((rd_T34 l0 x12_1).f2) 0 1000000).bind fun t272 => (if t272 = true then (if (((rd_T34 l0 x12_1).f3).length : Int) > 8 then (impl_ValidStages.j1 k1 l0 l0 (l0.length : Int) x12_1 true ((rd_T34 l0 x12_1).f0) ((rd_T34 l0 x12_1).f1) ((rd_T34 l0 x12_1).f2) ((rd_T34 l0 x12_1).f3)) else (if x12_1 > 0 then (if 0 ≤ (wrap64 (x12_1 - 1)) then (if (wrap64 (x12_1 - 1)) < (l0.length : Int) then (impl_ValidStages.j1 k1 l0 l0 (l0.length : Int) x12_1 (!(Op.bytesLess (((rd_T34 l0 (wrap64 (x12_1 - 1))).f0).toList) (((rd_T34 l0 x12_1).f0).toList))) ((rd_T34 l0 x12_1).f0) ((rd_T34 l0 x12_1).f1) ((rd_T34 l0 x12_1).f2) ((rd_T34 l0 x12_1).f3)) else (none)) else (none)) else (impl_ValidStages.j1 k1 l0 l0 (l0.length : Int) x12_1 false ((rd_T34 l0 x12_1).f0) ((rd_T34 l0 x12_1).f1) ((rd_T34 l0 x12_1).f2) ((rd_T34 l0 x12_1).f3)))) else (impl_ValidStages.j1 k1 l0 l0 (l0.length : Int) x12_1 true ((rd_T34 l0 x12_1).f0) ((rd_T34 l0 x12_1).f1) ((rd_T34 l0 x12_1).f2) ((rd_T34 l0 x12_1).f3)))) else (impl_ValidStages.j1 k1 l0 l0 (l0.length : Int) x12_1 true ((rd_T34 l0 x12_1).f0) ((rd_T34 l0 x12_1).f1) ((rd_T34 l0 x12_1).f2) ((rd_T34 l0 x12_1).f3)))) = some r := by rw [if_pos rfl] at H; exact H
         clear H
         have H := H1
         clear H1
         replace H := Option.bind_eq_some_iff.mp H
         obtain ⟨t271, A110, H⟩ := H
         replace H : (if t271 = true then ((impl_within.f ((rd_T34 l0 x12_1).f2) 0 1000000).bind fun t272 => (if t272 = true then (if (((rd_T34 l0 x12_1).f3).length : Int) > 8 then (impl_ValidStages.j1 k1 l0 l0 (l0.length : Int) x12_1 true ((rd_T34 l0 x12_1).f0) ((rd_T34 l0 x12_1).f1) ((rd_T34 l0 x12_1).f2) ((rd_T34 l0 x12_1).f3)) else (if x12_1 > 0 then (if 0 ≤ (wrap64 (x12_1 - 1)) then (if (wrap64 (x12_1 - 1)) < (l0.length : Int) then (impl_ValidStages.j1 k1 l0 l0 (l0.length : Int) x12_1 (!(Op.bytesLess (((rd_T34 l0 (wrap64 (x12_1 - 1))).f0).toList) (((rd_T34 l0 x12_1).f0).toList))) ((rd_T34 l0 x12_1).f0) ((rd_T34 l0 x12_1).f1) ((rd_T34 l0 x12_1).f2) ((rd_T34 l0 x12_1).f3)) else (none)) else (none)) else (impl_ValidStages.j1 k1 l0 l0 (l0.length : Int) x12_1 false ((rd_T34 l0 x12_1).f0) ((rd_T34 l0 x12_1).f1) ((rd_T34 l0 x12_1).f2) ((rd_T34 l0 x12_1).f3)))) else (impl_ValidStages.j1 k1 l0 l0 (l0.length : Int) x12_1 true ((rd_T34 l0 x12_1).f0) ((rd_T34 l0 x12_1).f1) ((rd_T34 l0 x12_1).f2) ((rd_T34 l0 x12_1).f3)))) else (impl_ValidStages.j1 k1 l0 l0 (l0.length : Int) x12_1 true ((rd_T34 l0 x12_1).f0) ((rd_T34 l0 x12_1).f1) ((rd_T34 l0 x12_1).f2) ((rd_T34 l0 x12_1).f3))) = some r := H
         have A11 := Aside0.mk A110
         clear A110
         by_cases c12 : t271 = true
         ·
          subst c12
          have H1 : ((impl_within.f ((rd_T34 l0 x12_1).f2) 0 1000000).bind fun t272 => (if t272 = true then (if (((rd_T34 l0 x12_1).f3).length : Int) > 8 then (impl_ValidStages.j1 k1 l0 l0 (l0.length : Int) x12_1 true ((rd_T34 l0 x12_1).f0) ((rd_T34 l0 x12_1).f1) ((rd_T34 l0 x12_1).f2) ((rd_T34 l0 x12_1).f3)) else (if x12_1 > 0 then (if 0 ≤ (wrap64 (x12_1 - 1)) then (if (wrap64 (x12_1 - 1)) < (l0.length : Int) then (impl_ValidStages.j1 k1 l0 l0 (l0.length : Int) x12_1 (!(Op.bytesLess (((rd_T34 l0 (wrap64 (x12_1 - 1))).f0).toList) (((rd_T34 l0 x12_1).f0).toList))) ((rd_T34 l0 x12_1).f0) ((rd_T34 l0 x12_1).f1) ((rd_T34 l0 x12_1).f2) ((rd_T34 l0 x12_1).f3)) else (none)) else (none)) else (impl_ValidStages.j1 k1 l0 l0 (l0.length : Int) x12_1 false ((rd_T34 l0 x12_1).f0) ((rd_T34 l0 x12_1).f1) ((rd_T34 l0 x12_1).f2) ((rd_T34 l0 x12_1).f3)))) else (impl_ValidStages.j1 k1 l0 l0 (l0.length : Int) x12_1 true ((rd_T34 l0 x12_1).f0) ((rd_T34 l0 x12_1).f1) ((rd_T34 l0 x12_1).f2) ((rd_T34 l0 x12_1).f3)))) = some r := by rw [if_pos rfl] at H; exact H
          clear H
          have H := H1
          clear H1
          replace H := Option.bind_eq_some_iff.mp H
          obtain ⟨t272, A130, H⟩ := H
          replace H : (if t272 = true then (if (((rd_T34 l0 x12_1).f3).length : Int) > 8 then (impl_ValidStages.j1 k1 l0 l0 (l0.length : Int) x12_1 true ((rd_T34 l0 x12_1).f0) ((rd_T34 l0 x12_1).f1) ((rd_T34 l0 x12_1).f2) ((rd_T34 l0 x12_1).f3)) else (if x12_1 > 0 then (if 0 ≤ (wrap64 (x12_1 - 1)) then (if (wrap64 (x12_1 - 1)) < (l0.length : Int) then (impl_ValidStages.j1 k1 l0 l0 (l0.length : Int) x12_1 (!(Op.bytesLess (((rd_T34 l0 (wrap64 (x12_1 - 1))).f0).toList) (((rd_T34 l0 x12_1).f0).toList))) ((rd_T34 l0 x12_1).f0) ((rd_T34 l0 x12_1).f1) ((rd_T34 l0 x12_1).f2) ((rd_T34 l0 x12_1).f3)) else (none)) else (none)) else (impl_ValidStages.j1 k1 l0 l0 (l0.length : Int) x12_1 false ((rd_T34 l0 x12_1).f0) ((rd_T34 l0 x12_1).f1) ((rd_T34 l0 x12_1).f2) ((rd_T34 l0 x12_1).f3)))) else (impl_ValidStages.j1 k1 l0 l0 (l0.length : Int) x12_1 true ((rd_T34 l0 x12_1).f0) ((rd_T34 l0 x12_1).f1) ((rd_T34 l0 x12_1).f2) ((rd_T34 l0 x12_1).f3))) = some r := H
          have A13 := Aside0.mk A130
          clear A130
          by_cases c14 : t272 = true
          ·
           subst c14
           have H1 : (if (((rd_T34 l0 x12_1).f3).length : Int) > 8 then (impl_ValidStages.j1 k1 l0 l0 (l0.length : Int) x12_1 true ((rd_T34 l0 x12_1).f0) ((rd_T34 l0 x12_1).f1) ((rd_T34 l0 x12_1).f2) ((rd_T34 l0 x12_1).f3)) else (if x12_1 > 0 then (if 0 ≤ (wrap64 (x12_1 - 1)) then (if (wrap64 (x12_1 - 1)) < (l0.length : Int) then (impl_ValidStages.j1 k1 l0 l0 (l0.length : Int) x12_1 (!(Op.bytesLess (((rd_T34 l0 (wrap64 (x12_1 - 1))).f0).toList) (((rd_T34 l0 x12_1).f0).toList))) ((rd_T34 l0 x12_1).f0) ((rd_T34 l0 x12_1).f1) ((rd_T34 l0 x12_1).f2) ((rd_T34 l0 x12_1).f3)) else (none)) else (none)) else (impl_ValidStages.j1 k1 l0 l0 (l0.length : Int) x12_1 false ((rd_T34 l0 x12_1).f0) ((rd_T34 l0 x12_1).f1) ((rd_T34 l0 x12_1).f2) ((rd_T34 l0 x12_1).f3)))) = some r := by rw [if_pos rfl] at H; exact H
           clear H
           have H := H1
           clear H1
           by_cases c15 : (((rd_T34 l0 x12_1).f3).length : Int) > 8
           ·
            rw [if_pos c15] at H
            have c15b0 : decide (8 < (((rd_T34 l0 x12_1).f3).length : Int)) = true := decide_eq_true c15
            have c15b1 : decide (8 < ((rd_T34 l0 x12_1).f3).length) = true := decide_eq_true (by omega)
            clear c15
            (first | rw [c15b0] | (simp only [i64_w, i32_w]; rw [c15b0]) | skip)
            have H' := Aside0.mk H
            clear H
            have hcz16_0 : w7.cell? ⟨gb269, 0, none⟩ = some (.string (⟨#[]⟩ : ByteArray)) := (blk_cell BK269.out 0).trans rfl
            have hcz16_1 : w7.cell? ⟨gb269, 1, none⟩ = some (.int .i64 0) := (blk_cell BK269.out 1).trans rfl
            have hcz16_2 : w7.cell? ⟨gb269, 2, none⟩ = some (.int .i64 0) := (blk_cell BK269.out 2).trans rfl
            have hcz16_3 : w7.cell? ⟨gb269, 3, none⟩ = some (.slice none 0 0) := (blk_cell BK269.out 3).trans rfl
            have hfz16_0 := blk_frozen BK269.out 0
            have hfz16_1 := blk_frozen BK269.out 1
            have hfz16_2 := blk_frozen BK269.out 2
            have hfz16_3 := blk_frozen BK269.out 3
            go_wp2_with (first | (go_at_call 80; (with_reducible refine (impl_IsName.calls k1 ((rd_T34 l0 x12_1).f0) true _ A9.out).mono ?_); rintro e w' ⟨rfl, ⟨nd, rfl⟩⟩; (try first | exact ⟨rfl, _, World.drewN_drewN _ _ _⟩ | exact ⟨rfl, _, Eq.trans (World.drewN_drewN _ _ _) (congrArg (World.drewN _) (Nat.add_assoc _ _ _))⟩)) | (go_at_call 43; (with_reducible refine (impl_within.calls ((rd_T34 l0 x12_1).f1) 1 1000000 true _ A11.out).mono ?_); rintro e w' ⟨rfl, ⟨nd, rfl⟩⟩; (try first | exact ⟨rfl, _, World.drewN_drewN _ _ _⟩ | exact ⟨rfl, _, Eq.trans (World.drewN_drewN _ _ _) (congrArg (World.drewN _) (Nat.add_assoc _ _ _))⟩)) | (go_at_call 43; (with_reducible refine (impl_within.calls ((rd_T34 l0 x12_1).f2) 0 1000000 true _ A13.out).mono ?_); rintro e w' ⟨rfl, ⟨nd, rfl⟩⟩; (try first | exact ⟨rfl, _, World.drewN_drewN _ _ _⟩ | exact ⟨rfl, _, Eq.trans (World.drewN_drewN _ _ _) (congrArg (World.drewN _) (Nat.add_assoc _ _ _))⟩)))
            repeat (go_quiet (first | (go_at_call 80; (with_reducible refine (impl_IsName.calls k1 ((rd_T34 l0 x12_1).f0) true _ A9.out).mono ?_); rintro e w' ⟨rfl, ⟨nd, rfl⟩⟩; (try first | exact ⟨rfl, _, World.drewN_drewN _ _ _⟩ | exact ⟨rfl, _, Eq.trans (World.drewN_drewN _ _ _) (congrArg (World.drewN _) (Nat.add_assoc _ _ _))⟩)) | (go_at_call 43; (with_reducible refine (impl_within.calls ((rd_T34 l0 x12_1).f1) 1 1000000 true _ A11.out).mono ?_); rintro e w' ⟨rfl, ⟨nd, rfl⟩⟩; (try first | exact ⟨rfl, _, World.drewN_drewN _ _ _⟩ | exact ⟨rfl, _, Eq.trans (World.drewN_drewN _ _ _) (congrArg (World.drewN _) (Nat.add_assoc _ _ _))⟩)) | (go_at_call 43; (with_reducible refine (impl_within.calls ((rd_T34 l0 x12_1).f2) 0 1000000 true _ A13.out).mono ?_); rintro e w' ⟨rfl, ⟨nd, rfl⟩⟩; (try first | exact ⟨rfl, _, World.drewN_drewN _ _ _⟩ | exact ⟨rfl, _, Eq.trans (World.drewN_drewN _ _ _) (congrArg (World.drewN _) (Nat.add_assoc _ _ _))⟩))); try go_wp2_with (first | (go_at_call 80; (with_reducible refine (impl_IsName.calls k1 ((rd_T34 l0 x12_1).f0) true _ A9.out).mono ?_); rintro e w' ⟨rfl, ⟨nd, rfl⟩⟩; (try first | exact ⟨rfl, _, World.drewN_drewN _ _ _⟩ | exact ⟨rfl, _, Eq.trans (World.drewN_drewN _ _ _) (congrArg (World.drewN _) (Nat.add_assoc _ _ _))⟩)) | (go_at_call 43; (with_reducible refine (impl_within.calls ((rd_T34 l0 x12_1).f1) 1 1000000 true _ A11.out).mono ?_); rintro e w' ⟨rfl, ⟨nd, rfl⟩⟩; (try first | exact ⟨rfl, _, World.drewN_drewN _ _ _⟩ | exact ⟨rfl, _, Eq.trans (World.drewN_drewN _ _ _) (congrArg (World.drewN _) (Nat.add_assoc _ _ _))⟩)) | (go_at_call 43; (with_reducible refine (impl_within.calls ((rd_T34 l0 x12_1).f2) 0 1000000 true _ A13.out).mono ?_); rintro e w' ⟨rfl, ⟨nd, rfl⟩⟩; (try first | exact ⟨rfl, _, World.drewN_drewN _ _ _⟩ | exact ⟨rfl, _, Eq.trans (World.drewN_drewN _ _ _) (congrArg (World.drewN _) (Nat.add_assoc _ _ _))⟩))))
            go_meet
            case rel => exact ⟨_, (true), rs, H', ⟨by have := HK1.out; first | omega | exact Nat.le_refl _⟩, ⟨by (with_reducible repeat (first | refine blk_drewN ?_ _ | refine blk_drew ?_ | refine blk_alloc ?_ _)); refine blk_put (cs := #[.string ((rd_T34 l0 x12_1).f0), .int .i64 ((rd_T34 l0 x12_1).f1), .int .i64 ((rd_T34 l0 x12_1).f2), .slice none 0 0]) ?_ 3 _ rfl; (with_reducible repeat (first | refine blk_drewN ?_ _ | refine blk_drew ?_ | refine blk_alloc ?_ _)); refine blk_put (cs := #[.string ((rd_T34 l0 x12_1).f0), .int .i64 ((rd_T34 l0 x12_1).f1), .int .i64 0, .slice none 0 0]) ?_ 2 _ rfl; (with_reducible repeat (first | refine blk_drewN ?_ _ | refine blk_drew ?_ | refine blk_alloc ?_ _)); refine blk_put (cs := #[.string ((rd_T34 l0 x12_1).f0), .int .i64 0, .int .i64 0, .slice none 0 0]) ?_ 1 _ rfl; (with_reducible repeat (first | refine blk_drewN ?_ _ | refine blk_drew ?_ | refine blk_alloc ?_ _)); refine blk_put (cs := #[.string (⟨#[]⟩ : ByteArray), .int .i64 0, .int .i64 0, .slice none 0 0]) ?_ 0 _ rfl; (with_reducible repeat (first | refine blk_drewN ?_ _ | refine blk_drew ?_ | refine blk_alloc ?_ _)); exact BK269.out⟩, ⟨by repeat (first | (with_reducible first | exact HB.out | apply below_alloc | apply pw_below_drewN | apply below_drew1 | refine below_set ?_ GE269.out) | exact HB.out)⟩⟩
           ·
            rw [if_neg c15] at H
            have c15b0 : decide (8 < (((rd_T34 l0 x12_1).f3).length : Int)) = false := decide_eq_false c15
            have c15b1 : decide (8 < ((rd_T34 l0 x12_1).f3).length) = false := decide_eq_false (by omega)
            clear c15
            (first | rw [c15b0] | (simp only [i64_w, i32_w]; rw [c15b0]) | skip)
            by_cases c17 : x12_1 > 0
            ·
             rw [if_pos c17] at H
             have c17b0 : decide (0 < x12_1) = true := decide_eq_true c17
             clear c17
             obtain ⟨ji18, hji18⟩ : ∃ j_ : Int, (wrap64 (x12_1 - 1)) = j_ := ⟨_, rfl⟩
             replace H : (if 0 ≤ (ji18) then (if (ji18) < (l0.length : Int) then (impl_ValidStages.j1 k1 l0 l0 (l0.length : Int) x12_1 (!(Op.bytesLess (((rd_T34 l0 (ji18)).f0).toList) (((rd_T34 l0 x12_1).f0).toList))) ((rd_T34 l0 x12_1).f0) ((rd_T34 l0 x12_1).f1) ((rd_T34 l0 x12_1).f2) ((rd_T34 l0 x12_1).f3)) else (none)) else (none)) = some r := by first | (rw [hji18] at H; exact H) | (simp only [hji18] at H ⊢; exact H)
             (try rw [hji18] at A9)
             (try rw [hji18] at A11)
             (try rw [hji18] at A13)
             have hji18w : (IntKind.i64.wrap (x12_1 - 1)) = ji18 := (i64_w _).trans hji18
             by_cases c19 : 0 ≤ (ji18)
             ·
              rw [if_pos c19] at H
              have c19b0 : decide (0 ≤ (ji18)) = true := decide_eq_true c19
              clear c19
              by_cases c20 : (ji18) < (l0.length : Int)
              ·
               rw [if_pos c20] at H
               have c20b0 : decide ((ji18) < (l0.length : Int)) = true := decide_eq_true c20
               clear c20
               have H' := Aside0.mk H
               clear H
               have hcz21_0 : w7.cell? ⟨gb269, 0, none⟩ = some (.string (⟨#[]⟩ : ByteArray)) := (blk_cell BK269.out 0).trans rfl
               have hcz21_1 : w7.cell? ⟨gb269, 1, none⟩ = some (.int .i64 0) := (blk_cell BK269.out 1).trans rfl
               have hcz21_2 : w7.cell? ⟨gb269, 2, none⟩ = some (.int .i64 0) := (blk_cell BK269.out 2).trans rfl
               have hcz21_3 : w7.cell? ⟨gb269, 3, none⟩ = some (.slice none 0 0) := (blk_cell BK269.out 3).trans rfl
               have hfz21_0 := blk_frozen BK269.out 0
               have hfz21_1 := blk_frozen BK269.out 1
               have hfz21_2 := blk_frozen BK269.out 2
               have hfz21_3 := blk_frozen BK269.out 3
               go_wp2_with (first | (go_at_call 80; (with_reducible refine (impl_IsName.calls k1 ((rd_T34 l0 x12_1).f0) true _ A9.out).mono ?_); rintro e w' ⟨rfl, ⟨nd, rfl⟩⟩; (try first | exact ⟨rfl, _, World.drewN_drewN _ _ _⟩ | exact ⟨rfl, _, Eq.trans (World.drewN_drewN _ _ _) (congrArg (World.drewN _) (Nat.add_assoc _ _ _))⟩)) | (go_at_call 43; (with_reducible refine (impl_within.calls ((rd_T34 l0 x12_1).f1) 1 1000000 true _ A11.out).mono ?_); rintro e w' ⟨rfl, ⟨nd, rfl⟩⟩; (try first | exact ⟨rfl, _, World.drewN_drewN _ _ _⟩ | exact ⟨rfl, _, Eq.trans (World.drewN_drewN _ _ _) (congrArg (World.drewN _) (Nat.add_assoc _ _ _))⟩)) | (go_at_call 43; (with_reducible refine (impl_within.calls ((rd_T34 l0 x12_1).f2) 0 1000000 true _ A13.out).mono ?_); rintro e w' ⟨rfl, ⟨nd, rfl⟩⟩; (try first | exact ⟨rfl, _, World.drewN_drewN _ _ _⟩ | exact ⟨rfl, _, Eq.trans (World.drewN_drewN _ _ _) (congrArg (World.drewN _) (Nat.add_assoc _ _ _))⟩); all_goals (have p273 : 0 ≤ ((ji18) : Int) := od; have q273 : (ji18) < (l0.length : Int) := od; obtain ⟨ad273, A273_3, c273_3, e273, hx273_0, hx273_1, hx273_2, hx273_3, hl273_3, hi273_3⟩ := at_T34 HR0.out (ji18) p273 q273; obtain rfl : ad268 = ad273 := (by injection e273); have hn273_0 : ad268.block ≠ gb269 := Nat.ne_of_lt (Nat.lt_of_lt_of_le (by have := World.block_lt_of_cell? _ _ hx273_0; first | rwa [add_block] at this | exact this) GW269.out); have hn273_1 : ad268.block ≠ gb269 := Nat.ne_of_lt (Nat.lt_of_lt_of_le (by have := World.block_lt_of_cell? _ _ hx273_0; first | rwa [add_block] at this | exact this) GW269.out); have hn273_2 : ad268.block ≠ gb269 := Nat.ne_of_lt (Nat.lt_of_lt_of_le (by have := World.block_lt_of_cell? _ _ hx273_0; first | rwa [add_block] at this | exact this) GW269.out); have hn273_3 : ad268.block ≠ gb269 := Nat.ne_of_lt (Nat.lt_of_lt_of_le (by have := World.block_lt_of_cell? _ _ hx273_0; first | rwa [add_block] at this | exact this) GW269.out); replace hx273_0 := (HB.out.cell (World.block_lt_of_cell? w _ hx273_0)).trans hx273_0; replace hx273_1 := (HB.out.cell (World.block_lt_of_cell? w _ hx273_1)).trans hx273_1; replace hx273_2 := (HB.out.cell (World.block_lt_of_cell? w _ hx273_2)).trans hx273_2; replace hx273_3 := (HB.out.cell (World.block_lt_of_cell? w _ hx273_3)).trans hx273_3; have HR273_3 := Aside0.mk hi273_3; have HC273_3 := Aside0.mk hl273_3; clear hi273_3 hl273_3; replace hx273_0 := (cell_far (p := ⟨gb269, 0, none⟩) (by first | (rw [add_block]; exact hn273_0) | (show (Addr.add _ _).block ≠ _; rw [add_block]; exact hn273_0) | exact hn273_0) (.string ((rd_T34 l0 x12_1).f0))).trans hx273_0; replace hx273_1 := (cell_far (p := ⟨gb269, 0, none⟩) (by first | (rw [add_block]; exact hn273_0) | (show (Addr.add _ _).block ≠ _; rw [add_block]; exact hn273_0) | exact hn273_0) (.string ((rd_T34 l0 x12_1).f0))).trans hx273_1; replace hx273_2 := (cell_far (p := ⟨gb269, 0, none⟩) (by first | (rw [add_block]; exact hn273_0) | (show (Addr.add _ _).block ≠ _; rw [add_block]; exact hn273_0) | exact hn273_0) (.string ((rd_T34 l0 x12_1).f0))).trans hx273_2; replace hx273_3 := (cell_far (p := ⟨gb269, 0, none⟩) (by first | (rw [add_block]; exact hn273_0) | (show (Addr.add _ _).block ≠ _; rw [add_block]; exact hn273_0) | exact hn273_0) (.string ((rd_T34 l0 x12_1).f0))).trans hx273_3; replace hx273_0 := (cell_far (p := ⟨gb269, 1, none⟩) (by first | (rw [add_block]; exact hn273_1) | (show (Addr.add _ _).block ≠ _; rw [add_block]; exact hn273_1) | exact hn273_1) (.int .i64 ((rd_T34 l0 x12_1).f1))).trans hx273_0; replace hx273_1 := (cell_far (p := ⟨gb269, 1, none⟩) (by first | (rw [add_block]; exact hn273_1) | (show (Addr.add _ _).block ≠ _; rw [add_block]; exact hn273_1) | exact hn273_1) (.int .i64 ((rd_T34 l0 x12_1).f1))).trans hx273_1; replace hx273_2 := (cell_far (p := ⟨gb269, 1, none⟩) (by first | (rw [add_block]; exact hn273_1) | (show (Addr.add _ _).block ≠ _; rw [add_block]; exact hn273_1) | exact hn273_1) (.int .i64 ((rd_T34 l0 x12_1).f1))).trans hx273_2; replace hx273_3 := (cell_far (p := ⟨gb269, 1, none⟩) (by first | (rw [add_block]; exact hn273_1) | (show (Addr.add _ _).block ≠ _; rw [add_block]; exact hn273_1) | exact hn273_1) (.int .i64 ((rd_T34 l0 x12_1).f1))).trans hx273_3; replace hx273_0 := (cell_far (p := ⟨gb269, 2, none⟩) (by first | (rw [add_block]; exact hn273_2) | (show (Addr.add _ _).block ≠ _; rw [add_block]; exact hn273_2) | exact hn273_2) (.int .i64 ((rd_T34 l0 x12_1).f2))).trans hx273_0; replace hx273_1 := (cell_far (p := ⟨gb269, 2, none⟩) (by first | (rw [add_block]; exact hn273_2) | (show (Addr.add _ _).block ≠ _; rw [add_block]; exact hn273_2) | exact hn273_2) (.int .i64 ((rd_T34 l0 x12_1).f2))).trans hx273_1; replace hx273_2 := (cell_far (p := ⟨gb269, 2, none⟩) (by first | (rw [add_block]; exact hn273_2) | (show (Addr.add _ _).block ≠ _; rw [add_block]; exact hn273_2) | exact hn273_2) (.int .i64 ((rd_T34 l0 x12_1).f2))).trans hx273_2; replace hx273_3 := (cell_far (p := ⟨gb269, 2, none⟩) (by first | (rw [add_block]; exact hn273_2) | (show (Addr.add _ _).block ≠ _; rw [add_block]; exact hn273_2) | exact hn273_2) (.int .i64 ((rd_T34 l0 x12_1).f2))).trans hx273_3; replace hx273_0 := (cell_far (p := ⟨gb269, 3, none⟩) (by first | (rw [add_block]; exact hn273_3) | (show (Addr.add _ _).block ≠ _; rw [add_block]; exact hn273_3) | exact hn273_3) (.slice A268_3 ((rd_T34 l0 x12_1).f3).length c268_3)).trans hx273_0; replace hx273_1 := (cell_far (p := ⟨gb269, 3, none⟩) (by first | (rw [add_block]; exact hn273_3) | (show (Addr.add _ _).block ≠ _; rw [add_block]; exact hn273_3) | exact hn273_3) (.slice A268_3 ((rd_T34 l0 x12_1).f3).length c268_3)).trans hx273_1; replace hx273_2 := (cell_far (p := ⟨gb269, 3, none⟩) (by first | (rw [add_block]; exact hn273_3) | (show (Addr.add _ _).block ≠ _; rw [add_block]; exact hn273_3) | exact hn273_3) (.slice A268_3 ((rd_T34 l0 x12_1).f3).length c268_3)).trans hx273_2; replace hx273_3 := (cell_far (p := ⟨gb269, 3, none⟩) (by first | (rw [add_block]; exact hn273_3) | (show (Addr.add _ _).block ≠ _; rw [add_block]; exact hn273_3) | exact hn273_3) (.slice A268_3 ((rd_T34 l0 x12_1).f3).length c268_3)).trans hx273_3; (try have hy273_0 := fun (n_ : Nat) => (show ((((((w7.drewN n_).setCell ⟨gb269, 0, none⟩ (.string ((rd_T34 l0 x12_1).f0))).setCell ⟨gb269, 1, none⟩ (.int .i64 ((rd_T34 l0 x12_1).f1))).setCell ⟨gb269, 2, none⟩ (.int .i64 ((rd_T34 l0 x12_1).f2))).setCell ⟨gb269, 3, none⟩ (.slice A268_3 ((rd_T34 l0 x12_1).f3).length c268_3))).cell? _ = some _ from hx273_0)); (try have hy273_1 := fun (n_ : Nat) => (show ((((((w7.drewN n_).setCell ⟨gb269, 0, none⟩ (.string ((rd_T34 l0 x12_1).f0))).setCell ⟨gb269, 1, none⟩ (.int .i64 ((rd_T34 l0 x12_1).f1))).setCell ⟨gb269, 2, none⟩ (.int .i64 ((rd_T34 l0 x12_1).f2))).setCell ⟨gb269, 3, none⟩ (.slice A268_3 ((rd_T34 l0 x12_1).f3).length c268_3))).cell? _ = some _ from hx273_1)); (try have hy273_2 := fun (n_ : Nat) => (show ((((((w7.drewN n_).setCell ⟨gb269, 0, none⟩ (.string ((rd_T34 l0 x12_1).f0))).setCell ⟨gb269, 1, none⟩ (.int .i64 ((rd_T34 l0 x12_1).f1))).setCell ⟨gb269, 2, none⟩ (.int .i64 ((rd_T34 l0 x12_1).f2))).setCell ⟨gb269, 3, none⟩ (.slice A268_3 ((rd_T34 l0 x12_1).f3).length c268_3))).cell? _ = some _ from hx273_2)); (try have hy273_3 := fun (n_ : Nat) => (show ((((((w7.drewN n_).setCell ⟨gb269, 0, none⟩ (.string ((rd_T34 l0 x12_1).f0))).setCell ⟨gb269, 1, none⟩ (.int .i64 ((rd_T34 l0 x12_1).f1))).setCell ⟨gb269, 2, none⟩ (.int .i64 ((rd_T34 l0 x12_1).f2))).setCell ⟨gb269, 3, none⟩ (.slice A268_3 ((rd_T34 l0 x12_1).f3).length c268_3))).cell? _ = some _ from hx273_3)); clear hn273_0; clear hn273_1; clear hn273_2; clear hn273_3; replace p273 := eq_true p273; replace q273 := eq_true q273)))
               repeat (go_quiet (first | (go_at_call 80; (with_reducible refine (impl_IsName.calls k1 ((rd_T34 l0 x12_1).f0) true _ A9.out).mono ?_); rintro e w' ⟨rfl, ⟨nd, rfl⟩⟩; (try first | exact ⟨rfl, _, World.drewN_drewN _ _ _⟩ | exact ⟨rfl, _, Eq.trans (World.drewN_drewN _ _ _) (congrArg (World.drewN _) (Nat.add_assoc _ _ _))⟩)) | (go_at_call 43; (with_reducible refine (impl_within.calls ((rd_T34 l0 x12_1).f1) 1 1000000 true _ A11.out).mono ?_); rintro e w' ⟨rfl, ⟨nd, rfl⟩⟩; (try first | exact ⟨rfl, _, World.drewN_drewN _ _ _⟩ | exact ⟨rfl, _, Eq.trans (World.drewN_drewN _ _ _) (congrArg (World.drewN _) (Nat.add_assoc _ _ _))⟩)) | (go_at_call 43; (with_reducible refine (impl_within.calls ((rd_T34 l0 x12_1).f2) 0 1000000 true _ A13.out).mono ?_); rintro e w' ⟨rfl, ⟨nd, rfl⟩⟩; (try first | exact ⟨rfl, _, World.drewN_drewN _ _ _⟩ | exact ⟨rfl, _, Eq.trans (World.drewN_drewN _ _ _) (congrArg (World.drewN _) (Nat.add_assoc _ _ _))⟩); all_goals (have p273 : 0 ≤ ((ji18) : Int) := od; have q273 : (ji18) < (l0.length : Int) := od; obtain ⟨ad273, A273_3, c273_3, e273, hx273_0, hx273_1, hx273_2, hx273_3, hl273_3, hi273_3⟩ := at_T34 HR0.out (ji18) p273 q273; obtain rfl : ad268 = ad273 := (by injection e273); have hn273_0 : ad268.block ≠ gb269 := Nat.ne_of_lt (Nat.lt_of_lt_of_le (by have := World.block_lt_of_cell? _ _ hx273_0; first | rwa [add_block] at this | exact this) GW269.out); have hn273_1 : ad268.block ≠ gb269 := Nat.ne_of_lt (Nat.lt_of_lt_of_le (by have := World.block_lt_of_cell? _ _ hx273_0; first | rwa [add_block] at this | exact this) GW269.out); have hn273_2 : ad268.block ≠ gb269 := Nat.ne_of_lt (Nat.lt_of_lt_of_le (by have := World.block_lt_of_cell? _ _ hx273_0; first | rwa [add_block] at this | exact this) GW269.out); have hn273_3 : ad268.block ≠ gb269 := Nat.ne_of_lt (Nat.lt_of_lt_of_le (by have := World.block_lt_of_cell? _ _ hx273_0; first | rwa [add_block] at this | exact this) GW269.out); replace hx273_0 := (HB.out.cell (World.block_lt_of_cell? w _ hx273_0)).trans hx273_0; replace hx273_1 := (HB.out.cell (World.block_lt_of_cell? w _ hx273_1)).trans hx273_1; replace hx273_2 := (HB.out.cell (World.block_lt_of_cell? w _ hx273_2)).trans hx273_2; replace hx273_3 := (HB.out.cell (World.block_lt_of_cell? w _ hx273_3)).trans hx273_3; have HR273_3 := Aside0.mk hi273_3; have HC273_3 := Aside0.mk hl273_3; clear hi273_3 hl273_3; replace hx273_0 := (cell_far (p := ⟨gb269, 0, none⟩) (by first | (rw [add_block]; exact hn273_0) | (show (Addr.add _ _).block ≠ _; rw [add_block]; exact hn273_0) | exact hn273_0) (.string ((rd_T34 l0 x12_1).f0))).trans hx273_0; replace hx273_1 := (cell_far (p := ⟨gb269, 0, none⟩) (by first | (rw [add_block]; exact hn273_0) | (show (Addr.add _ _).block ≠ _; rw [add_block]; exact hn273_0) | exact hn273_0) (.string ((rd_T34 l0 x12_1).f0))).trans hx273_1; replace hx273_2 := (cell_far (p := ⟨gb269, 0, none⟩) (by first | (rw [add_block]; exact hn273_0) | (show (Addr.add _ _).block ≠ _; rw [add_block]; exact hn273_0) | exact hn273_0) (.string ((rd_T34 l0 x12_1).f0))).trans hx273_2; replace hx273_3 := (cell_far (p := ⟨gb269, 0, none⟩) (by first | (rw [add_block]; exact hn273_0) | (show (Addr.add _ _).block ≠ _; rw [add_block]; exact hn273_0) | exact hn273_0) (.string ((rd_T34 l0 x12_1).f0))).trans hx273_3; replace hx273_0 := (cell_far (p := ⟨gb269, 1, none⟩) (by first | (rw [add_block]; exact hn273_1) | (show (Addr.add _ _).block ≠ _; rw [add_block]; exact hn273_1) | exact hn273_1) (.int .i64 ((rd_T34 l0 x12_1).f1))).trans hx273_0; replace hx273_1 := (cell_far (p := ⟨gb269, 1, none⟩) (by first | (rw [add_block]; exact hn273_1) | (show (Addr.add _ _).block ≠ _; rw [add_block]; exact hn273_1) | exact hn273_1) (.int .i64 ((rd_T34 l0 x12_1).f1))).trans hx273_1; replace hx273_2 := (cell_far (p := ⟨gb269, 1, none⟩) (by first | (rw [add_block]; exact hn273_1) | (show (Addr.add _ _).block ≠ _; rw [add_block]; exact hn273_1) | exact hn273_1) (.int .i64 ((rd_T34 l0 x12_1).f1))).trans hx273_2; replace hx273_3 := (cell_far (p := ⟨gb269, 1, none⟩) (by first | (rw [add_block]; exact hn273_1) | (show (Addr.add _ _).block ≠ _; rw [add_block]; exact hn273_1) | exact hn273_1) (.int .i64 ((rd_T34 l0 x12_1).f1))).trans hx273_3; replace hx273_0 := (cell_far (p := ⟨gb269, 2, none⟩) (by first | (rw [add_block]; exact hn273_2) | (show (Addr.add _ _).block ≠ _; rw [add_block]; exact hn273_2) | exact hn273_2) (.int .i64 ((rd_T34 l0 x12_1).f2))).trans hx273_0; replace hx273_1 := (cell_far (p := ⟨gb269, 2, none⟩) (by first | (rw [add_block]; exact hn273_2) | (show (Addr.add _ _).block ≠ _; rw [add_block]; exact hn273_2) | exact hn273_2) (.int .i64 ((rd_T34 l0 x12_1).f2))).trans hx273_1; replace hx273_2 := (cell_far (p := ⟨gb269, 2, none⟩) (by first | (rw [add_block]; exact hn273_2) | (show (Addr.add _ _).block ≠ _; rw [add_block]; exact hn273_2) | exact hn273_2) (.int .i64 ((rd_T34 l0 x12_1).f2))).trans hx273_2; replace hx273_3 := (cell_far (p := ⟨gb269, 2, none⟩) (by first | (rw [add_block]; exact hn273_2) | (show (Addr.add _ _).block ≠ _; rw [add_block]; exact hn273_2) | exact hn273_2) (.int .i64 ((rd_T34 l0 x12_1).f2))).trans hx273_3; replace hx273_0 := (cell_far (p := ⟨gb269, 3, none⟩) (by first | (rw [add_block]; exact hn273_3) | (show (Addr.add _ _).block ≠ _; rw [add_block]; exact hn273_3) | exact hn273_3) (.slice A268_3 ((rd_T34 l0 x12_1).f3).length c268_3)).trans hx273_0; replace hx273_1 := (cell_far (p := ⟨gb269, 3, none⟩) (by first | (rw [add_block]; exact hn273_3) | (show (Addr.add _ _).block ≠ _; rw [add_block]; exact hn273_3) | exact hn273_3) (.slice A268_3 ((rd_T34 l0 x12_1).f3).length c268_3)).trans hx273_1; replace hx273_2 := (cell_far (p := ⟨gb269, 3, none⟩) (by first | (rw [add_block]; exact hn273_3) | (show (Addr.add _ _).block ≠ _; rw [add_block]; exact hn273_3) | exact hn273_3) (.slice A268_3 ((rd_T34 l0 x12_1).f3).length c268_3)).trans hx273_2; replace hx273_3 := (cell_far (p := ⟨gb269, 3, none⟩) (by first | (rw [add_block]; exact hn273_3) | (show (Addr.add _ _).block ≠ _; rw [add_block]; exact hn273_3) | exact hn273_3) (.slice A268_3 ((rd_T34 l0 x12_1).f3).length c268_3)).trans hx273_3; (try have hy273_0 := fun (n_ : Nat) => (show ((((((w7.drewN n_).setCell ⟨gb269, 0, none⟩ (.string ((rd_T34 l0 x12_1).f0))).setCell ⟨gb269, 1, none⟩ (.int .i64 ((rd_T34 l0 x12_1).f1))).setCell ⟨gb269, 2, none⟩ (.int .i64 ((rd_T34 l0 x12_1).f2))).setCell ⟨gb269, 3, none⟩ (.slice A268_3 ((rd_T34 l0 x12_1).f3).length c268_3))).cell? _ = some _ from hx273_0)); (try have hy273_1 := fun (n_ : Nat) => (show ((((((w7.drewN n_).setCell ⟨gb269, 0, none⟩ (.string ((rd_T34 l0 x12_1).f0))).setCell ⟨gb269, 1, none⟩ (.int .i64 ((rd_T34 l0 x12_1).f1))).setCell ⟨gb269, 2, none⟩ (.int .i64 ((rd_T34 l0 x12_1).f2))).setCell ⟨gb269, 3, none⟩ (.slice A268_3 ((rd_T34 l0 x12_1).f3).length c268_3))).cell? _ = some _ from hx273_1)); (try have hy273_2 := fun (n_ : Nat) => (show ((((((w7.drewN n_).setCell ⟨gb269, 0, none⟩ (.string ((rd_T34 l0 x12_1).f0))).setCell ⟨gb269, 1, none⟩ (.int .i64 ((rd_T34 l0 x12_1).f1))).setCell ⟨gb269, 2, none⟩ (.int .i64 ((rd_T34 l0 x12_1).f2))).setCell ⟨gb269, 3, none⟩ (.slice A268_3 ((rd_T34 l0 x12_1).f3).length c268_3))).cell? _ = some _ from hx273_2)); (try have hy273_3 := fun (n_ : Nat) => (show ((((((w7.drewN n_).setCell ⟨gb269, 0, none⟩ (.string ((rd_T34 l0 x12_1).f0))).setCell ⟨gb269, 1, none⟩ (.int .i64 ((rd_T34 l0 x12_1).f1))).setCell ⟨gb269, 2, none⟩ (.int .i64 ((rd_T34 l0 x12_1).f2))).setCell ⟨gb269, 3, none⟩ (.slice A268_3 ((rd_T34 l0 x12_1).f3).length c268_3))).cell? _ = some _ from hx273_3)); clear hn273_0; clear hn273_1; clear hn273_2; clear hn273_3; replace p273 := eq_true p273; replace q273 := eq_true q273))); try go_wp2_with (first | (go_at_call 80; (with_reducible refine (impl_IsName.calls k1 ((rd_T34 l0 x12_1).f0) true _ A9.out).mono ?_); rintro e w' ⟨rfl, ⟨nd, rfl⟩⟩; (try first | exact ⟨rfl, _, World.drewN_drewN _ _ _⟩ | exact ⟨rfl, _, Eq.trans (World.drewN_drewN _ _ _) (congrArg (World.drewN _) (Nat.add_assoc _ _ _))⟩)) | (go_at_call 43; (with_reducible refine (impl_within.calls ((rd_T34 l0 x12_1).f1) 1 1000000 true _ A11.out).mono ?_); rintro e w' ⟨rfl, ⟨nd, rfl⟩⟩; (try first | exact ⟨rfl, _, World.drewN_drewN _ _ _⟩ | exact ⟨rfl, _, Eq.trans (World.drewN_drewN _ _ _) (congrArg (World.drewN _) (Nat.add_assoc _ _ _))⟩)) | (go_at_call 43; (with_reducible refine (impl_within.calls ((rd_T34 l0 x12_1).f2) 0 1000000 true _ A13.out).mono ?_); rintro e w' ⟨rfl, ⟨nd, rfl⟩⟩; (try first | exact ⟨rfl, _, World.drewN_drewN _ _ _⟩ | exact ⟨rfl, _, Eq.trans (World.drewN_drewN _ _ _) (congrArg (World.drewN _) (Nat.add_assoc _ _ _))⟩); all_goals (have p273 : 0 ≤ ((ji18) : Int) := od; have q273 : (ji18) < (l0.length : Int) := od; obtain ⟨ad273, A273_3, c273_3, e273, hx273_0, hx273_1, hx273_2, hx273_3, hl273_3, hi273_3⟩ := at_T34 HR0.out (ji18) p273 q273; obtain rfl : ad268 = ad273 := (by injection e273); have hn273_0 : ad268.block ≠ gb269 := Nat.ne_of_lt (Nat.lt_of_lt_of_le (by have := World.block_lt_of_cell? _ _ hx273_0; first | rwa [add_block] at this | exact this) GW269.out); have hn273_1 : ad268.block ≠ gb269 := Nat.ne_of_lt (Nat.lt_of_lt_of_le (by have := World.block_lt_of_cell? _ _ hx273_0; first | rwa [add_block] at this | exact this) GW269.out); have hn273_2 : ad268.block ≠ gb269 := Nat.ne_of_lt (Nat.lt_of_lt_of_le (by have := World.block_lt_of_cell? _ _ hx273_0; first | rwa [add_block] at this | exact this) GW269.out); have hn273_3 : ad268.block ≠ gb269 := Nat.ne_of_lt (Nat.lt_of_lt_of_le (by have := World.block_lt_of_cell? _ _ hx273_0; first | rwa [add_block] at this | exact this) GW269.out); replace hx273_0 := (HB.out.cell (World.block_lt_of_cell? w _ hx273_0)).trans hx273_0; replace hx273_1 := (HB.out.cell (World.block_lt_of_cell? w _ hx273_1)).trans hx273_1; replace hx273_2 := (HB.out.cell (World.block_lt_of_cell? w _ hx273_2)).trans hx273_2; replace hx273_3 := (HB.out.cell (World.block_lt_of_cell? w _ hx273_3)).trans hx273_3; have HR273_3 := Aside0.mk hi273_3; have HC273_3 := Aside0.mk hl273_3; clear hi273_3 hl273_3; replace hx273_0 := (cell_far (p := ⟨gb269, 0, none⟩) (by first | (rw [add_block]; exact hn273_0) | (show (Addr.add _ _).block ≠ _; rw [add_block]; exact hn273_0) | exact hn273_0) (.string ((rd_T34 l0 x12_1).f0))).trans hx273_0; replace hx273_1 := (cell_far (p := ⟨gb269, 0, none⟩) (by first | (rw [add_block]; exact hn273_0) | (show (Addr.add _ _).block ≠ _; rw [add_block]; exact hn273_0) | exact hn273_0) (.string ((rd_T34 l0 x12_1).f0))).trans hx273_1; replace hx273_2 := (cell_far (p := ⟨gb269, 0, none⟩) (by first | (rw [add_block]; exact hn273_0) | (show (Addr.add _ _).block ≠ _; rw [add_block]; exact hn273_0) | exact hn273_0) (.string ((rd_T34 l0 x12_1).f0))).trans hx273_2; replace hx273_3 := (cell_far (p := ⟨gb269, 0, none⟩) (by first | (rw [add_block]; exact hn273_0) | (show (Addr.add _ _).block ≠ _; rw [add_block]; exact hn273_0) | exact hn273_0) (.string ((rd_T34 l0 x12_1).f0))).trans hx273_3; replace hx273_0 := (cell_far (p := ⟨gb269, 1, none⟩) (by first | (rw [add_block]; exact hn273_1) | (show (Addr.add _ _).block ≠ _; rw [add_block]; exact hn273_1) | exact hn273_1) (.int .i64 ((rd_T34 l0 x12_1).f1))).trans hx273_0; replace hx273_1 := (cell_far (p := ⟨gb269, 1, none⟩) (by first | (rw [add_block]; exact hn273_1) | (show (Addr.add _ _).block ≠ _; rw [add_block]; exact hn273_1) | exact hn273_1) (.int .i64 ((rd_T34 l0 x12_1).f1))).trans hx273_1; replace hx273_2 := (cell_far (p := ⟨gb269, 1, none⟩) (by first | (rw [add_block]; exact hn273_1) | (show (Addr.add _ _).block ≠ _; rw [add_block]; exact hn273_1) | exact hn273_1) (.int .i64 ((rd_T34 l0 x12_1).f1))).trans hx273_2; replace hx273_3 := (cell_far (p := ⟨gb269, 1, none⟩) (by first | (rw [add_block]; exact hn273_1) | (show (Addr.add _ _).block ≠ _; rw [add_block]; exact hn273_1) | exact hn273_1) (.int .i64 ((rd_T34 l0 x12_1).f1))).trans hx273_3; replace hx273_0 := (cell_far (p := ⟨gb269, 2, none⟩) (by first | (rw [add_block]; exact hn273_2) | (show (Addr.add _ _).block ≠ _; rw [add_block]; exact hn273_2) | exact hn273_2) (.int .i64 ((rd_T34 l0 x12_1).f2))).trans hx273_0; replace hx273_1 := (cell_far (p := ⟨gb269, 2, none⟩) (by first | (rw [add_block]; exact hn273_2) | (show (Addr.add _ _).block ≠ _; rw [add_block]; exact hn273_2) | exact hn273_2) (.int .i64 ((rd_T34 l0 x12_1).f2))).trans hx273_1; replace hx273_2 := (cell_far (p := ⟨gb269, 2, none⟩) (by first | (rw [add_block]; exact hn273_2) | (show (Addr.add _ _).block ≠ _; rw [add_block]; exact hn273_2) | exact hn273_2) (.int .i64 ((rd_T34 l0 x12_1).f2))).trans hx273_2; replace hx273_3 := (cell_far (p := ⟨gb269, 2, none⟩) (by first | (rw [add_block]; exact hn273_2) | (show (Addr.add _ _).block ≠ _; rw [add_block]; exact hn273_2) | exact hn273_2) (.int .i64 ((rd_T34 l0 x12_1).f2))).trans hx273_3; replace hx273_0 := (cell_far (p := ⟨gb269, 3, none⟩) (by first | (rw [add_block]; exact hn273_3) | (show (Addr.add _ _).block ≠ _; rw [add_block]; exact hn273_3) | exact hn273_3) (.slice A268_3 ((rd_T34 l0 x12_1).f3).length c268_3)).trans hx273_0; replace hx273_1 := (cell_far (p := ⟨gb269, 3, none⟩) (by first | (rw [add_block]; exact hn273_3) | (show (Addr.add _ _).block ≠ _; rw [add_block]; exact hn273_3) | exact hn273_3) (.slice A268_3 ((rd_T34 l0 x12_1).f3).length c268_3)).trans hx273_1; replace hx273_2 := (cell_far (p := ⟨gb269, 3, none⟩) (by first | (rw [add_block]; exact hn273_3) | (show (Addr.add _ _).block ≠ _; rw [add_block]; exact hn273_3) | exact hn273_3) (.slice A268_3 ((rd_T34 l0 x12_1).f3).length c268_3)).trans hx273_2; replace hx273_3 := (cell_far (p := ⟨gb269, 3, none⟩) (by first | (rw [add_block]; exact hn273_3) | (show (Addr.add _ _).block ≠ _; rw [add_block]; exact hn273_3) | exact hn273_3) (.slice A268_3 ((rd_T34 l0 x12_1).f3).length c268_3)).trans hx273_3; (try have hy273_0 := fun (n_ : Nat) => (show ((((((w7.drewN n_).setCell ⟨gb269, 0, none⟩ (.string ((rd_T34 l0 x12_1).f0))).setCell ⟨gb269, 1, none⟩ (.int .i64 ((rd_T34 l0 x12_1).f1))).setCell ⟨gb269, 2, none⟩ (.int .i64 ((rd_T34 l0 x12_1).f2))).setCell ⟨gb269, 3, none⟩ (.slice A268_3 ((rd_T34 l0 x12_1).f3).length c268_3))).cell? _ = some _ from hx273_0)); (try have hy273_1 := fun (n_ : Nat) => (show ((((((w7.drewN n_).setCell ⟨gb269, 0, none⟩ (.string ((rd_T34 l0 x12_1).f0))).setCell ⟨gb269, 1, none⟩ (.int .i64 ((rd_T34 l0 x12_1).f1))).setCell ⟨gb269, 2, none⟩ (.int .i64 ((rd_T34 l0 x12_1).f2))).setCell ⟨gb269, 3, none⟩ (.slice A268_3 ((rd_T34 l0 x12_1).f3).length c268_3))).cell? _ = some _ from hx273_1)); (try have hy273_2 := fun (n_ : Nat) => (show ((((((w7.drewN n_).setCell ⟨gb269, 0, none⟩ (.string ((rd_T34 l0 x12_1).f0))).setCell ⟨gb269, 1, none⟩ (.int .i64 ((rd_T34 l0 x12_1).f1))).setCell ⟨gb269, 2, none⟩ (.int .i64 ((rd_T34 l0 x12_1).f2))).setCell ⟨gb269, 3, none⟩ (.slice A268_3 ((rd_T34 l0 x12_1).f3).length c268_3))).cell? _ = some _ from hx273_2)); (try have hy273_3 := fun (n_ : Nat) => (show ((((((w7.drewN n_).setCell ⟨gb269, 0, none⟩ (.string ((rd_T34 l0 x12_1).f0))).setCell ⟨gb269, 1, none⟩ (.int .i64 ((rd_T34 l0 x12_1).f1))).setCell ⟨gb269, 2, none⟩ (.int .i64 ((rd_T34 l0 x12_1).f2))).setCell ⟨gb269, 3, none⟩ (.slice A268_3 ((rd_T34 l0 x12_1).f3).length c268_3))).cell? _ = some _ from hx273_3)); clear hn273_0; clear hn273_1; clear hn273_2; clear hn273_3; replace p273 := eq_true p273; replace q273 := eq_true q273))))
               go_meet
               case rel => exact ⟨_, (!(Op.bytesLess (((rd_T34 l0 (ji18)).f0).toList) (((rd_T34 l0 x12_1).f0).toList))), (by first | rfl | (simp; done) | (simp only [← hji18] <;> (first | rfl | simp)) | (simp [*]; done)), H', ⟨by have := HK1.out; first | omega | exact Nat.le_refl _⟩, ⟨by (with_reducible repeat (first | refine blk_drewN ?_ _ | refine blk_drew ?_ | refine blk_alloc ?_ _)); refine blk_put (cs := #[.string ((rd_T34 l0 x12_1).f0), .int .i64 ((rd_T34 l0 x12_1).f1), .int .i64 ((rd_T34 l0 x12_1).f2), .slice none 0 0]) ?_ 3 _ rfl; (with_reducible repeat (first | refine blk_drewN ?_ _ | refine blk_drew ?_ | refine blk_alloc ?_ _)); refine blk_put (cs := #[.string ((rd_T34 l0 x12_1).f0), .int .i64 ((rd_T34 l0 x12_1).f1), .int .i64 0, .slice none 0 0]) ?_ 2 _ rfl; (with_reducible repeat (first | refine blk_drewN ?_ _ | refine blk_drew ?_ | refine blk_alloc ?_ _)); refine blk_put (cs := #[.string ((rd_T34 l0 x12_1).f0), .int .i64 0, .int .i64 0, .slice none 0 0]) ?_ 1 _ rfl; (with_reducible repeat (first | refine blk_drewN ?_ _ | refine blk_drew ?_ | refine blk_alloc ?_ _)); refine blk_put (cs := #[.string (⟨#[]⟩ : ByteArray), .int .i64 0, .int .i64 0, .slice none 0 0]) ?_ 0 _ rfl; (with_reducible repeat (first | refine blk_drewN ?_ _ | refine blk_drew ?_ | refine blk_alloc ?_ _)); exact BK269.out⟩, ⟨by repeat (first | (with_reducible first | exact HB.out | apply below_alloc | apply pw_below_drewN | apply below_drew1 | refine below_set ?_ GE269.out) | exact HB.out)⟩⟩
              ·
               rw [if_neg c20] at H
               exact absurd H (by simp)
             ·
              rw [if_neg c19] at H
              exact absurd H (by simp)
            ·
             rw [if_neg c17] at H
             have c17b0 : decide (0 < x12_1) = false := decide_eq_false c17
             clear c17
             have H' := Aside0.mk H
             clear H
             have hcz22_0 : w7.cell? ⟨gb269, 0, none⟩ = some (.string (⟨#[]⟩ : ByteArray)) := (blk_cell BK269.out 0).trans rfl
             have hcz22_1 : w7.cell? ⟨gb269, 1, none⟩ = some (.int .i64 0) := (blk_cell BK269.out 1).trans rfl
             have hcz22_2 : w7.cell? ⟨gb269, 2, none⟩ = some (.int .i64 0) := (blk_cell BK269.out 2).trans rfl
             have hcz22_3 : w7.cell? ⟨gb269, 3, none⟩ = some (.slice none 0 0) := (blk_cell BK269.out 3).trans rfl
             have hfz22_0 := blk_frozen BK269.out 0
             have hfz22_1 := blk_frozen BK269.out 1
             have hfz22_2 := blk_frozen BK269.out 2
             have hfz22_3 := blk_frozen BK269.out 3
             go_wp2_with (first | (go_at_call 80; (with_reducible refine (impl_IsName.calls k1 ((rd_T34 l0 x12_1).f0) true _ A9.out).mono ?_); rintro e w' ⟨rfl, ⟨nd, rfl⟩⟩; (try first | exact ⟨rfl, _, World.drewN_drewN _ _ _⟩ | exact ⟨rfl, _, Eq.trans (World.drewN_drewN _ _ _) (congrArg (World.drewN _) (Nat.add_assoc _ _ _))⟩)) | (go_at_call 43; (with_reducible refine (impl_within.calls ((rd_T34 l0 x12_1).f1) 1 1000000 true _ A11.out).mono ?_); rintro e w' ⟨rfl, ⟨nd, rfl⟩⟩; (try first | exact ⟨rfl, _, World.drewN_drewN _ _ _⟩ | exact ⟨rfl, _, Eq.trans (World.drewN_drewN _ _ _) (congrArg (World.drewN _) (Nat.add_assoc _ _ _))⟩)) | (go_at_call 43; (with_reducible refine (impl_within.calls ((rd_T34 l0 x12_1).f2) 0 1000000 true _ A13.out).mono ?_); rintro e w' ⟨rfl, ⟨nd, rfl⟩⟩; (try first | exact ⟨rfl, _, World.drewN_drewN _ _ _⟩ | exact ⟨rfl, _, Eq.trans (World.drewN_drewN _ _ _) (congrArg (World.drewN _) (Nat.add_assoc _ _ _))⟩)))
             repeat (go_quiet (first | (go_at_call 80; (with_reducible refine (impl_IsName.calls k1 ((rd_T34 l0 x12_1).f0) true _ A9.out).mono ?_); rintro e w' ⟨rfl, ⟨nd, rfl⟩⟩; (try first | exact ⟨rfl, _, World.drewN_drewN _ _ _⟩ | exact ⟨rfl, _, Eq.trans (World.drewN_drewN _ _ _) (congrArg (World.drewN _) (Nat.add_assoc _ _ _))⟩)) | (go_at_call 43; (with_reducible refine (impl_within.calls ((rd_T34 l0 x12_1).f1) 1 1000000 true _ A11.out).mono ?_); rintro e w' ⟨rfl, ⟨nd, rfl⟩⟩; (try first | exact ⟨rfl, _, World.drewN_drewN _ _ _⟩ | exact ⟨rfl, _, Eq.trans (World.drewN_drewN _ _ _) (congrArg (World.drewN _) (Nat.add_assoc _ _ _))⟩)) | (go_at_call 43; (with_reducible refine (impl_within.calls ((rd_T34 l0 x12_1).f2) 0 1000000 true _ A13.out).mono ?_); rintro e w' ⟨rfl, ⟨nd, rfl⟩⟩; (try first | exact ⟨rfl, _, World.drewN_drewN _ _ _⟩ | exact ⟨rfl, _, Eq.trans (World.drewN_drewN _ _ _) (congrArg (World.drewN _) (Nat.add_assoc _ _ _))⟩))); try go_wp2_with (first | (go_at_call 80; (with_reducible refine (impl_IsName.calls k1 ((rd_T34 l0 x12_1).f0) true _ A9.out).mono ?_); rintro e w' ⟨rfl, ⟨nd, rfl⟩⟩; (try first | exact ⟨rfl, _, World.drewN_drewN _ _ _⟩ | exact ⟨rfl, _, Eq.trans (World.drewN_drewN _ _ _) (congrArg (World.drewN _) (Nat.add_assoc _ _ _))⟩)) | (go_at_call 43; (with_reducible refine (impl_within.calls ((rd_T34 l0 x12_1).f1) 1 1000000 true _ A11.out).mono ?_); rintro e w' ⟨rfl, ⟨nd, rfl⟩⟩; (try first | exact ⟨rfl, _, World.drewN_drewN _ _ _⟩ | exact ⟨rfl, _, Eq.trans (World.drewN_drewN _ _ _) (congrArg (World.drewN _) (Nat.add_assoc _ _ _))⟩)) | (go_at_call 43; (with_reducible refine (impl_within.calls ((rd_T34 l0 x12_1).f2) 0 1000000 true _ A13.out).mono ?_); rintro e w' ⟨rfl, ⟨nd, rfl⟩⟩; (try first | exact ⟨rfl, _, World.drewN_drewN _ _ _⟩ | exact ⟨rfl, _, Eq.trans (World.drewN_drewN _ _ _) (congrArg (World.drewN _) (Nat.add_assoc _ _ _))⟩))))
             go_meet
             case rel => exact ⟨_, (false), rs, H', ⟨by have := HK1.out; first | omega | exact Nat.le_refl _⟩, ⟨by (with_reducible repeat (first | refine blk_drewN ?_ _ | refine blk_drew ?_ | refine blk_alloc ?_ _)); refine blk_put (cs := #[.string ((rd_T34 l0 x12_1).f0), .int .i64 ((rd_T34 l0 x12_1).f1), .int .i64 ((rd_T34 l0 x12_1).f2), .slice none 0 0]) ?_ 3 _ rfl; (with_reducible repeat (first | refine blk_drewN ?_ _ | refine blk_drew ?_ | refine blk_alloc ?_ _)); refine blk_put (cs := #[.string ((rd_T34 l0 x12_1).f0), .int .i64 ((rd_T34 l0 x12_1).f1), .int .i64 0, .slice none 0 0]) ?_ 2 _ rfl; (with_reducible repeat (first | refine blk_drewN ?_ _ | refine blk_drew ?_ | refine blk_alloc ?_ _)); refine blk_put (cs := #[.string ((rd_T34 l0 x12_1).f0), .int .i64 0, .int .i64 0, .slice none 0 0]) ?_ 1 _ rfl; (with_reducible repeat (first | refine blk_drewN ?_ _ | refine blk_drew ?_ | refine blk_alloc ?_ _)); refine blk_put (cs := #[.string (⟨#[]⟩ : ByteArray), .int .i64 0, .int .i64 0, .slice none 0 0]) ?_ 0 _ rfl; (with_reducible repeat (first | refine blk_drewN ?_ _ | refine blk_drew ?_ | refine blk_alloc ?_ _)); exact BK269.out⟩, ⟨by repeat (first | (with_reducible first | exact HB.out | apply below_alloc | apply pw_below_drewN | apply below_drew1 | refine below_set ?_ GE269.out) | exact HB.out)⟩⟩
          ·
           replace c14 := Bool.eq_false_iff.mpr c14
           subst c14
           have H1 : (impl_ValidStages.j1 k1 l0 l0 (l0.length : Int) x12_1 true ((rd_T34 l0 x12_1).f0) ((rd_T34 l0 x12_1).f1) ((rd_T34 l0 x12_1).f2) ((rd_T34 l0 x12_1).f3)) = some r := by rw [if_neg (show ¬ (false = true) by decide)] at H; exact H
           clear H
           have H := H1
           clear H1
           have H' := Aside0.mk H
           clear H
           have hcz23_0 : w7.cell? ⟨gb269, 0, none⟩ = some (.string (⟨#[]⟩ : ByteArray)) := (blk_cell BK269.out 0).trans rfl
           have hcz23_1 : w7.cell? ⟨gb269, 1, none⟩ = some (.int .i64 0) := (blk_cell BK269.out 1).trans rfl
           have hcz23_2 : w7.cell? ⟨gb269, 2, none⟩ = some (.int .i64 0) := (blk_cell BK269.out 2).trans rfl
           have hcz23_3 : w7.cell? ⟨gb269, 3, none⟩ = some (.slice none 0 0) := (blk_cell BK269.out 3).trans rfl
           have hfz23_0 := blk_frozen BK269.out 0
           have hfz23_1 := blk_frozen BK269.out 1
           have hfz23_2 := blk_frozen BK269.out 2
           have hfz23_3 := blk_frozen BK269.out 3
           go_wp2_with (first | (go_at_call 80; (with_reducible refine (impl_IsName.calls k1 ((rd_T34 l0 x12_1).f0) true _ A9.out).mono ?_); rintro e w' ⟨rfl, ⟨nd, rfl⟩⟩; (try first | exact ⟨rfl, _, World.drewN_drewN _ _ _⟩ | exact ⟨rfl, _, Eq.trans (World.drewN_drewN _ _ _) (congrArg (World.drewN _) (Nat.add_assoc _ _ _))⟩)) | (go_at_call 43; (with_reducible refine (impl_within.calls ((rd_T34 l0 x12_1).f1) 1 1000000 true _ A11.out).mono ?_); rintro e w' ⟨rfl, ⟨nd, rfl⟩⟩; (try first | exact ⟨rfl, _, World.drewN_drewN _ _ _⟩ | exact ⟨rfl, _, Eq.trans (World.drewN_drewN _ _ _) (congrArg (World.drewN _) (Nat.add_assoc _ _ _))⟩)) | (go_at_call 43; (with_reducible refine (impl_within.calls ((rd_T34 l0 x12_1).f2) 0 1000000 false _ A13.out).mono ?_); rintro e w' ⟨rfl, ⟨nd, rfl⟩⟩; (try first | exact ⟨rfl, _, World.drewN_drewN _ _ _⟩ | exact ⟨rfl, _, Eq.trans (World.drewN_drewN _ _ _) (congrArg (World.drewN _) (Nat.add_assoc _ _ _))⟩)))
           repeat (go_quiet (first | (go_at_call 80; (with_reducible refine (impl_IsName.calls k1 ((rd_T34 l0 x12_1).f0) true _ A9.out).mono ?_); rintro e w' ⟨rfl, ⟨nd, rfl⟩⟩; (try first | exact ⟨rfl, _, World.drewN_drewN _ _ _⟩ | exact ⟨rfl, _, Eq.trans (World.drewN_drewN _ _ _) (congrArg (World.drewN _) (Nat.add_assoc _ _ _))⟩)) | (go_at_call 43; (with_reducible refine (impl_within.calls ((rd_T34 l0 x12_1).f1) 1 1000000 true _ A11.out).mono ?_); rintro e w' ⟨rfl, ⟨nd, rfl⟩⟩; (try first | exact ⟨rfl, _, World.drewN_drewN _ _ _⟩ | exact ⟨rfl, _, Eq.trans (World.drewN_drewN _ _ _) (congrArg (World.drewN _) (Nat.add_assoc _ _ _))⟩)) | (go_at_call 43; (with_reducible refine (impl_within.calls ((rd_T34 l0 x12_1).f2) 0 1000000 false _ A13.out).mono ?_); rintro e w' ⟨rfl, ⟨nd, rfl⟩⟩; (try first | exact ⟨rfl, _, World.drewN_drewN _ _ _⟩ | exact ⟨rfl, _, Eq.trans (World.drewN_drewN _ _ _) (congrArg (World.drewN _) (Nat.add_assoc _ _ _))⟩))); try go_wp2_with (first | (go_at_call 80; (with_reducible refine (impl_IsName.calls k1 ((rd_T34 l0 x12_1).f0) true _ A9.out).mono ?_); rintro e w' ⟨rfl, ⟨nd, rfl⟩⟩; (try first | exact ⟨rfl, _, World.drewN_drewN _ _ _⟩ | exact ⟨rfl, _, Eq.trans (World.drewN_drewN _ _ _) (congrArg (World.drewN _) (Nat.add_assoc _ _ _))⟩)) | (go_at_call 43; (with_reducible refine (impl_within.calls ((rd_T34 l0 x12_1).f1) 1 1000000 true _ A11.out).mono ?_); rintro e w' ⟨rfl, ⟨nd, rfl⟩⟩; (try first | exact ⟨rfl, _, World.drewN_drewN _ _ _⟩ | exact ⟨rfl, _, Eq.trans (World.drewN_drewN _ _ _) (congrArg (World.drewN _) (Nat.add_assoc _ _ _))⟩)) | (go_at_call 43; (with_reducible refine (impl_within.calls ((rd_T34 l0 x12_1).f2) 0 1000000 false _ A13.out).mono ?_); rintro e w' ⟨rfl, ⟨nd, rfl⟩⟩; (try first | exact ⟨rfl, _, World.drewN_drewN _ _ _⟩ | exact ⟨rfl, _, Eq.trans (World.drewN_drewN _ _ _) (congrArg (World.drewN _) (Nat.add_assoc _ _ _))⟩))))
           go_meet
           case rel => exact ⟨_, (true), rs, H', ⟨by have := HK1.out; first | omega | exact Nat.le_refl _⟩, ⟨by (with_reducible repeat (first | refine blk_drewN ?_ _ | refine blk_drew ?_ | refine blk_alloc ?_ _)); refine blk_put (cs := #[.string ((rd_T34 l0 x12_1).f0), .int .i64 ((rd_T34 l0 x12_1).f1), .int .i64 ((rd_T34 l0 x12_1).f2), .slice none 0 0]) ?_ 3 _ rfl; (with_reducible repeat (first | refine blk_drewN ?_ _ | refine blk_drew ?_ | refine blk_alloc ?_ _)); refine blk_put (cs := #[.string ((rd_T34 l0 x12_1).f0), .int .i64 ((rd_T34 l0 x12_1).f1), .int .i64 0, .slice none 0 0]) ?_ 2 _ rfl; (with_reducible repeat (first | refine blk_drewN ?_ _ | refine blk_drew ?_ | refine blk_alloc ?_ _)); refine blk_put (cs := #[.string ((rd_T34 l0 x12_1).f0), .int .i64 0, .int .i64 0, .slice none 0 0]) ?_ 1 _ rfl; (with_reducible repeat (first | refine blk_drewN ?_ _ | refine blk_drew ?_ | refine blk_alloc ?_ _)); refine blk_put (cs := #[.string (⟨#[]⟩ : ByteArray), .int .i64 0, .int .i64 0, .slice none 0 0]) ?_ 0 _ rfl; (with_reducible repeat (first | refine blk_drewN ?_ _ | refine blk_drew ?_ | refine blk_alloc ?_ _)); exact BK269.out⟩, ⟨by repeat (first | (with_reducible first | exact HB.out | apply below_alloc | apply pw_below_drewN | apply below_drew1 | refine below_set ?_ GE269.out) | exact HB.out)⟩⟩
         ·
          replace c12 := Bool.eq_false_iff.mpr c12
          subst c12
          have H1 : (impl_ValidStages.j1 k1 l0 l0 (l0.length : Int) x12_1 true ((rd_T34 l0 x12_1).f0) ((rd_T34 l0 x12_1).f1) ((rd_T34 l0 x12_1).f2) ((rd_T34 l0 x12_1).f3)) = some r := by rw [if_neg (show ¬ (false = true) by decide)] at H; exact H
          clear H
          have H := H1
          clear H1
          have H' := Aside0.mk H
          clear H
          have hcz24_0 : w7.cell? ⟨gb269, 0, none⟩ = some (.string (⟨#[]⟩ : ByteArray)) := (blk_cell BK269.out 0).trans rfl
          have hcz24_1 : w7.cell? ⟨gb269, 1, none⟩ = some (.int .i64 0) := (blk_cell BK269.out 1).trans rfl
          have hcz24_2 : w7.cell? ⟨gb269, 2, none⟩ = some (.int .i64 0) := (blk_cell BK269.out 2).trans rfl
          have hcz24_3 : w7.cell? ⟨gb269, 3, none⟩ = some (.slice none 0 0) := (blk_cell BK269.out 3).trans rfl
          have hfz24_0 := blk_frozen BK269.out 0
          have hfz24_1 := blk_frozen BK269.out 1
          have hfz24_2 := blk_frozen BK269.out 2
          have hfz24_3 := blk_frozen BK269.out 3
          go_wp2_with (first | (go_at_call 80; (with_reducible refine (impl_IsName.calls k1 ((rd_T34 l0 x12_1).f0) true _ A9.out).mono ?_); rintro e w' ⟨rfl, ⟨nd, rfl⟩⟩; (try first | exact ⟨rfl, _, World.drewN_drewN _ _ _⟩ | exact ⟨rfl, _, Eq.trans (World.drewN_drewN _ _ _) (congrArg (World.drewN _) (Nat.add_assoc _ _ _))⟩)) | (go_at_call 43; (with_reducible refine (impl_within.calls ((rd_T34 l0 x12_1).f1) 1 1000000 false _ A11.out).mono ?_); rintro e w' ⟨rfl, ⟨nd, rfl⟩⟩; (try first | exact ⟨rfl, _, World.drewN_drewN _ _ _⟩ | exact ⟨rfl, _, Eq.trans (World.drewN_drewN _ _ _) (congrArg (World.drewN _) (Nat.add_assoc _ _ _))⟩)))
          repeat (go_quiet (first | (go_at_call 80; (with_reducible refine (impl_IsName.calls k1 ((rd_T34 l0 x12_1).f0) true _ A9.out).mono ?_); rintro e w' ⟨rfl, ⟨nd, rfl⟩⟩; (try first | exact ⟨rfl, _, World.drewN_drewN _ _ _⟩ | exact ⟨rfl, _, Eq.trans (World.drewN_drewN _ _ _) (congrArg (World.drewN _) (Nat.add_assoc _ _ _))⟩)) | (go_at_call 43; (with_reducible refine (impl_within.calls ((rd_T34 l0 x12_1).f1) 1 1000000 false _ A11.out).mono ?_); rintro e w' ⟨rfl, ⟨nd, rfl⟩⟩; (try first | exact ⟨rfl, _, World.drewN_drewN _ _ _⟩ | exact ⟨rfl, _, Eq.trans (World.drewN_drewN _ _ _) (congrArg (World.drewN _) (Nat.add_assoc _ _ _))⟩))); try go_wp2_with (first | (go_at_call 80; (with_reducible refine (impl_IsName.calls k1 ((rd_T34 l0 x12_1).f0) true _ A9.out).mono ?_); rintro e w' ⟨rfl, ⟨nd, rfl⟩⟩; (try first | exact ⟨rfl, _, World.drewN_drewN _ _ _⟩ | exact ⟨rfl, _, Eq.trans (World.drewN_drewN _ _ _) (congrArg (World.drewN _) (Nat.add_assoc _ _ _))⟩)) | (go_at_call 43; (with_reducible refine (impl_within.calls ((rd_T34 l0 x12_1).f1) 1 1000000 false _ A11.out).mono ?_); rintro e w' ⟨rfl, ⟨nd, rfl⟩⟩; (try first | exact ⟨rfl, _, World.drewN_drewN _ _ _⟩ | exact ⟨rfl, _, Eq.trans (World.drewN_drewN _ _ _) (congrArg (World.drewN _) (Nat.add_assoc _ _ _))⟩))))
          go_meet
          case rel => exact ⟨_, (true), rs, H', ⟨by have := HK1.out; first | omega | exact Nat.le_refl _⟩, ⟨by (with_reducible repeat (first | refine blk_drewN ?_ _ | refine blk_drew ?_ | refine blk_alloc ?_ _)); refine blk_put (cs := #[.string ((rd_T34 l0 x12_1).f0), .int .i64 ((rd_T34 l0 x12_1).f1), .int .i64 ((rd_T34 l0 x12_1).f2), .slice none 0 0]) ?_ 3 _ rfl; (with_reducible repeat (first | refine blk_drewN ?_ _ | refine blk_drew ?_ | refine blk_alloc ?_ _)); refine blk_put (cs := #[.string ((rd_T34 l0 x12_1).f0), .int .i64 ((rd_T34 l0 x12_1).f1), .int .i64 0, .slice none 0 0]) ?_ 2 _ rfl; (with_reducible repeat (first | refine blk_drewN ?_ _ | refine blk_drew ?_ | refine blk_alloc ?_ _)); refine blk_put (cs := #[.string ((rd_T34 l0 x12_1).f0), .int .i64 0, .int .i64 0, .slice none 0 0]) ?_ 1 _ rfl; (with_reducible repeat (first | refine blk_drewN ?_ _ | refine blk_drew ?_ | refine blk_alloc ?_ _)); refine blk_put (cs := #[.string (⟨#[]⟩ : ByteArray), .int .i64 0, .int .i64 0, .slice none 0 0]) ?_ 0 _ rfl; (with_reducible repeat (first | refine blk_drewN ?_ _ | refine blk_drew ?_ | refine blk_alloc ?_ _)); exact BK269.out⟩, ⟨by repeat (first | (with_reducible first | exact HB.out | apply below_alloc | apply pw_below_drewN | apply below_drew1 | refine below_set ?_ GE269.out) | exact HB.out)⟩⟩
        ·
         replace c10 := Bool.eq_false_iff.mpr c10
         subst c10
         have H1 : (impl_ValidStages.j1 k1 l0 l0 (l0.length : Int) x12_1 true ((rd_T34 l0 x12_1).f0) ((rd_T34 l0 x12_1).f1) ((rd_T34 l0 x12_1).f2) ((rd_T34 l0 x12_1).f3)) = some r := by rw [if_neg (show ¬ (false = true) by decide)] at H; exact H
         clear H
         have H := H1
         clear H1
         have H' := Aside0.mk H
         clear H
         have hcz25_0 : w7.cell? ⟨gb269, 0, none⟩ = some (.string (⟨#[]⟩ : ByteArray)) := (blk_cell BK269.out 0).trans rfl
         have hcz25_1 : w7.cell? ⟨gb269, 1, none⟩ = some (.int .i64 0) := (blk_cell BK269.out 1).trans rfl
         have hcz25_2 : w7.cell? ⟨gb269, 2, none⟩ = some (.int .i64 0) := (blk_cell BK269.out 2).trans rfl
         have hcz25_3 : w7.cell? ⟨gb269, 3, none⟩ = some (.slice none 0 0) := (blk_cell BK269.out 3).trans rfl
         have hfz25_0 := blk_frozen BK269.out 0
         have hfz25_1 := blk_frozen BK269.out 1
         have hfz25_2 := blk_frozen BK269.out 2
         have hfz25_3 := blk_frozen BK269.out 3
         go_wp2_with (first | (go_at_call 80; (with_reducible refine (impl_IsName.calls k1 ((rd_T34 l0 x12_1).f0) false _ A9.out).mono ?_); rintro e w' ⟨rfl, ⟨nd, rfl⟩⟩; (try first | exact ⟨rfl, _, World.drewN_drewN _ _ _⟩ | exact ⟨rfl, _, Eq.trans (World.drewN_drewN _ _ _) (congrArg (World.drewN _) (Nat.add_assoc _ _ _))⟩)))
         repeat (go_quiet (first | (go_at_call 80; (with_reducible refine (impl_IsName.calls k1 ((rd_T34 l0 x12_1).f0) false _ A9.out).mono ?_); rintro e w' ⟨rfl, ⟨nd, rfl⟩⟩; (try first | exact ⟨rfl, _, World.drewN_drewN _ _ _⟩ | exact ⟨rfl, _, Eq.trans (World.drewN_drewN _ _ _) (congrArg (World.drewN _) (Nat.add_assoc _ _ _))⟩))); try go_wp2_with (first | (go_at_call 80; (with_reducible refine (impl_IsName.calls k1 ((rd_T34 l0 x12_1).f0) false _ A9.out).mono ?_); rintro e w' ⟨rfl, ⟨nd, rfl⟩⟩; (try first | exact ⟨rfl, _, World.drewN_drewN _ _ _⟩ | exact ⟨rfl, _, Eq.trans (World.drewN_drewN _ _ _) (congrArg (World.drewN _) (Nat.add_assoc _ _ _))⟩))))
         go_meet
         case rel => exact ⟨_, (true), rs, H', ⟨by have := HK1.out; first | omega | exact Nat.le_refl _⟩, ⟨by (with_reducible repeat (first | refine blk_drewN ?_ _ | refine blk_drew ?_ | refine blk_alloc ?_ _)); refine blk_put (cs := #[.string ((rd_T34 l0 x12_1).f0), .int .i64 ((rd_T34 l0 x12_1).f1), .int .i64 ((rd_T34 l0 x12_1).f2), .slice none 0 0]) ?_ 3 _ rfl; (with_reducible repeat (first | refine blk_drewN ?_ _ | refine blk_drew ?_ | refine blk_alloc ?_ _)); refine blk_put (cs := #[.string ((rd_T34 l0 x12_1).f0), .int .i64 ((rd_T34 l0 x12_1).f1), .int .i64 0, .slice none 0 0]) ?_ 2 _ rfl; (with_reducible repeat (first | refine blk_drewN ?_ _ | refine blk_drew ?_ | refine blk_alloc ?_ _)); refine blk_put (cs := #[.string ((rd_T34 l0 x12_1).f0), .int .i64 0, .int .i64 0, .slice none 0 0]) ?_ 1 _ rfl; (with_reducible repeat (first | refine blk_drewN ?_ _ | refine blk_drew ?_ | refine blk_alloc ?_ _)); refine blk_put (cs := #[.string (⟨#[]⟩ : ByteArray), .int .i64 0, .int .i64 0, .slice none 0 0]) ?_ 0 _ rfl; (with_reducible repeat (first | refine blk_drewN ?_ _ | refine blk_drew ?_ | refine blk_alloc ?_ _)); exact BK269.out⟩, ⟨by repeat (first | (with_reducible first | exact HB.out | apply below_alloc | apply pw_below_drewN | apply below_drew1 | refine below_set ?_ GE269.out) | exact HB.out)⟩⟩
       case rest =>
        clear HC6
        try clear c2b0
        try clear c2b1
        try clear c3b0
        try clear c4b0
        try clear c5b0
        try clear hcz8_0
        try clear hcz8_1
        try clear hcz8_2
        try clear hcz8_3
        try clear hfz8_0
        try clear hfz8_1
        try clear hfz8_2
        try clear hfz8_3
        try clear hx268_0
        try clear hx268_1
        try clear hx268_2
        try clear hx268_3
        try clear p268
        try clear q268
        obtain ⟨kq, x53_5, rfl, HA, HJ5, BK269, HB⟩ := hcut
        cases kq with
        | zero => exact absurd HA.out (by simp [impl_ValidStages.j1])
        | succ kj5 =>
         have H := HA.out
         clear HA
         simp only [impl_ValidStages.j1] at H
         by_cases c26 : x53_5 = true
         ·
          subst c26
          have H1 : (some false) = some r := by rw [if_pos rfl] at H; exact H
          clear H
          have H := H1
          clear H1
          obtain rfl := Option.some.inj H
          go_wp2
          repeat (go_quiet (fail); try go_wp2)
          go_ret
          exact ⟨by first | rfl | (simp [errW_none, errW_some] <;> rfl) | (simp [*, errW_none, errW_some] <;> rfl), by repeat (first | (with_reducible first | exact HB.out | apply below_alloc | apply pw_below_drewN | apply below_drew1 | refine below_set ?_ GE269.out) | exact HB.out)⟩
         ·
          replace c26 := Bool.eq_false_iff.mpr c26
          subst c26
          have H1 : (impl_ValidStages.l1 kj5 l0 l0 (l0.length : Int) x12_1 ((rd_T34 l0 x12_1).f3) (((rd_T34 l0 x12_1).f3).length : Int) 0 ((rd_T34 l0 x12_1).f0) ((rd_T34 l0 x12_1).f1) ((rd_T34 l0 x12_1).f2) ((rd_T34 l0 x12_1).f3)) = some r := by rw [if_neg (show ¬ (false = true) by decide)] at H; exact H
          clear H
          have H := H1
          clear H1
          have H' := Aside0.mk H
          clear H
          have hcz27_0 : wc.cell? ⟨gb269, 0, none⟩ = some (.string ((rd_T34 l0 x12_1).f0)) := (blk_cell BK269.out 0).trans rfl
          have hcz27_1 : wc.cell? ⟨gb269, 1, none⟩ = some (.int .i64 ((rd_T34 l0 x12_1).f1)) := (blk_cell BK269.out 1).trans rfl
          have hcz27_2 : wc.cell? ⟨gb269, 2, none⟩ = some (.int .i64 ((rd_T34 l0 x12_1).f2)) := (blk_cell BK269.out 2).trans rfl
          have hcz27_3 : wc.cell? ⟨gb269, 3, none⟩ = some (.slice A268_3 ((rd_T34 l0 x12_1).f3).length c268_3) := (blk_cell BK269.out 3).trans rfl
          have hfz27_0 := blk_frozen BK269.out 0
          have hfz27_1 := blk_frozen BK269.out 1
          have hfz27_2 := blk_frozen BK269.out 2
          have hfz27_3 := blk_frozen BK269.out 3
          go_wp2
          repeat (go_quiet (fail); try go_wp2)
          go_loopg [57] kj5 (fun kq v57 w' => ∃ (x57_3 : Int), v57 = .int .i64 x57_3 ∧ Aside0 (impl_ValidStages.l1 kq l0 l0 (l0.length : Int) x12_1 ((rd_T34 l0 x12_1).f3) (((rd_T34 l0 x12_1).f3).length : Int) x57_3 ((rd_T34 l0 x12_1).f0) ((rd_T34 l0 x12_1).f1) ((rd_T34 l0 x12_1).f2) ((rd_T34 l0 x12_1).f3) = some r) ∧ Aside0 (kq ≤ kj5) ∧ Aside0 (w'.heap[gb269]? = some (.cells #[.string ((rd_T34 l0 x12_1).f0), .int .i64 ((rd_T34 l0 x12_1).f1), .int .i64 ((rd_T34 l0 x12_1).f2), (.slice A268_3 ((rd_T34 l0 x12_1).f3).length c268_3)] 34 (0, 0))) ∧ Aside0 (Below w.heap.size w w'))
          case atStart => exact ⟨(0), rs, H', ⟨Nat.le_refl _⟩, ⟨mv BK269.out⟩, ⟨by repeat (first | (with_reducible first | exact HB.out | apply below_alloc | apply pw_below_drewN | apply below_drew1 | refine below_set ?_ GE269.out) | exact HB.out)⟩⟩
          case round =>
           clear H'
           try clear c2b0
           try clear c2b1
           try clear c3b0
           try clear c4b0
           try clear c5b0
           try clear c26
           try clear hcz27_0
           try clear hcz27_1
           try clear hcz27_2
           try clear hcz27_3
           try clear hcz8_0
           try clear hcz8_1
           try clear hcz8_2
           try clear hcz8_3
           try clear hfz27_0
           try clear hfz27_1
           try clear hfz27_2
           try clear hfz27_3
           try clear hfz8_0
           try clear hfz8_1
           try clear hfz8_2
           try clear hfz8_3
           try clear hx268_0
           try clear hx268_1
           try clear hx268_2
           try clear hx268_3
           try clear p268
           try clear q268
           obtain ⟨x57_3, rfl, HA, HK3, BK269, HB⟩ := hrel
           cases gk with
           | zero => exact absurd HA.out (by simp [impl_ValidStages.l1])
           | succ k3 =>
            have H := HA.out
            clear HA
            simp only [impl_ValidStages.l1] at H
            by_cases c28 : x57_3 < (((rd_T34 l0 x12_1).f3).length : Int)
            ·
             rw [if_pos c28] at H
             have c28b0 : decide (x57_3 < (((rd_T34 l0 x12_1).f3).length : Int)) = true := decide_eq_true c28
             clear c28
             by_cases c29 : 0 ≤ x57_3
             ·
              rw [if_pos c29] at H
              have c29b0 : decide (0 ≤ x57_3) = true := decide_eq_true c29
              clear c29
              by_cases c30 : x57_3 < (((rd_T34 l0 x12_1).f3).length : Int)
              ·
               rw [if_pos c30] at H
               have c30b0 : decide (x57_3 < (((rd_T34 l0 x12_1).f3).length : Int)) = true := decide_eq_true c30
               clear c30
               replace H := Option.bind_eq_some_iff.mp H
               obtain ⟨t275, A310, H⟩ := H
               replace H : (if t275 < 0 then (some false) else (if x57_3 > 0 then (if 0 ≤ (wrap64 (x57_3 - 1)) then (if (wrap64 (x57_3 - 1)) < (((rd_T34 l0 x12_1).f3).length : Int) then (if ((Op.bytesLess ((rdOf ByteArray.empty ((rd_T34 l0 x12_1).f3) (wrap64 (x57_3 - 1))).toList) ((rdOf ByteArray.empty ((rd_T34 l0 x12_1).f3) x57_3).toList)) = true) then (impl_ValidStages.l1 k3 l0 l0 (l0.length : Int) x12_1 ((rd_T34 l0 x12_1).f3) (((rd_T34 l0 x12_1).f3).length : Int) (wrap64 (x57_3 + 1)) ((rd_T34 l0 x12_1).f0) ((rd_T34 l0 x12_1).f1) ((rd_T34 l0 x12_1).f2) ((rd_T34 l0 x12_1).f3)) else (some false)) else (none)) else (none)) else (impl_ValidStages.l1 k3 l0 l0 (l0.length : Int) x12_1 ((rd_T34 l0 x12_1).f3) (((rd_T34 l0 x12_1).f3).length : Int) (wrap64 (x57_3 + 1)) ((rd_T34 l0 x12_1).f0) ((rd_T34 l0 x12_1).f1) ((rd_T34 l0 x12_1).f2) ((rd_T34 l0 x12_1).f3)))) = some r := H
               have A31 := Aside0.mk A310
               clear A310
               by_cases c32 : t275 < 0
               ·
                rw [if_pos c32] at H
                have c32b0 : decide (t275 < 0) = true := decide_eq_true c32
                clear c32
                obtain rfl := Option.some.inj H
                have p274 : 0 ≤ (x57_3 : Int) := od
                have q274 : x57_3 < (((rd_T34 l0 x12_1).f3).length : Int) := od
                obtain ⟨ad274, e274, hx274_0⟩ := Kd.at_string HR268_3.out x57_3 p274 q274
                cases e274
                replace hx274_0 := (HB.out.cell (World.block_lt_of_cell? w _ hx274_0)).trans hx274_0
                replace p274 := eq_true p274
                replace q274 := eq_true q274
                go_wp2_with (first | (go_at_call 81; (with_reducible refine (impl_stageAt.calls _ _ l0 (rdOf ByteArray.empty ((rd_T34 l0 x12_1).f3) x57_3) t275 _ ?side1 ?side2 A31.out).mono ?_); (case side1 => exact mvC (Kd.C_below HR0.out HB.out)); (case side2 => exact HC0.out); rintro e w33 ⟨rfl, hb⟩; have n0_ := Aside0.mk (blk_below (g := gb269) (o := .cells #[.string ((rd_T34 l0 x12_1).f0), .int .i64 ((rd_T34 l0 x12_1).f1), .int .i64 ((rd_T34 l0 x12_1).f2), .slice (some ad274) ((rd_T34 l0 x12_1).f3).length c268_3] 34 (0, 0)) (mv BK269.out) hb); have n1_ := Aside0.mk (below_step (by repeat (first | (with_reducible first | exact HB.out | apply below_alloc | apply pw_below_drewN | apply below_drew1 | refine below_set ?_ GE269.out) | exact HB.out)) hb); clear BK269 HB; revert n0_ n1_; intro BK269 HB; (try clear hb)))
                repeat (go_quiet (first | (go_at_call 81; (with_reducible refine (impl_stageAt.calls _ _ l0 (rdOf ByteArray.empty ((rd_T34 l0 x12_1).f3) x57_3) t275 _ ?side1 ?side2 A31.out).mono ?_); (case side1 => exact mvC (Kd.C_below HR0.out HB.out)); (case side2 => exact HC0.out); rintro e w33 ⟨rfl, hb⟩; have n0_ := Aside0.mk (blk_below (g := gb269) (o := .cells #[.string ((rd_T34 l0 x12_1).f0), .int .i64 ((rd_T34 l0 x12_1).f1), .int .i64 ((rd_T34 l0 x12_1).f2), .slice (some ad274) ((rd_T34 l0 x12_1).f3).length c268_3] 34 (0, 0)) (mv BK269.out) hb); have n1_ := Aside0.mk (below_step (by repeat (first | (with_reducible first | exact HB.out | apply below_alloc | apply pw_below_drewN | apply below_drew1 | refine below_set ?_ GE269.out) | exact HB.out)) hb); clear BK269 HB; revert n0_ n1_; intro BK269 HB; (try clear hb))); try go_wp2_with (first | (go_at_call 81; (with_reducible refine (impl_stageAt.calls _ _ l0 (rdOf ByteArray.empty ((rd_T34 l0 x12_1).f3) x57_3) t275 _ ?side1 ?side2 A31.out).mono ?_); (case side1 => exact mvC (Kd.C_below HR0.out HB.out)); (case side2 => exact HC0.out); rintro e w33 ⟨rfl, hb⟩; have n0_ := Aside0.mk (blk_below (g := gb269) (o := .cells #[.string ((rd_T34 l0 x12_1).f0), .int .i64 ((rd_T34 l0 x12_1).f1), .int .i64 ((rd_T34 l0 x12_1).f2), .slice (some ad274) ((rd_T34 l0 x12_1).f3).length c268_3] 34 (0, 0)) (mv BK269.out) hb); have n1_ := Aside0.mk (below_step (by repeat (first | (with_reducible first | exact HB.out | apply below_alloc | apply pw_below_drewN | apply below_drew1 | refine below_set ?_ GE269.out) | exact HB.out)) hb); clear BK269 HB; revert n0_ n1_; intro BK269 HB; (try clear hb))))
                go_ret
                exact ⟨by first | rfl | (simp [errW_none, errW_some] <;> rfl) | (simp [*, errW_none, errW_some] <;> rfl), by repeat (first | (with_reducible first | exact HB.out | apply below_alloc | apply pw_below_drewN | apply below_drew1 | refine below_set ?_ GE269.out) | exact HB.out)⟩
               ·
                rw [if_neg c32] at H
                have c32b0 : decide (t275 < 0) = false := decide_eq_false c32
                clear c32
                by_cases c34 : x57_3 > 0
                ·
                 rw [if_pos c34] at H
                 have c34b0 : decide (0 < x57_3) = true := decide_eq_true c34
                 clear c34
                 obtain ⟨ji35, hji35⟩ : ∃ j_ : Int, (wrap64 (x57_3 - 1)) = j_ := ⟨_, rfl⟩
                 replace H : (if 0 ≤ (ji35) then (if (ji35) < (((rd_T34 l0 x12_1).f3).length : Int) then (if ((Op.bytesLess ((rdOf ByteArray.empty ((rd_T34 l0 x12_1).f3) (ji35)).toList) ((rdOf ByteArray.empty ((rd_T34 l0 x12_1).f3) x57_3).toList)) = true) then (impl_ValidStages.l1 k3 l0 l0 (l0.length : Int) x12_1 ((rd_T34 l0 x12_1).f3) (((rd_T34 l0 x12_1).f3).length : Int) (wrap64 (x57_3 + 1)) ((rd_T34 l0 x12_1).f0) ((rd_T34 l0 x12_1).f1) ((rd_T34 l0 x12_1).f2) ((rd_T34 l0 x12_1).f3)) else (some false)) else (none)) else (none)) = some r := by first | (rw [hji35] at H; exact H) | (simp only [hji35] at H ⊢; exact H)
                 (try rw [hji35] at A31)
                 have hji35w : (IntKind.i64.wrap (x57_3 - 1)) = ji35 := (i64_w _).trans hji35
                 by_cases c36 : 0 ≤ (ji35)
                 ·
                  rw [if_pos c36] at H
                  have c36b0 : decide (0 ≤ (ji35)) = true := decide_eq_true c36
                  clear c36
                  by_cases c37 : (ji35) < (((rd_T34 l0 x12_1).f3).length : Int)
                  ·
                   rw [if_pos c37] at H
                   have c37b0 : decide ((ji35) < (((rd_T34 l0 x12_1).f3).length : Int)) = true := decide_eq_true c37
                   clear c37
                   by_cases c38 : ((Op.bytesLess ((rdOf ByteArray.empty ((rd_T34 l0 x12_1).f3) (ji35)).toList) ((rdOf ByteArray.empty ((rd_T34 l0 x12_1).f3) x57_3).toList)) = true)
                   ·
                    rw [if_pos c38] at H
                    have c38b0 : (Op.bytesLess ((rdOf ByteArray.empty ((rd_T34 l0 x12_1).f3) (ji35)).toList) ((rdOf ByteArray.empty ((rd_T34 l0 x12_1).f3) x57_3).toList)) = true := c38
                    clear c38
                    have H' := Aside0.mk H
                    clear H
                    have p274 : 0 ≤ (x57_3 : Int) := od
                    have q274 : x57_3 < (((rd_T34 l0 x12_1).f3).length : Int) := od
                    obtain ⟨ad274, e274, hx274_0⟩ := Kd.at_string HR268_3.out x57_3 p274 q274
                    cases e274
                    replace hx274_0 := (HB.out.cell (World.block_lt_of_cell? w _ hx274_0)).trans hx274_0
                    replace p274 := eq_true p274
                    replace q274 := eq_true q274
                    go_wp2_with (first | (go_at_call 81; (with_reducible refine (impl_stageAt.calls _ _ l0 (rdOf ByteArray.empty ((rd_T34 l0 x12_1).f3) x57_3) t275 _ ?side1 ?side2 A31.out).mono ?_); (case side1 => exact mvC (Kd.C_below HR0.out HB.out)); (case side2 => exact HC0.out); rintro e w39 ⟨rfl, hb⟩; have n0_ := Aside0.mk (blk_below (g := gb269) (o := .cells #[.string ((rd_T34 l0 x12_1).f0), .int .i64 ((rd_T34 l0 x12_1).f1), .int .i64 ((rd_T34 l0 x12_1).f2), .slice (some ad274) ((rd_T34 l0 x12_1).f3).length c268_3] 34 (0, 0)) (mv BK269.out) hb); have n1_ := Aside0.mk (below_step (by repeat (first | (with_reducible first | exact HB.out | apply below_alloc | apply pw_below_drewN | apply below_drew1 | refine below_set ?_ GE269.out) | exact HB.out)) hb); clear BK269 HB; revert n0_ n1_; intro BK269 HB; (try clear hb); have hcz40_0 : w39.cell? ⟨gb269, 0, none⟩ = some (.string ((rd_T34 l0 x12_1).f0)) := (blk_cell BK269.out 0).trans rfl; have hcz40_1 : w39.cell? ⟨gb269, 1, none⟩ = some (.int .i64 ((rd_T34 l0 x12_1).f1)) := (blk_cell BK269.out 1).trans rfl; have hcz40_2 : w39.cell? ⟨gb269, 2, none⟩ = some (.int .i64 ((rd_T34 l0 x12_1).f2)) := (blk_cell BK269.out 2).trans rfl; have hcz40_3 : w39.cell? ⟨gb269, 3, none⟩ = some (.slice (some ad274) ((rd_T34 l0 x12_1).f3).length c268_3) := (blk_cell BK269.out 3).trans rfl; have hfz40_0 := blk_frozen BK269.out 0; have hfz40_1 := blk_frozen BK269.out 1; have hfz40_2 := blk_frozen BK269.out 2; have hfz40_3 := blk_frozen BK269.out 3; have p276 : 0 ≤ ((ji35) : Int) := od; have q276 : (ji35) < (((rd_T34 l0 x12_1).f3).length : Int) := od; obtain ⟨ad276, e276, hx276_0⟩ := Kd.at_string HR268_3.out (ji35) p276 q276; obtain rfl : ad274 = ad276 := (by injection e276); replace hx276_0 := (HB.out.cell (World.block_lt_of_cell? w _ hx276_0)).trans hx276_0; replace p276 := eq_true p276; replace q276 := eq_true q276))
                    repeat (go_quiet (first | (go_at_call 81; (with_reducible refine (impl_stageAt.calls _ _ l0 (rdOf ByteArray.empty ((rd_T34 l0 x12_1).f3) x57_3) t275 _ ?side1 ?side2 A31.out).mono ?_); (case side1 => exact mvC (Kd.C_below HR0.out HB.out)); (case side2 => exact HC0.out); rintro e w39 ⟨rfl, hb⟩; have n0_ := Aside0.mk (blk_below (g := gb269) (o := .cells #[.string ((rd_T34 l0 x12_1).f0), .int .i64 ((rd_T34 l0 x12_1).f1), .int .i64 ((rd_T34 l0 x12_1).f2), .slice (some ad274) ((rd_T34 l0 x12_1).f3).length c268_3] 34 (0, 0)) (mv BK269.out) hb); have n1_ := Aside0.mk (below_step (by repeat (first | (with_reducible first | exact HB.out | apply below_alloc | apply pw_below_drewN | apply below_drew1 | refine below_set ?_ GE269.out) | exact HB.out)) hb); clear BK269 HB; revert n0_ n1_; intro BK269 HB; (try clear hb); have hcz40_0 : w39.cell? ⟨gb269, 0, none⟩ = some (.string ((rd_T34 l0 x12_1).f0)) := (blk_cell BK269.out 0).trans rfl; have hcz40_1 : w39.cell? ⟨gb269, 1, none⟩ = some (.int .i64 ((rd_T34 l0 x12_1).f1)) := (blk_cell BK269.out 1).trans rfl; have hcz40_2 : w39.cell? ⟨gb269, 2, none⟩ = some (.int .i64 ((rd_T34 l0 x12_1).f2)) := (blk_cell BK269.out 2).trans rfl; have hcz40_3 : w39.cell? ⟨gb269, 3, none⟩ = some (.slice (some ad274) ((rd_T34 l0 x12_1).f3).length c268_3) := (blk_cell BK269.out 3).trans rfl; have hfz40_0 := blk_frozen BK269.out 0; have hfz40_1 := blk_frozen BK269.out 1; have hfz40_2 := blk_frozen BK269.out 2; have hfz40_3 := blk_frozen BK269.out 3; have p276 : 0 ≤ ((ji35) : Int) := od; have q276 : (ji35) < (((rd_T34 l0 x12_1).f3).length : Int) := od; obtain ⟨ad276, e276, hx276_0⟩ := Kd.at_string HR268_3.out (ji35) p276 q276; obtain rfl : ad274 = ad276 := (by injection e276); replace hx276_0 := (HB.out.cell (World.block_lt_of_cell? w _ hx276_0)).trans hx276_0; replace p276 := eq_true p276; replace q276 := eq_true q276)); try go_wp2_with (first | (go_at_call 81; (with_reducible refine (impl_stageAt.calls _ _ l0 (rdOf ByteArray.empty ((rd_T34 l0 x12_1).f3) x57_3) t275 _ ?side1 ?side2 A31.out).mono ?_); (case side1 => exact mvC (Kd.C_below HR0.out HB.out)); (case side2 => exact HC0.out); rintro e w39 ⟨rfl, hb⟩; have n0_ := Aside0.mk (blk_below (g := gb269) (o := .cells #[.string ((rd_T34 l0 x12_1).f0), .int .i64 ((rd_T34 l0 x12_1).f1), .int .i64 ((rd_T34 l0 x12_1).f2), .slice (some ad274) ((rd_T34 l0 x12_1).f3).length c268_3] 34 (0, 0)) (mv BK269.out) hb); have n1_ := Aside0.mk (below_step (by repeat (first | (with_reducible first | exact HB.out | apply below_alloc | apply pw_below_drewN | apply below_drew1 | refine below_set ?_ GE269.out) | exact HB.out)) hb); clear BK269 HB; revert n0_ n1_; intro BK269 HB; (try clear hb); have hcz40_0 : w39.cell? ⟨gb269, 0, none⟩ = some (.string ((rd_T34 l0 x12_1).f0)) := (blk_cell BK269.out 0).trans rfl; have hcz40_1 : w39.cell? ⟨gb269, 1, none⟩ = some (.int .i64 ((rd_T34 l0 x12_1).f1)) := (blk_cell BK269.out 1).trans rfl; have hcz40_2 : w39.cell? ⟨gb269, 2, none⟩ = some (.int .i64 ((rd_T34 l0 x12_1).f2)) := (blk_cell BK269.out 2).trans rfl; have hcz40_3 : w39.cell? ⟨gb269, 3, none⟩ = some (.slice (some ad274) ((rd_T34 l0 x12_1).f3).length c268_3) := (blk_cell BK269.out 3).trans rfl; have hfz40_0 := blk_frozen BK269.out 0; have hfz40_1 := blk_frozen BK269.out 1; have hfz40_2 := blk_frozen BK269.out 2; have hfz40_3 := blk_frozen BK269.out 3; have p276 : 0 ≤ ((ji35) : Int) := od; have q276 : (ji35) < (((rd_T34 l0 x12_1).f3).length : Int) := od; obtain ⟨ad276, e276, hx276_0⟩ := Kd.at_string HR268_3.out (ji35) p276 q276; obtain rfl : ad274 = ad276 := (by injection e276); replace hx276_0 := (HB.out.cell (World.block_lt_of_cell? w _ hx276_0)).trans hx276_0; replace p276 := eq_true p276; replace q276 := eq_true q276)))
                    go_roundg k3
                    case measure => have := HK1.out; have := HJ5.out; have := HK3.out; omega
                    case rel => exact ⟨(wrap64 (x57_3 + 1)), rs, H', ⟨by have := HK1.out; have := HJ5.out; have := HK3.out; omega⟩, ⟨mv BK269.out⟩, ⟨by repeat (first | (with_reducible first | exact HB.out | apply below_alloc | apply pw_below_drewN | apply below_drew1 | refine below_set ?_ GE269.out) | exact HB.out)⟩⟩
                   ·
                    rw [if_neg c38] at H
                    have c38b0 : (Op.bytesLess ((rdOf ByteArray.empty ((rd_T34 l0 x12_1).f3) (ji35)).toList) ((rdOf ByteArray.empty ((rd_T34 l0 x12_1).f3) x57_3).toList)) = false := by simpa using c38
                    clear c38
                    obtain rfl := Option.some.inj H
                    have p274 : 0 ≤ (x57_3 : Int) := od
                    have q274 : x57_3 < (((rd_T34 l0 x12_1).f3).length : Int) := od
                    obtain ⟨ad274, e274, hx274_0⟩ := Kd.at_string HR268_3.out x57_3 p274 q274
                    cases e274
                    replace hx274_0 := (HB.out.cell (World.block_lt_of_cell? w _ hx274_0)).trans hx274_0
                    replace p274 := eq_true p274
                    replace q274 := eq_true q274
                    go_wp2_with (first | (go_at_call 81; (with_reducible refine (impl_stageAt.calls _ _ l0 (rdOf ByteArray.empty ((rd_T34 l0 x12_1).f3) x57_3) t275 _ ?side1 ?side2 A31.out).mono ?_); (case side1 => exact mvC (Kd.C_below HR0.out HB.out)); (case side2 => exact HC0.out); rintro e w41 ⟨rfl, hb⟩; have n0_ := Aside0.mk (blk_below (g := gb269) (o := .cells #[.string ((rd_T34 l0 x12_1).f0), .int .i64 ((rd_T34 l0 x12_1).f1), .int .i64 ((rd_T34 l0 x12_1).f2), .slice (some ad274) ((rd_T34 l0 x12_1).f3).length c268_3] 34 (0, 0)) (mv BK269.out) hb); have n1_ := Aside0.mk (below_step (by repeat (first | (with_reducible first | exact HB.out | apply below_alloc | apply pw_below_drewN | apply below_drew1 | refine below_set ?_ GE269.out) | exact HB.out)) hb); clear BK269 HB; revert n0_ n1_; intro BK269 HB; (try clear hb); have hcz42_0 : w41.cell? ⟨gb269, 0, none⟩ = some (.string ((rd_T34 l0 x12_1).f0)) := (blk_cell BK269.out 0).trans rfl; have hcz42_1 : w41.cell? ⟨gb269, 1, none⟩ = some (.int .i64 ((rd_T34 l0 x12_1).f1)) := (blk_cell BK269.out 1).trans rfl; have hcz42_2 : w41.cell? ⟨gb269, 2, none⟩ = some (.int .i64 ((rd_T34 l0 x12_1).f2)) := (blk_cell BK269.out 2).trans rfl; have hcz42_3 : w41.cell? ⟨gb269, 3, none⟩ = some (.slice (some ad274) ((rd_T34 l0 x12_1).f3).length c268_3) := (blk_cell BK269.out 3).trans rfl; have hfz42_0 := blk_frozen BK269.out 0; have hfz42_1 := blk_frozen BK269.out 1; have hfz42_2 := blk_frozen BK269.out 2; have hfz42_3 := blk_frozen BK269.out 3; have p276 : 0 ≤ ((ji35) : Int) := od; have q276 : (ji35) < (((rd_T34 l0 x12_1).f3).length : Int) := od; obtain ⟨ad276, e276, hx276_0⟩ := Kd.at_string HR268_3.out (ji35) p276 q276; obtain rfl : ad274 = ad276 := (by injection e276); replace hx276_0 := (HB.out.cell (World.block_lt_of_cell? w _ hx276_0)).trans hx276_0; replace p276 := eq_true p276; replace q276 := eq_true q276))
                    repeat (go_quiet (first | (go_at_call 81; (with_reducible refine (impl_stageAt.calls _ _ l0 (rdOf ByteArray.empty ((rd_T34 l0 x12_1).f3) x57_3) t275 _ ?side1 ?side2 A31.out).mono ?_); (case side1 => exact mvC (Kd.C_below HR0.out HB.out)); (case side2 => exact HC0.out); rintro e w41 ⟨rfl, hb⟩; have n0_ := Aside0.mk (blk_below (g := gb269) (o := .cells #[.string ((rd_T34 l0 x12_1).f0), .int .i64 ((rd_T34 l0 x12_1).f1), .int .i64 ((rd_T34 l0 x12_1).f2), .slice (some ad274) ((rd_T34 l0 x12_1).f3).length c268_3] 34 (0, 0)) (mv BK269.out) hb); have n1_ := Aside0.mk (below_step (by repeat (first | (with_reducible first | exact HB.out | apply below_alloc | apply pw_below_drewN | apply below_drew1 | refine below_set ?_ GE269.out) | exact HB.out)) hb); clear BK269 HB; revert n0_ n1_; intro BK269 HB; (try clear hb); have hcz42_0 : w41.cell? ⟨gb269, 0, none⟩ = some (.string ((rd_T34 l0 x12_1).f0)) := (blk_cell BK269.out 0).trans rfl; have hcz42_1 : w41.cell? ⟨gb269, 1, none⟩ = some (.int .i64 ((rd_T34 l0 x12_1).f1)) := (blk_cell BK269.out 1).trans rfl; have hcz42_2 : w41.cell? ⟨gb269, 2, none⟩ = some (.int .i64 ((rd_T34 l0 x12_1).f2)) := (blk_cell BK269.out 2).trans rfl; have hcz42_3 : w41.cell? ⟨gb269, 3, none⟩ = some (.slice (some ad274) ((rd_T34 l0 x12_1).f3).length c268_3) := (blk_cell BK269.out 3).trans rfl; have hfz42_0 := blk_frozen BK269.out 0; have hfz42_1 := blk_frozen BK269.out 1; have hfz42_2 := blk_frozen BK269.out 2; have hfz42_3 := blk_frozen BK269.out 3; have p276 : 0 ≤ ((ji35) : Int) := od; have q276 : (ji35) < (((rd_T34 l0 x12_1).f3).length : Int) := od; obtain ⟨ad276, e276, hx276_0⟩ := Kd.at_string HR268_3.out (ji35) p276 q276; obtain rfl : ad274 = ad276 := (by injection e276); replace hx276_0 := (HB.out.cell (World.block_lt_of_cell? w _ hx276_0)).trans hx276_0; replace p276 := eq_true p276; replace q276 := eq_true q276)); try go_wp2_with (first | (go_at_call 81; (with_reducible refine (impl_stageAt.calls _ _ l0 (rdOf ByteArray.empty ((rd_T34 l0 x12_1).f3) x57_3) t275 _ ?side1 ?side2 A31.out).mono ?_); (case side1 => exact mvC (Kd.C_below HR0.out HB.out)); (case side2 => exact HC0.out); rintro e w41 ⟨rfl, hb⟩; have n0_ := Aside0.mk (blk_below (g := gb269) (o := .cells #[.string ((rd_T34 l0 x12_1).f0), .int .i64 ((rd_T34 l0 x12_1).f1), .int .i64 ((rd_T34 l0 x12_1).f2), .slice (some ad274) ((rd_T34 l0 x12_1).f3).length c268_3] 34 (0, 0)) (mv BK269.out) hb); have n1_ := Aside0.mk (below_step (by repeat (first | (with_reducible first | exact HB.out | apply below_alloc | apply pw_below_drewN | apply below_drew1 | refine below_set ?_ GE269.out) | exact HB.out)) hb); clear BK269 HB; revert n0_ n1_; intro BK269 HB; (try clear hb); have hcz42_0 : w41.cell? ⟨gb269, 0, none⟩ = some (.string ((rd_T34 l0 x12_1).f0)) := (blk_cell BK269.out 0).trans rfl; have hcz42_1 : w41.cell? ⟨gb269, 1, none⟩ = some (.int .i64 ((rd_T34 l0 x12_1).f1)) := (blk_cell BK269.out 1).trans rfl; have hcz42_2 : w41.cell? ⟨gb269, 2, none⟩ = some (.int .i64 ((rd_T34 l0 x12_1).f2)) := (blk_cell BK269.out 2).trans rfl; have hcz42_3 : w41.cell? ⟨gb269, 3, none⟩ = some (.slice (some ad274) ((rd_T34 l0 x12_1).f3).length c268_3) := (blk_cell BK269.out 3).trans rfl; have hfz42_0 := blk_frozen BK269.out 0; have hfz42_1 := blk_frozen BK269.out 1; have hfz42_2 := blk_frozen BK269.out 2; have hfz42_3 := blk_frozen BK269.out 3; have p276 : 0 ≤ ((ji35) : Int) := od; have q276 : (ji35) < (((rd_T34 l0 x12_1).f3).length : Int) := od; obtain ⟨ad276, e276, hx276_0⟩ := Kd.at_string HR268_3.out (ji35) p276 q276; obtain rfl : ad274 = ad276 := (by injection e276); replace hx276_0 := (HB.out.cell (World.block_lt_of_cell? w _ hx276_0)).trans hx276_0; replace p276 := eq_true p276; replace q276 := eq_true q276)))
                    go_ret
                    exact ⟨by first | rfl | (simp [errW_none, errW_some] <;> rfl) | (simp only [← hji35]; first | rfl | (simp [errW_none, errW_some] <;> rfl)) | (simp [*, errW_none, errW_some] <;> rfl), by repeat (first | (with_reducible first | exact HB.out | apply below_alloc | apply pw_below_drewN | apply below_drew1 | refine below_set ?_ GE269.out) | exact HB.out)⟩
                  ·
                   rw [if_neg c37] at H
                   exact absurd H (by simp)
                 ·
                  rw [if_neg c36] at H
                  exact absurd H (by simp)
                ·
                 rw [if_neg c34] at H
                 have c34b0 : decide (0 < x57_3) = false := decide_eq_false c34
                 clear c34
                 have H' := Aside0.mk H
                 clear H
                 have p274 : 0 ≤ (x57_3 : Int) := od
                 have q274 : x57_3 < (((rd_T34 l0 x12_1).f3).length : Int) := od
                 obtain ⟨ad274, e274, hx274_0⟩ := Kd.at_string HR268_3.out x57_3 p274 q274
                 cases e274
                 replace hx274_0 := (HB.out.cell (World.block_lt_of_cell? w _ hx274_0)).trans hx274_0
                 replace p274 := eq_true p274
                 replace q274 := eq_true q274
                 go_wp2_with (first | (go_at_call 81; (with_reducible refine (impl_stageAt.calls _ _ l0 (rdOf ByteArray.empty ((rd_T34 l0 x12_1).f3) x57_3) t275 _ ?side1 ?side2 A31.out).mono ?_); (case side1 => exact mvC (Kd.C_below HR0.out HB.out)); (case side2 => exact HC0.out); rintro e w43 ⟨rfl, hb⟩; have n0_ := Aside0.mk (blk_below (g := gb269) (o := .cells #[.string ((rd_T34 l0 x12_1).f0), .int .i64 ((rd_T34 l0 x12_1).f1), .int .i64 ((rd_T34 l0 x12_1).f2), .slice (some ad274) ((rd_T34 l0 x12_1).f3).length c268_3] 34 (0, 0)) (mv BK269.out) hb); have n1_ := Aside0.mk (below_step (by repeat (first | (with_reducible first | exact HB.out | apply below_alloc | apply pw_below_drewN | apply below_drew1 | refine below_set ?_ GE269.out) | exact HB.out)) hb); clear BK269 HB; revert n0_ n1_; intro BK269 HB; (try clear hb)))
                 repeat (go_quiet (first | (go_at_call 81; (with_reducible refine (impl_stageAt.calls _ _ l0 (rdOf ByteArray.empty ((rd_T34 l0 x12_1).f3) x57_3) t275 _ ?side1 ?side2 A31.out).mono ?_); (case side1 => exact mvC (Kd.C_below HR0.out HB.out)); (case side2 => exact HC0.out); rintro e w43 ⟨rfl, hb⟩; have n0_ := Aside0.mk (blk_below (g := gb269) (o := .cells #[.string ((rd_T34 l0 x12_1).f0), .int .i64 ((rd_T34 l0 x12_1).f1), .int .i64 ((rd_T34 l0 x12_1).f2), .slice (some ad274) ((rd_T34 l0 x12_1).f3).length c268_3] 34 (0, 0)) (mv BK269.out) hb); have n1_ := Aside0.mk (below_step (by repeat (first | (with_reducible first | exact HB.out | apply below_alloc | apply pw_below_drewN | apply below_drew1 | refine below_set ?_ GE269.out) | exact HB.out)) hb); clear BK269 HB; revert n0_ n1_; intro BK269 HB; (try clear hb))); try go_wp2_with (first | (go_at_call 81; (with_reducible refine (impl_stageAt.calls _ _ l0 (rdOf ByteArray.empty ((rd_T34 l0 x12_1).f3) x57_3) t275 _ ?side1 ?side2 A31.out).mono ?_); (case side1 => exact mvC (Kd.C_below HR0.out HB.out)); (case side2 => exact HC0.out); rintro e w43 ⟨rfl, hb⟩; have n0_ := Aside0.mk (blk_below (g := gb269) (o := .cells #[.string ((rd_T34 l0 x12_1).f0), .int .i64 ((rd_T34 l0 x12_1).f1), .int .i64 ((rd_T34 l0 x12_1).f2), .slice (some ad274) ((rd_T34 l0 x12_1).f3).length c268_3] 34 (0, 0)) (mv BK269.out) hb); have n1_ := Aside0.mk (below_step (by repeat (first | (with_reducible first | exact HB.out | apply below_alloc | apply pw_below_drewN | apply below_drew1 | refine below_set ?_ GE269.out) | exact HB.out)) hb); clear BK269 HB; revert n0_ n1_; intro BK269 HB; (try clear hb))))
                 go_roundg k3
                 case measure => have := HK1.out; have := HJ5.out; have := HK3.out; omega
                 case rel => exact ⟨(wrap64 (x57_3 + 1)), rs, H', ⟨by have := HK1.out; have := HJ5.out; have := HK3.out; omega⟩, ⟨mv BK269.out⟩, ⟨by repeat (first | (with_reducible first | exact HB.out | apply below_alloc | apply pw_below_drewN | apply below_drew1 | refine below_set ?_ GE269.out) | exact HB.out)⟩⟩
              ·
               rw [if_neg c30] at H
               exact absurd H (by simp)
             ·
              rw [if_neg c29] at H
              exact absurd H (by simp)
            ·
             rw [if_neg c28] at H
             have c28b0 : decide (x57_3 < (((rd_T34 l0 x12_1).f3).length : Int)) = false := decide_eq_false c28
             clear c28
             have H' := Aside0.mk H
             clear H
             go_wp2
             repeat (go_quiet (fail); try go_wp2)
             go_roundg k3
             case measure => have := HK1.out; have := HJ5.out; have := HK3.out; omega
             case rel => exact ⟨(wrap64 (x12_1 + 1)), rs, H', ⟨by have := HK1.out; have := HJ5.out; have := HK3.out; omega⟩, ⟨by repeat (first | (with_reducible first | exact HB.out | apply below_alloc | apply pw_below_drewN | apply below_drew1 | refine below_set ?_ GE269.out) | exact HB.out)⟩⟩
      ·
       rw [if_neg c5] at H
       exact absurd H (by simp)
     ·
      rw [if_neg c4] at H
      exact absurd H (by simp)
    ·
     rw [if_neg c3] at H
     have c3b0 : decide (x12_1 < (l0.length : Int)) = false := decide_eq_false c3
     clear c3
     replace H := Option.bind_eq_some_iff.mp H
     obtain ⟨t262, A440, H⟩ := H
     replace H : ((impl_firstOrder.f k1 l0 t262).bind fun t265 => (some ((t265.length : Int) == (l0.length : Int)))) = some r := H
     have A44 := Aside0.mk A440
     clear A440
     replace H := Option.bind_eq_some_iff.mp H
     obtain ⟨t265, A450, H⟩ := H
     replace H : (some ((t265.length : Int) == (l0.length : Int))) = some r := H
     have A45 := Aside0.mk A450
     clear A450
     obtain rfl := Option.some.inj H
     go_wp2_with (first | (go_at_call 82; (with_reducible refine (impl_allStages.calls k1 _ _ l0 t262 _ ?side1 ?side2 A44.out).mono ?_); (case side1 => exact mvC (Kd.C_below HR0.out HB.out)); (case side2 => exact HC0.out); rintro e w46 ⟨v263, rfl, ho0, hb⟩; have n0_ := Aside0.mk (Kd.R_lower ho0 (below_size (mvB HB.out))); have n1_ := Aside0.mk (below_step (mvB HB.out) hb); clear HB; revert n0_ n1_; intro HO264 HB; (try clear hb); (try clear ho0); obtain ⟨Ao47, co47, eo47⟩ := Kd.R_slice HO264.out; subst eo47) | (go_at_call 70; (with_reducible refine (impl_firstOrder.calls k1 _ _ l0 _ _ t262 t265 _ ?side1 ?side2 ?side3 ?side4 A45.out).mono ?_); (case side1 => exact mvC (Kd.C_below HR0.out HB.out)); (case side2 => exact HC0.out); (case side3 => exact mvC (Kd.R_reads' HO264.out).2.2); (case side4 => exact (Kd.R_reads' HO264.out).2.1); rintro e w48 ⟨v266, rfl, ho0, hb⟩; have n0_ := Aside0.mk (Kd.R_elder' (mv HO264.out) (Kd.R_base ho0) hb); have n1_ := Aside0.mk (Kd.R_lower (Kd.R_new' ho0 (Kd.R_lt (mv HO264.out))) (below_size (mvB HB.out))); have n2_ := Aside0.mk (below_step (mvB HB.out) hb); clear HO264 HB; revert n0_ n1_ n2_; intro HO264 HO267 HB; (try clear hb); (try clear ho0); obtain ⟨Ao49, co49, eo49⟩ := Kd.R_slice HO267.out; subst eo49))
     repeat (go_quiet (first | (go_at_call 82; (with_reducible refine (impl_allStages.calls k1 _ _ l0 t262 _ ?side1 ?side2 A44.out).mono ?_); (case side1 => exact mvC (Kd.C_below HR0.out HB.out)); (case side2 => exact HC0.out); rintro e w46 ⟨v263, rfl, ho0, hb⟩; have n0_ := Aside0.mk (Kd.R_lower ho0 (below_size (mvB HB.out))); have n1_ := Aside0.mk (below_step (mvB HB.out) hb); clear HB; revert n0_ n1_; intro HO264 HB; (try clear hb); (try clear ho0); obtain ⟨Ao47, co47, eo47⟩ := Kd.R_slice HO264.out; subst eo47) | (go_at_call 70; (with_reducible refine (impl_firstOrder.calls k1 _ _ l0 _ _ t262 t265 _ ?side1 ?side2 ?side3 ?side4 A45.out).mono ?_); (case side1 => exact mvC (Kd.C_below HR0.out HB.out)); (case side2 => exact HC0.out); (case side3 => exact mvC (Kd.R_reads' HO264.out).2.2); (case side4 => exact (Kd.R_reads' HO264.out).2.1); rintro e w48 ⟨v266, rfl, ho0, hb⟩; have n0_ := Aside0.mk (Kd.R_elder' (mv HO264.out) (Kd.R_base ho0) hb); have n1_ := Aside0.mk (Kd.R_lower (Kd.R_new' ho0 (Kd.R_lt (mv HO264.out))) (below_size (mvB HB.out))); have n2_ := Aside0.mk (below_step (mvB HB.out) hb); clear HO264 HB; revert n0_ n1_ n2_; intro HO264 HO267 HB; (try clear hb); (try clear ho0); obtain ⟨Ao49, co49, eo49⟩ := Kd.R_slice HO267.out; subst eo49)); try go_wp2_with (first | (go_at_call 82; (with_reducible refine (impl_allStages.calls k1 _ _ l0 t262 _ ?side1 ?side2 A44.out).mono ?_); (case side1 => exact mvC (Kd.C_below HR0.out HB.out)); (case side2 => exact HC0.out); rintro e w46 ⟨v263, rfl, ho0, hb⟩; have n0_ := Aside0.mk (Kd.R_lower ho0 (below_size (mvB HB.out))); have n1_ := Aside0.mk (below_step (mvB HB.out) hb); clear HB; revert n0_ n1_; intro HO264 HB; (try clear hb); (try clear ho0); obtain ⟨Ao47, co47, eo47⟩ := Kd.R_slice HO264.out; subst eo47) | (go_at_call 70; (with_reducible refine (impl_firstOrder.calls k1 _ _ l0 _ _ t262 t265 _ ?side1 ?side2 ?side3 ?side4 A45.out).mono ?_); (case side1 => exact mvC (Kd.C_below HR0.out HB.out)); (case side2 => exact HC0.out); (case side3 => exact mvC (Kd.R_reads' HO264.out).2.2); (case side4 => exact (Kd.R_reads' HO264.out).2.1); rintro e w48 ⟨v266, rfl, ho0, hb⟩; have n0_ := Aside0.mk (Kd.R_elder' (mv HO264.out) (Kd.R_base ho0) hb); have n1_ := Aside0.mk (Kd.R_lower (Kd.R_new' ho0 (Kd.R_lt (mv HO264.out))) (below_size (mvB HB.out))); have n2_ := Aside0.mk (below_step (mvB HB.out) hb); clear HO264 HB; revert n0_ n1_ n2_; intro HO264 HO267 HB; (try clear hb); (try clear ho0); obtain ⟨Ao49, co49, eo49⟩ := Kd.R_slice HO267.out; subst eo49)))
     go_ret
     exact ⟨by first | rfl | (simp [errW_none, errW_some] <;> rfl) | (simp [*, errW_none, errW_some] <;> rfl), mvB HB.out⟩

/-! ### impl_yearlyOk: function 42 -/
def impl_yearlyOk.f (a0 : Int) : Option (Bool) := (impl_within.f a0 1 1000000).bind fun t277 => (some t277)
set_option maxHeartbeats 8000000 in
set_option maxRecDepth 100000 in
theorem impl_yearlyOk.calls (a0 : Int) (r : Bool) (w : World) (h : impl_yearlyOk.f a0 = some r) :
  Calls Try.prog 42 #[.int .i64 a0] w fun e w' => e = .returned (.bool r) ∧ Drawn0 w w' := by
 have H : ((impl_within.f a0 1 1000000).bind fun t277 => (some t277)) = some r := h
 clear h
 replace H := Option.bind_eq_some_iff.mp H
 obtain ⟨t277, A20, H⟩ := H
 replace H : (some t277) = some r := H
 have A2 := Aside0.mk A20
 clear A20
 obtain rfl := Option.some.inj H
 go_enter Try.func42, Try.ntmps42
 go_wp2_with (first | ((with_reducible refine gate_callee (f := 43) rfl ?_); refine goesA_ (some 4) Try.func43 #[.int .i64 a0, .int .i64 1, .int .i64 1000000] ?_; (with_reducible refine (impl_within.calls a0 1 1000000 t277 _ A2.out).mono ?_); rintro e w' ⟨rfl, ⟨nd, rfl⟩⟩; refine ⟨_, rfl, ?_⟩))
 go_ret
 exact ⟨rs, dr0⟩

/-! ### impl_budgetValid: function 44 -/
def impl_budgetValid.f (a0 : Int) : Option (Bool) := (impl_within.f a0 1 20000).bind fun t278 => (some t278)
set_option maxHeartbeats 8000000 in
set_option maxRecDepth 100000 in
theorem impl_budgetValid.calls (a0 : Int) (r : Bool) (w : World) (h : impl_budgetValid.f a0 = some r) :
  Calls Try.prog 44 #[.int .i64 a0] w fun e w' => e = .returned (.bool r) ∧ Drawn0 w w' := by
 have H : ((impl_within.f a0 1 20000).bind fun t278 => (some t278)) = some r := h
 clear h
 replace H := Option.bind_eq_some_iff.mp H
 obtain ⟨t278, A20, H⟩ := H
 replace H : (some t278) = some r := H
 have A2 := Aside0.mk A20
 clear A20
 obtain rfl := Option.some.inj H
 go_enter Try.func44, Try.ntmps44
 go_wp2_with (first | ((with_reducible refine gate_callee (f := 43) rfl ?_); refine goesA_ (some 4) Try.func43 #[.int .i64 a0, .int .i64 1, .int .i64 20000] ?_; (with_reducible refine (impl_within.calls a0 1 20000 t278 _ A2.out).mono ?_); rintro e w' ⟨rfl, ⟨nd, rfl⟩⟩; refine ⟨_, rfl, ?_⟩))
 go_ret
 exact ⟨rs, dr0⟩

/-! ### slices_Clone_int64_int64: function 83 -/
def slices_Clone_int64_int64.f (l0 : List Int) : Option (List Int) := if l0.length ≤ 17592186044416 then some l0 else none
set_option maxHeartbeats 2000000 in
theorem slices_Clone_int64_int64.nil (n c : Nat) (w : World) :
  Calls Try.prog 83 #[.slice none n c] w fun e w' => e = .returned (.slice none 0 0) ∧ w' = w := by
 have q0 : ∀ (w : World) (a : Option Addr) (n c n' c' : Nat), (binOp .eql 27 (.slice a n c) (.slice none n' c')).run Try.prog w = .ok (.bool a.isNone) w := fun w a n c n' c' => Lib.run_eql_slice_nil w _ _ a n c n' c' Try.underlying27
 go_enter Try.func83, Try.ntmps83
 go_wp2
 go_ret
 exact ⟨rfl, rfl⟩
set_option maxHeartbeats 2000000 in
theorem slices_Clone_int64_int64.some (ad : Addr) (n c : Nat) (news : List Value) (w : World) (hl : news.length = n * 1) (hn : n ≤ maxLen) (hbig : n * 8 ≤ 140737488355328)
  (hc : ∀ j u, news[j]? = some u → w.cell? (ad.add j) = some u) (h1 : ∀ u ∈ news, u.oneCell' = true) :
  Calls Try.prog 83 #[.slice (some ad) n c] w fun e w' => ∃ v', e = .returned v' ∧ w'.ownsRow w.heap.size 2 1 v' n news ∧ Below w.heap.size w w' := by
 have q0 : ∀ (w : World) (a : Option Addr) (n c n' c' : Nat), (binOp .eql 27 (.slice a n c) (.slice none n' c')).run Try.prog w = .ok (.bool a.isNone) w := fun w a n c n' c' => Lib.run_eql_slice_nil w _ _ a n c n' c' Try.underlying27
 have hinfo : (Try.prog.info? 2).map (fun i => (i.zero, i.size, i.bytes)) = Option.some (Option.some (.int .i64 0), 1, 8) := by kernel_rfl
 obtain ⟨i0, hi, he⟩ := Option.map_eq_some_iff.1 hinfo
 have hz0 : i0.zero = Option.some (.int .i64 0) := congrArg (·.1) he
 have hz1 : i0.size = 1 := congrArg (·.2.1) he
 have hz2 : i0.bytes = 8 := congrArg (·.2.2) he
 have X := Aside0.mk (And.intro hinfo (And.intro hi (And.intro hz0 (And.intro hz1 hz2))))
 clear hinfo hi he hz0 hz1 hz2
 have B := Aside0.mk hc
 clear hc
 go_enter Try.func83, Try.ntmps83
 go_wp2_with (at_builtin; go_loud (refine wpList_append_own_at _ rfl _ _ 27 rfl w.heap.size 2 i0 (.int .i64 0) 1 8 Try.underlying27 X.out.2.1 X.out.2.2.1 X.out.2.2.2.1 X.out.2.2.2.2 rfl (by decide) _ _ _ rfl (World.ownsRow_made w #[] 0 (Nat.le_refl _) (Nat.zero_le _) (by simp)) ad n c news rfl ?qc1 ?qc2 ?qc3 ?qc4 ?qc5 ?qc6 ?_))
 case qc1 => exact hl
 case qc2 =>
  intro j u hj
  exact Lib.cell?_alloc_some _ (B.out j u hj)
 case qc3 => exact h1
 case qc4 => rw [Nat.zero_add]; exact hn
 case qc5 => rw [Nat.zero_add]; exact hbig
 case qc6 => simp
 intro v' w1 hown hgrow hnil hblk
 go_wp2
 go_ret
 refine ⟨v', rfl, by simpa using hown, ?_⟩
 exact ((Below.refl _ w).alloc (Nat.le_refl _) _).grown hgrow (by simp) (by intro k hk; simp [Value.ownBlock] at hk; omega)
theorem slices_Clone_int64_int64.calls (A0 : Option Addr) (c0 : Nat) (l0 : List Int) (r : List Int) (w : World) (hr0 : Kd.C (Kd.int .i64) w A0 l0.length l0) (hc0 : l0.length ≤ c0) (h : slices_Clone_int64_int64.f l0 = Option.some r) :
  Calls Try.prog 83 #[.slice A0 l0.length c0] w fun e w' => ∃ v0_ : Value, e = .returned (v0_) ∧ Kd.R (Kd.int .i64) 2 w' w.heap.size (fun _ => True) v0_ r ∧ Below w.heap.size w w' := by
 unfold slices_Clone_int64_int64.f at h
 by_cases hq : l0.length ≤ 17592186044416
 ·
  rw [if_pos hq] at h
  obtain rfl := Option.some.inj h
  cases A0 with
  | none =>
   have h0 : l0 = [] := by
    rcases Nat.eq_zero_or_pos l0.length with h | h
    ·
     exact List.length_eq_zero_iff.1 h
    ·
     obtain ⟨ad, e, _⟩ := Kd.at_int hr0 0 (by omega) (by omega)
     cases e
   subst h0
   refine (slices_Clone_int64_int64.nil _ _ w).mono ?_
   rintro e w' ⟨rfl, rfl⟩
   exact ⟨_, rfl, Kd.R_nil _ _ _ _ _, Below.refl _ _⟩
  | some ad =>
   refine (slices_Clone_int64_int64.some ad l0.length c0 (nums .i64 l0) w (by rw [nums_length]; omega) (by unfold maxLen; omega) (by omega) (fun j u hj => ?_) (fun u hu => ?_)).mono ?_
   ·
    have hlt : j < l0.length := by
     have := (List.getElem?_eq_some_iff.1 hj).1
     rwa [nums_length] at this
    obtain ⟨ad', e, hx⟩ := Kd.at_int hr0 (j : Int) (by omega) (by omega)
    cases e
    rw [Int.toNat_natCast] at hx
    rw [hx]
    simp only [nums, List.getElem?_map, List.getElem?_eq_getElem hlt, Option.map_some, Option.some.injEq] at hj
    rw [← hj]
    unfold rd
    simp [List.getD_eq_getElem?_getD, hlt]
   ·
    obtain ⟨x, _, rfl⟩ := List.mem_map.1 hu
    rfl
   ·
    rintro e w' ⟨v', rfl, hown, hb⟩
    exact ⟨v', rfl, Kd.R_of_own hown (fun _ _ => trivial), hb⟩
 ·
  rw [if_neg hq] at h
  cases h

/-! ### impl_divUp: function 84 -/
def impl_divUp.f (a0 : Int) (a1 : Int) : Option (Int) := if a1 = 0 then (none) else (some (wrap64 (Int.tdiv (wrap64 ((wrap64 (a0 + a1)) - 1)) a1)))
set_option maxHeartbeats 8000000 in
set_option maxRecDepth 100000 in
theorem impl_divUp.calls (a0 : Int) (a1 : Int) (r : Int) (w : World) (h : impl_divUp.f a0 a1 = some r) :
  Calls Try.prog 84 #[.int .i64 a0, .int .i64 a1] w fun e w' => e = .returned (.int .i64 r) ∧ Drawn0 w w' := by
 have H : (if a1 = 0 then (none) else (some (wrap64 (Int.tdiv (wrap64 ((wrap64 (a0 + a1)) - 1)) a1)))) = some r := h
 clear h
 by_cases c3 : a1 = 0
 ·
  rw [if_pos c3] at H
  exact absurd H (by simp)
 ·
  rw [if_neg c3] at H
  have c3b0 : (a1 == 0) = false := beq_eq_false_iff_ne.mpr c3
  have c3b1 : (a1 != 0) = true := bne_iff_ne.mpr c3
  obtain rfl := Option.some.inj H
  go_enter Try.func84, Try.ntmps84
  go_wp2
  go_ret
  exact ⟨rs, dr0⟩

-- NOT PRINTED: function 45 (impl_orderSearch_visit)

end Go.Proofs.Ytmbiapefigcgnaa.PFnPlans
