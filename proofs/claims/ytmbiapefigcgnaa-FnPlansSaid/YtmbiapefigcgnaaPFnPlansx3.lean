-- written by a program of this session (mkp.py) out of the translation; Lean checks it. -- squeezed
import Derived.Test.YtmbiapefigcgnaaPFnPlansx0
import Derived.Test.YtmbiapefigcgnaaPFnPlansx1
import Derived.Test.YtmbiapefigcgnaaPFnPlansx2
namespace Go.Proofs.Ytmbiapefigcgnaa.PFnPlans
open Go.RowKit Go.Proofs.YtmbiapefigcgnaaW.PrintWords Go.Proofs.YtmbiapefigcgnaaW.PrintLast Go.Proofs.YtmbiapefigcgnaaW.PrintMore
attribute [local go_sem] bin_leq bin_gtr bin_geq max2_int min2_int max_two min_two max_three min_three max_four min_four   -- for this text's walks alone
set_option linter.unusedVariables false
set_option linter.unusedSimpArgs false

/-! ### spec_l01Dec: function 78 -/
mutual
def spec_l01Dec.l0 : Nat → Int → List Int → Int → Option (ByteArray)
 | 0, _, _, _ => none
 | k + 1, x0, x3, x4 => if x4 = 0 then (if x0 < 0 then (if x3.length < 140737488355328 then (spec_l01Dec.j1 k (x3 ++ [45])) else (none)) else (spec_l01Dec.j1 k x3)) else (if (Int.tmod x4 10) < 0 then (if x3.length < 140737488355328 then (spec_l01Dec.l0 k x0 (x3 ++ [(wrap64 (48 + (wrap64 (-(Int.tmod x4 10))))) % 256]) (wrap64 (Int.tdiv x4 10))) else (none)) else (if x3.length < 140737488355328 then (spec_l01Dec.l0 k x0 (x3 ++ [(wrap64 (48 + (Int.tmod x4 10))) % 256]) (wrap64 (Int.tdiv x4 10))) else (none)))
def spec_l01Dec.j1 : Nat → List Int → Option (ByteArray)
 | 0, _ => none
 | k + 1, x3 => spec_l01Dec.l1 k x3 (([] : List Int)) (wrap64 ((x3.length : Int) - 1))
def spec_l01Dec.l1 : Nat → List Int → List Int → Int → Option (ByteArray)
 | 0, _, _, _ => none
 | k + 1, x3, x6, x7 => if x7 ≥ 0 then (if 0 ≤ x7 then (if x7 < (x3.length : Int) then (if x6.length < 140737488355328 then (spec_l01Dec.l1 k x3 (x6 ++ [rd x3 x7]) (wrap64 (x7 - 1))) else (none)) else (none)) else (none)) else (some (strOfNums x6))
end
def spec_l01Dec.f (k : Nat) (a0 : Int) : Option (ByteArray) := if a0 = 0 then (some (⟨#[48]⟩ : ByteArray)) else (spec_l01Dec.l0 k a0 (([] : List Int)) a0)
theorem spec_l01Dec.mono_l : ∀ k, (∀ y0 y1 y2, LeO (spec_l01Dec.l0 k y0 y1 y2) (spec_l01Dec.l0 (k + 1) y0 y1 y2)) ∧ (∀ y0, LeO (spec_l01Dec.j1 k y0) (spec_l01Dec.j1 (k + 1) y0)) ∧ (∀ y0 y1 y2, LeO (spec_l01Dec.l1 k y0 y1 y2) (spec_l01Dec.l1 (k + 1) y0 y1 y2))
 | 0 => ⟨fun _ _ _ r h => by simp [spec_l01Dec.l0] at h, fun _ r h => by simp [spec_l01Dec.j1] at h, fun _ _ _ r h => by simp [spec_l01Dec.l1] at h⟩
 | k + 1 => by
  obtain ⟨ih0, ih1, ih2⟩ := spec_l01Dec.mono_l k
  refine ⟨?_, ?_, ?_⟩
  ·
   intro y0 y1 y2
   unfold spec_l01Dec.l0
   repeat' first
   | (with_reducible exact ih0 _ _ _)
   | (with_reducible exact ih1 _)
   | (with_reducible exact ih2 _ _ _)
   | (with_reducible exact LeO.refl _)
   | (with_reducible exact LeO.none _)
   | (with_reducible refine LeO.ite ?_ ?_)
   | (with_reducible refine LeO.bind ?_ (fun _ => ?_))
   | exact ih0 _ _ _
   | exact ih1 _
   | exact ih2 _ _ _
   | exact LeO.none _
   | refine LeO.ite ?_ ?_
   | refine LeO.bind ?_ (fun _ => ?_)
  ·
   intro y0
   unfold spec_l01Dec.j1
   repeat' first
   | (with_reducible exact ih0 _ _ _)
   | (with_reducible exact ih1 _)
   | (with_reducible exact ih2 _ _ _)
   | (with_reducible exact LeO.refl _)
   | (with_reducible exact LeO.none _)
   | (with_reducible refine LeO.ite ?_ ?_)
   | (with_reducible refine LeO.bind ?_ (fun _ => ?_))
   | exact ih0 _ _ _
   | exact ih1 _
   | exact ih2 _ _ _
   | exact LeO.none _
   | refine LeO.ite ?_ ?_
   | refine LeO.bind ?_ (fun _ => ?_)
  ·
   intro y0 y1 y2
   unfold spec_l01Dec.l1
   repeat' first
   | (with_reducible exact ih0 _ _ _)
   | (with_reducible exact ih1 _)
   | (with_reducible exact ih2 _ _ _)
   | (with_reducible exact LeO.refl _)
   | (with_reducible exact LeO.none _)
   | (with_reducible refine LeO.ite ?_ ?_)
   | (with_reducible refine LeO.bind ?_ (fun _ => ?_))
   | exact ih0 _ _ _
   | exact ih1 _
   | exact ih2 _ _ _
   | exact LeO.none _
   | refine LeO.ite ?_ ?_
   | refine LeO.bind ?_ (fun _ => ?_)
theorem spec_l01Dec.mono : ∀ a0 k, LeO (spec_l01Dec.f k a0) (spec_l01Dec.f (k + 1) a0) := by
 intro a0 k
 obtain ⟨ih0, ih1, ih2⟩ := spec_l01Dec.mono_l k
 unfold spec_l01Dec.f
 repeat' first
  | (with_reducible exact ih0 _ _ _)
  | (with_reducible exact ih1 _)
  | (with_reducible exact ih2 _ _ _)
  | (with_reducible exact LeO.refl _)
  | (with_reducible exact LeO.none _)
  | (with_reducible refine LeO.ite ?_ ?_)
  | (with_reducible refine LeO.bind ?_ (fun _ => ?_))
  | exact ih0 _ _ _
  | exact ih1 _
  | exact ih2 _ _ _
  | exact LeO.none _
  | refine LeO.ite ?_ ?_
  | refine LeO.bind ?_ (fun _ => ?_)
set_option maxHeartbeats 8000000 in
set_option maxRecDepth 100000 in
theorem spec_l01Dec.calls (k : Nat) (a0 : Int) (r : ByteArray) (w : World) (h : spec_l01Dec.f k a0 = some r) :
  Calls Try.prog 78 #[.int .i64 a0] w fun e w' => e = .returned (.string r) ∧ Below w.heap.size w w' := by
 have HB := Aside0.mk (Below.refl w.heap.size w)
 have H : (if a0 = 0 then (some (⟨#[48]⟩ : ByteArray)) else (spec_l01Dec.l0 k a0 (([] : List Int)) a0)) = some r := h
 clear h
 by_cases c2 : a0 = 0
 ·
  rw [if_pos c2] at H
  have c2b0 : (a0 == 0) = true := beq_iff_eq.mpr c2
  have c2b1 : (a0 != 0) = false := bne_eq_false_iff_eq.mpr c2
  clear c2
  obtain rfl := Option.some.inj H
  go_enter Try.func78, Try.ntmps78
  go_wp2
  go_ret
  exact ⟨by first | rfl | (simp [errW_none, errW_some] <;> rfl) | (simp [*, errW_none, errW_some] <;> rfl), mvB HB.out⟩
 ·
  rw [if_neg c2] at H
  have c2b0 : (a0 == 0) = false := beq_eq_false_iff_ne.mpr c2
  have c2b1 : (a0 != 0) = true := bne_iff_ne.mpr c2
  obtain ⟨y146, hy146⟩ : ∃ y_ : List Int, y_ = (([] : List Int)) := ⟨_, rfl⟩
  replace H : (spec_l01Dec.l0 k a0 y146 a0) = some r := by first | (rw [hy146]; with_reducible exact H) | (have H2_ := (Option.bind_some _ _).symm.trans H; rw [hy146]; with_reducible exact H2_) | (have H2_ := (Option.bind_some _ _).symm.trans H; with_reducible exact H2_) | with_reducible exact H | (rw [hy146]; exact H) | exact H
  have Ny146 := Aside0.mk hy146
  clear hy146
  have H' := Aside0.mk H
  clear H
  go_enter Try.func78, Try.ntmps78
  go_wp2_with (first | ((with_reducible refine gate_dst (N := 10) rfl ?_); refine Kd.R_lit (Kd.int .u8) _ 5 ?hg (N := 10) ?hd (xs := ([] : List Int)) (inner := []) (ok := fun _ => True) (okp := fun _ => True) ?hr ?hp (fun _ hk => hk) trivial (Below.refl _ _) (Nat.le_refl _) (by simp) ?_; (case hd => rfl); (case hg => rfl); (case hr => first | (go_simp; done) | (go_simp; rfl)); (case hp => exact (Reps.none _ _)); intro v147 w3 ho4 hb hg_ hnew_; clear hg_ hnew_; (first | rw [← Ny146.out] at ho4 | (simp only [Int.reduceToNat] at ho4; rw [← Ny146.out] at ho4)); have n0_ := Aside0.mk (Kd.R_lower ho4 (below_size (mvB HB.out))); have n1_ := Aside0.mk (below_step (mvB HB.out) hb); clear HB; revert n0_ n1_; intro HO148 HB; clear hb ho4))
  go_loopg [3, 4] k (fun kq v3 v4 w' => ∃ (x3_1 : List Int) (x4_1 : Int), v4 = .int .i64 x4_1 ∧ Aside0 (spec_l01Dec.l0 kq a0 x3_1 x4_1 = some r) ∧ Aside0 (kq ≤ k) ∧ Aside0 (Kd.R (Kd.int .u8) 5 w' w.heap.size (fun _ => True) v3 x3_1) ∧ Aside0 (Below w.heap.size w w'))
  case atStart => exact ⟨(y146), (a0), rs, H', ⟨Nat.le_refl _⟩, ⟨mv HO148.out⟩, ⟨mvB HB.out⟩⟩
  case round =>
   clear H'
   try clear c2b0
   try clear c2b1
   obtain ⟨x3_1, x4_1, rfl, HA, HK1, HO_3, HB⟩ := hrel
   cases gk with
   | zero => exact absurd HA.out (by simp [spec_l01Dec.l0])
   | succ k1 =>
    have H := HA.out
    clear HA
    simp only [spec_l01Dec.l0] at H
    by_cases c5 : x4_1 = 0
    ·
     rw [if_pos c5] at H
     have c5b0 : (x4_1 == 0) = true := beq_iff_eq.mpr c5
     have c5b1 : (x4_1 != 0) = false := bne_eq_false_iff_eq.mpr c5
     clear c5
     have HC6 := Aside0.mk H
     clear H
     go_upto_if 29 with (fail)
     go_cut [3] (fun v3 wc => ∃ (kq : Nat) (x3_5 : List Int), Aside0 (spec_l01Dec.j1 kq x3_5 = some r) ∧ Aside0 (kq ≤ k1) ∧ Aside0 (Kd.R (Kd.int .u8) 5 wc w.heap.size (fun _ => True) v3 x3_5) ∧ Aside0 (Below w.heap.size w wc))
     case first =>
      have H := HC6.out
      clear HC6
      by_cases c7 : a0 < 0
      ·
       rw [if_pos c7] at H
       have c7b0 : decide (a0 < 0) = true := decide_eq_true c7
       clear c7
       (first | rw [c7b0] | (simp only [i64_w, i32_w]; rw [c7b0]) | skip)
       by_cases c8 : x3_1.length < 140737488355328
       ·
        rw [if_pos c8] at H
        have LMc8 := Aside0.mk c8
        clear c8
        obtain ⟨y155, hy155⟩ : ∃ y_ : List Int, y_ = (x3_1 ++ [45]) := ⟨_, rfl⟩
        replace H : (spec_l01Dec.j1 k1 y155) = some r := by first | (rw [hy155]; with_reducible exact H) | (have H2_ := (Option.bind_some _ _).symm.trans H; rw [hy155]; with_reducible exact H2_) | (have H2_ := (Option.bind_some _ _).symm.trans H; with_reducible exact H2_) | with_reducible exact H | (rw [hy155]; exact H) | exact H
        have Ny155 := Aside0.mk hy155
        clear hy155
        have H' := Aside0.mk H
        clear H
        go_wp2_with (first | ((with_reducible refine gate_builtin (b := .append) (xs := #[.tmp 30, .tmp 31]) rfl ?_); at_builtin; refine Kd.R_append (Kd.int .u8) (w0 := w) w.heap.size rfl (.tmp 30) (.tmp 31) 22 5 (.int .u8 0) 1 rfl Try.underlying22 info5 rfl (by decide) (by omega) u3 x3_1 45 [.int .u8 45] (fun _ => True) (fun _ => False) rfl rfl ?aP (fun _ hk => hk.elim) ?aF ?aO ?aB ?aS ?aL ?_; (case aP => exact rfl); (case aB => exact (mvB HB.out)); (case aF => exact (fun _ _ => trivial)); (case aO => exact (mv HO_3.out)); (case aS => exact (below_size (mvB HB.out))); (case aL => have := LMc8.out; omega); intro v156 w9 ho hb hg hat; rw [← Ny155.out] at ho; have n0_ := Aside0.mk (hb); have n1_ := Aside0.mk (ho); clear HB HO_3; revert n0_ n1_; intro HB HO157; clear ho hb hg hat))
        go_meet
        case rel => exact ⟨_, (y155), H', ⟨by have := HK1.out; first | omega | exact Nat.le_refl _⟩, ⟨mv HO157.out⟩, ⟨mvB HB.out⟩⟩
       ·
        rw [if_neg c8] at H
        exact absurd H (by simp)
      ·
       rw [if_neg c7] at H
       have c7b0 : decide (a0 < 0) = false := decide_eq_false c7
       clear c7
       (first | rw [c7b0] | (simp only [i64_w, i32_w]; rw [c7b0]) | skip)
       have H' := Aside0.mk H
       clear H
       go_wp2
       go_meet
       case rel => exact ⟨_, (x3_1), H', ⟨by have := HK1.out; first | omega | exact Nat.le_refl _⟩, ⟨mv HO_3.out⟩, ⟨mvB HB.out⟩⟩
     case rest =>
      clear HC6
      try clear c2b0
      try clear c2b1
      try clear c5b0
      try clear c5b1
      obtain ⟨kq, x3_5, HA, HJ5, HO_3, HB⟩ := hcut
      cases kq with
      | zero => exact absurd HA.out (by simp [spec_l01Dec.j1])
      | succ kj5 =>
       have H := HA.out
       clear HA
       simp only [spec_l01Dec.j1] at H
       obtain ⟨y158, hy158⟩ : ∃ y_ : List Int, y_ = (([] : List Int)) := ⟨_, rfl⟩
       replace H : (spec_l01Dec.l1 kj5 x3_5 y158 (wrap64 ((x3_5.length : Int) - 1))) = some r := by first | (rw [hy158]; with_reducible exact H) | (have H2_ := (Option.bind_some _ _).symm.trans H; rw [hy158]; with_reducible exact H2_) | (have H2_ := (Option.bind_some _ _).symm.trans H; with_reducible exact H2_) | with_reducible exact H | (rw [hy158]; exact H) | exact H
       have Ny158 := Aside0.mk hy158
       clear hy158
       have H' := Aside0.mk H
       clear H
       go_wp2_with (first | ((with_reducible refine gate_dst (N := 33) rfl ?_); refine Kd.R_lit (Kd.int .u8) _ 5 ?hg (N := 33) ?hd (xs := ([] : List Int)) (inner := []) (ok := fun _ => True) (okp := fun _ => True) ?hr ?hp (fun _ hk => hk) trivial (Below.refl _ _) (Nat.le_refl _) (by simp) ?_; (case hd => rfl); (case hg => rfl); (case hr => first | (go_simp; done) | (go_simp; rfl)); (case hp => exact (Reps.none _ _)); intro v159 w10 ho11 hb hg_ hnew_; clear hg_ hnew_; (first | rw [← Ny158.out] at ho11 | (simp only [Int.reduceToNat] at ho11; rw [← Ny158.out] at ho11)); have n0_ := Aside0.mk (Kd.R_elder' (mv HO_3.out) (Kd.R_base ho11) hb); have n1_ := Aside0.mk (Kd.R_lower (Kd.R_new' ho11 (Kd.R_lt (mv HO_3.out))) (below_size (mvB HB.out))); have n2_ := Aside0.mk (below_step (mvB HB.out) hb); clear HO_3 HB; revert n0_ n1_ n2_; intro HO_3 HO160 HB; clear hb ho11; obtain ⟨Ao12, co12, eo12⟩ := Kd.R_slice HO_3.out; subst eo12))
       go_loopg [6, 7] kj5 (fun kq v6 v7 w' => ∃ (x6_3 : List Int) (x7_3 : Int), v7 = .int .i64 x7_3 ∧ Aside0 (spec_l01Dec.l1 kq x3_5 x6_3 x7_3 = some r) ∧ Aside0 (kq ≤ kj5) ∧ Aside0 (Kd.R (Kd.int .u8) 5 w' w.heap.size (fun k_ => some k_ ≠ (v6 : Value).ownBlock) (.slice Ao12 x3_5.length co12) x3_5) ∧ Aside0 (Kd.R (Kd.int .u8) 5 w' w.heap.size (fun k_ => some k_ ≠ ((.slice Ao12 x3_5.length co12) : Value).ownBlock) v6 x6_3) ∧ Aside0 (Below w.heap.size w w'))
       case atStart => exact ⟨(y158), (wrap64 ((x3_5.length : Int) - 1)), rs, H', ⟨Nat.le_refl _⟩, ⟨by (with_reducible repeat (first | apply Kd.R_alloc | apply Kd.R_drewN | apply Kd.R_drew)); exact Kd.R_mono HO_3.out (fun _ hk => hk.2)⟩, ⟨by (with_reducible repeat (first | apply Kd.R_alloc | apply Kd.R_drewN | apply Kd.R_drew)); exact Kd.R_mono HO160.out (fun _ hk => hk.2)⟩, ⟨mvB HB.out⟩⟩
       case round =>
        clear H'
        try clear c2b0
        try clear c2b1
        try clear c5b0
        try clear c5b1
        obtain ⟨x6_3, x7_3, rfl, HA, HK3, HO_3, HO_6, HB⟩ := hrel
        cases gk with
        | zero => exact absurd HA.out (by simp [spec_l01Dec.l1])
        | succ k3 =>
         have H := HA.out
         clear HA
         simp only [spec_l01Dec.l1] at H
         by_cases c13 : x7_3 ≥ 0
         ·
          rw [if_pos c13] at H
          have c13b0 : decide (0 ≤ x7_3) = true := decide_eq_true c13
          clear c13
          by_cases c14 : 0 ≤ x7_3
          ·
           rw [if_pos c14] at H
           have c14b0 : decide (0 ≤ x7_3) = true := decide_eq_true c14
           clear c14
           by_cases c15 : x7_3 < (x3_5.length : Int)
           ·
            rw [if_pos c15] at H
            have c15b0 : decide (x7_3 < (x3_5.length : Int)) = true := decide_eq_true c15
            clear c15
            by_cases c16 : x6_3.length < 140737488355328
            ·
             rw [if_pos c16] at H
             have LMc16 := Aside0.mk c16
             clear c16
             obtain ⟨y162, hy162⟩ : ∃ y_ : List Int, y_ = (x6_3 ++ [rd x3_5 x7_3]) := ⟨_, rfl⟩
             replace H : (spec_l01Dec.l1 k3 x3_5 y162 (wrap64 (x7_3 - 1))) = some r := by first | (rw [hy162]; with_reducible exact H) | (have H2_ := (Option.bind_some _ _).symm.trans H; rw [hy162]; with_reducible exact H2_) | (have H2_ := (Option.bind_some _ _).symm.trans H; with_reducible exact H2_) | with_reducible exact H | (rw [hy162]; exact H) | exact H
             have Ny162 := Aside0.mk hy162
             clear hy162
             have H' := Aside0.mk H
             clear H
             have p161 : 0 ≤ (x7_3 : Int) := od
             have q161 : x7_3 < (x3_5.length : Int) := od
             obtain ⟨ad161, e161, hx161_0⟩ := Kd.at_int (Kd.R_reads' HO_3.out).2.2 x7_3 p161 q161
             cases e161
             replace p161 := eq_true p161
             replace q161 := eq_true q161
             go_wp2_with (first | ((with_reducible refine gate_builtin (b := .append) (xs := #[.tmp 41, .tmp 46]) rfl ?_); at_builtin; refine Kd.R_append (Kd.int .u8) (w0 := w) w.heap.size rfl (.tmp 41) (.tmp 46) 22 5 (.int .u8 0) 1 rfl Try.underlying22 info5 rfl (by decide) (by omega) u6 x6_3 (rd x3_5 x7_3) [.int .u8 (rd x3_5 x7_3)] (fun k_ => some k_ ≠ (.slice (some ad161) x3_5.length co12 : Value).ownBlock) (fun _ => False) rfl rfl ?aP (fun _ hk => hk.elim) ?aF ?aO ?aB ?aS ?aL ?_; (case aP => exact rfl); (case aB => exact (mvB HB.out)); (case aF => exact (fun k_ hk => Kd.fresh' (Kd.R_lt (mv HO_3.out)) k_ hk)); (case aO => exact (mv HO_6.out)); (case aS => exact (below_size (mvB HB.out))); (case aL => have := LMc16.out; omega); intro v163 w17 ho hb hg hat; rw [← Ny162.out] at ho; have n0_ := Aside0.mk (Kd.R_after (ok := (fun _ => True)) (by (with_reducible repeat (first | apply Kd.R_alloc | apply Kd.R_drewN | apply Kd.R_drew)); exact Kd.R_mono HO_3.out (fun _ hk => ⟨trivial, hk⟩)) hg hat); have n1_ := Aside0.mk (hb); have n2_ := Aside0.mk (ho); clear HO_3 HB HO_6; revert n0_ n1_ n2_; intro HO_3 HB HO164; clear ho hb hg hat))
             go_roundg k3
             case measure => have := HK1.out; have := HJ5.out; have := HK3.out; omega
             case rel => exact ⟨(y162), (wrap64 (x7_3 - 1)), rs, H', ⟨by have := HK1.out; have := HJ5.out; have := HK3.out; omega⟩, ⟨by (with_reducible repeat (first | apply Kd.R_alloc | apply Kd.R_drewN | apply Kd.R_drew)); exact Kd.R_mono HO_3.out (fun _ hk => hk.2)⟩, ⟨mv HO164.out⟩, ⟨mvB HB.out⟩⟩
            ·
             rw [if_neg c16] at H
             exact absurd H (by simp)
           ·
            rw [if_neg c15] at H
            exact absurd H (by simp)
          ·
           rw [if_neg c14] at H
           exact absurd H (by simp)
         ·
          rw [if_neg c13] at H
          have c13b0 : decide (0 ≤ x7_3) = false := decide_eq_false c13
          clear c13
          obtain rfl := Option.some.inj H
          have hcv18 := own_string (P := Try.prog) Try.underlying22 Try.underlying5 Try.underlying9 (Kd.own_of_R HO_6.out)
          go_wp2
          go_ret
          exact ⟨by first | rfl | (simp [errW_none, errW_some] <;> rfl) | (simp [*, errW_none, errW_some] <;> rfl), mvB HB.out⟩
    ·
     rw [if_neg c5] at H
     have c5b0 : (x4_1 == 0) = false := beq_eq_false_iff_ne.mpr c5
     have c5b1 : (x4_1 != 0) = true := bne_iff_ne.mpr c5
     by_cases c19 : (Int.tmod x4_1 10) < 0
     ·
      rw [if_pos c19] at H
      have c19b0 : decide ((Int.tmod x4_1 10) < 0) = true := decide_eq_true c19
      clear c19
      by_cases c20 : x3_1.length < 140737488355328
      ·
       rw [if_pos c20] at H
       have LMc20 := Aside0.mk c20
       clear c20
       obtain ⟨y149, hy149⟩ : ∃ y_ : List Int, y_ = (x3_1 ++ [(wrap64 (48 + (wrap64 (-(Int.tmod x4_1 10))))) % 256]) := ⟨_, rfl⟩
       replace H : (spec_l01Dec.l0 k1 a0 y149 (wrap64 (Int.tdiv x4_1 10))) = some r := by first | (rw [hy149]; with_reducible exact H) | (have H2_ := (Option.bind_some _ _).symm.trans H; rw [hy149]; with_reducible exact H2_) | (have H2_ := (Option.bind_some _ _).symm.trans H; with_reducible exact H2_) | with_reducible exact H | (rw [hy149]; exact H) | exact H
       have Ny149 := Aside0.mk hy149
       clear hy149
       have H' := Aside0.mk H
       clear H
       go_wp2_with (first | ((with_reducible refine gate_builtin (b := .append) (xs := #[.tmp 22, .tmp 26]) rfl ?_); at_builtin; refine Kd.R_append (Kd.int .u8) (w0 := w) w.heap.size rfl (.tmp 22) (.tmp 26) 22 5 (.int .u8 0) 1 rfl Try.underlying22 info5 rfl (by decide) (by omega) u3 x3_1 ((wrap64 (48 + (wrap64 (-(Int.tmod x4_1 10))))) % 256) [.int .u8 ((wrap64 (48 + (wrap64 (-(Int.tmod x4_1 10))))) % 256)] (fun _ => True) (fun _ => False) rfl rfl ?aP (fun _ hk => hk.elim) ?aF ?aO ?aB ?aS ?aL ?_; (case aP => exact rfl); (case aB => exact (mvB HB.out)); (case aF => exact (fun _ _ => trivial)); (case aO => exact (mv HO_3.out)); (case aS => exact (below_size (mvB HB.out))); (case aL => have := LMc20.out; omega); intro v150 w21 ho hb hg hat; rw [← Ny149.out] at ho; have n0_ := Aside0.mk (hb); have n1_ := Aside0.mk (ho); clear HB HO_3; revert n0_ n1_; intro HB HO151; clear ho hb hg hat))
       go_roundg k1
       case measure => have := HK1.out; omega
       case rel => exact ⟨(y149), (wrap64 (Int.tdiv x4_1 10)), rs, H', ⟨by have := HK1.out; omega⟩, ⟨mv HO151.out⟩, ⟨mvB HB.out⟩⟩
      ·
       rw [if_neg c20] at H
       exact absurd H (by simp)
     ·
      rw [if_neg c19] at H
      have c19b0 : decide ((Int.tmod x4_1 10) < 0) = false := decide_eq_false c19
      clear c19
      by_cases c22 : x3_1.length < 140737488355328
      ·
       rw [if_pos c22] at H
       have LMc22 := Aside0.mk c22
       clear c22
       obtain ⟨y152, hy152⟩ : ∃ y_ : List Int, y_ = (x3_1 ++ [(wrap64 (48 + (Int.tmod x4_1 10))) % 256]) := ⟨_, rfl⟩
       replace H : (spec_l01Dec.l0 k1 a0 y152 (wrap64 (Int.tdiv x4_1 10))) = some r := by first | (rw [hy152]; with_reducible exact H) | (have H2_ := (Option.bind_some _ _).symm.trans H; rw [hy152]; with_reducible exact H2_) | (have H2_ := (Option.bind_some _ _).symm.trans H; with_reducible exact H2_) | with_reducible exact H | (rw [hy152]; exact H) | exact H
       have Ny152 := Aside0.mk hy152
       clear hy152
       have H' := Aside0.mk H
       clear H
       go_wp2_with (first | ((with_reducible refine gate_builtin (b := .append) (xs := #[.tmp 22, .tmp 26]) rfl ?_); at_builtin; refine Kd.R_append (Kd.int .u8) (w0 := w) w.heap.size rfl (.tmp 22) (.tmp 26) 22 5 (.int .u8 0) 1 rfl Try.underlying22 info5 rfl (by decide) (by omega) u3 x3_1 ((wrap64 (48 + (Int.tmod x4_1 10))) % 256) [.int .u8 ((wrap64 (48 + (Int.tmod x4_1 10))) % 256)] (fun _ => True) (fun _ => False) rfl rfl ?aP (fun _ hk => hk.elim) ?aF ?aO ?aB ?aS ?aL ?_; (case aP => exact rfl); (case aB => exact (mvB HB.out)); (case aF => exact (fun _ _ => trivial)); (case aO => exact (mv HO_3.out)); (case aS => exact (below_size (mvB HB.out))); (case aL => have := LMc22.out; omega); intro v153 w23 ho hb hg hat; rw [← Ny152.out] at ho; have n0_ := Aside0.mk (hb); have n1_ := Aside0.mk (ho); clear HB HO_3; revert n0_ n1_; intro HB HO154; clear ho hb hg hat))
       go_roundg k1
       case measure => have := HK1.out; omega
       case rel => exact ⟨(y152), (wrap64 (Int.tdiv x4_1 10)), rs, H', ⟨by have := HK1.out; omega⟩, ⟨mv HO154.out⟩, ⟨mvB HB.out⟩⟩
      ·
       rw [if_neg c22] at H
       exact absurd H (by simp)

/-! ### spec_l00Src_text: function 79 -/
def spec_l00Src_text.f (s0_0 : List Int) (s0_1 : Int) (s0_2 : Int) (l1 : List ByteArray) : Option (ByteArray × Int × Int) := (spec_l00Src_pick.f s0_0 s0_1 s0_2 (l1.length : Int)).bind fun bt165 => (if 0 ≤ bt165.1 then (if bt165.1 < (l1.length : Int) then (some (rdOf ByteArray.empty l1 bt165.1, bt165.2.1, bt165.2.2)) else (none)) else (none))
set_option maxHeartbeats 8000000 in
set_option maxRecDepth 100000 in
theorem spec_l00Src_text.calls (g : Nat) (s0_0 : List Int) (s0_1 : Int) (s0_2 : Int) (A1 : Option Addr) (c1 : Nat) (l1 : List ByteArray) (r1 : ByteArray) (r2 : Int) (r3 : Int) (w0 w : World) (hI : IsS103 w0 w g s0_0 s0_1 s0_2) (hB : Below w0.heap.size w0 w) (hr1 : Kd.C Kd.string w A1 l1.length l1) (hc1 : l1.length ≤ c1) (hf1 : ∀ ad, A1 = some ad → 0 < l1.length → ad.block ≠ g) (h : spec_l00Src_text.f s0_0 s0_1 s0_2 l1 = some (r1, r2, r3)) :
  Calls Try.prog 79 #[.pointer (some ⟨g, 0, none⟩), .slice A1 l1.length c1] w fun e w' => e = .returned (.string r1) ∧ IsS103 w0 w' g s0_0 r2 r3 ∧ Below w0.heap.size w0 w' ∧ KeepBut w w' g none := by
 have HR1 := Aside0.mk hr1
 have HC1 := Aside0.mk hc1
 clear hr1 hc1
 have HI0 := Aside0.mk hI
 have HK := Aside0.mk (KeepBut.refl w g none)
 have HL := Aside0.mk hB.size
 clear hI
 have HW0 := Aside0.mk hB.size
 have HB := Aside0.mk hB
 clear hB
 have H : ((spec_l00Src_pick.f s0_0 s0_1 s0_2 (l1.length : Int)).bind fun bt165 => (if 0 ≤ bt165.1 then (if bt165.1 < (l1.length : Int) then (some (rdOf ByteArray.empty l1 bt165.1, bt165.2.1, bt165.2.2)) else (none)) else (none))) = some (r1, r2, r3) := h
 clear h
 replace H := Option.bind_eq_some_iff.mp H
 obtain ⟨⟨t165, t166, t167⟩, A30, H⟩ := H
 replace H : (if 0 ≤ t165 then (if t165 < (l1.length : Int) then (some (rdOf ByteArray.empty l1 t165, t166, t167)) else (none)) else (none)) = some (r1, r2, r3) := H
 have A3 := Aside0.mk A30
 clear A30
 by_cases c4 : 0 ≤ t165
 ·
  rw [if_pos c4] at H
  have c4b0 : decide (0 ≤ t165) = true := decide_eq_true c4
  clear c4
  by_cases c5 : t165 < (l1.length : Int)
  ·
   rw [if_pos c5] at H
   have c5b0 : decide (t165 < (l1.length : Int)) = true := decide_eq_true c5
   clear c5
   simp only [Option.some.injEq, Prod.mk.injEq] at H
   obtain ⟨rfl, rfl, rfl⟩ := H
   go_enter Try.func79, Try.ntmps79
   go_wp2_with (first | ((with_reducible refine gate_callee (f := 77) rfl ?_); refine goesA_ (some 9) Try.func77 #[.pointer (some ⟨g, 0, none⟩), .int .i64 (l1.length : Int)] ?_; (with_reducible refine (spec_l00Src_pick.calls g s0_0 s0_1 s0_2 (l1.length : Int) t165 t166 t167 w0 _ ?side1 ?side2 A3.out).mono ?_); (case side1 => repeat (first | (with_reducible first | exact HI0.out | apply IsS103.alloc | apply IsS103.drewN | apply IsS103.drew | apply IsS103.set_1 | apply IsS103.set_2) | exact HI0.out)); (case side2 => repeat (first | (with_reducible first | exact HB.out | apply below_alloc | apply pw_below_drewN | apply below_drew1 | refine below_set ?_ (IsS103.ge HI0.out)) | exact HB.out)); rintro e w6 ⟨rfl, hi, hb, hk⟩; refine ⟨_, rfl, ?_⟩; have n0_ := Aside0.mk (KeepBut.trans (mvK HK.out) hk (.inl rfl)); have n1_ := Aside0.mk (hb); have n2_ := Aside0.mk (hi); clear HK HB HI0; revert n0_ n1_ n2_; intro HK HB HI0; (try clear hb); (try clear hk); (try clear hi); have p168 : 0 ≤ (t165 : Int) := od; have q168 : t165 < (l1.length : Int) := od; obtain ⟨ad168, e168, hx168_0⟩ := Kd.at_string HR1.out t165 p168 q168; cases e168; replace hx168_0 := keep_cell HK.out hx168_0 (by first | (rw [add_block]; exact hf1 _ rfl (by omega)) | exact hf1 _ rfl (by omega) | exact hf1 ad168 rfl (by omega)); replace p168 := eq_true p168; replace q168 := eq_true q168))
   go_ret
   exact ⟨by first | rfl | (simp [errW_none, errW_some] <;> rfl) | (simp [*, errW_none, errW_some] <;> rfl), by repeat (first | (with_reducible first | exact HI0.out | apply IsS103.alloc | apply IsS103.drewN | apply IsS103.drew | apply IsS103.set_1 | apply IsS103.set_2) | exact HI0.out), by repeat (first | (with_reducible first | exact HB.out | apply below_alloc | apply pw_below_drewN | apply below_drew1 | refine below_set ?_ (IsS103.ge HI0.out)) | exact HB.out), mvK HK.out⟩
  ·
   rw [if_neg c5] at H
   exact absurd H (by simp)
 ·
  rw [if_neg c4] at H
  exact absurd H (by simp)

/-! ### spec_l24Draw: function 38 -/
def spec_l24Draw.l0 : Nat → List (S34) → Int → Int → List Int → Int → Int → Option ((List (S34)) × Int × Int)
 | 0, _, _, _, _, _, _ => none
 | k + 1, x3, x5, x6, x1000, x1001, x1002 => if x6 < x5 then ((spec_l01Dec.f k x6).bind fun t211 => (if 1 + t211.size ≤ 9223372036854775807 then (if x3.length < 2513169434916 then (spec_l24Draw.l0 k (x3 ++ [(⟨(⟨#[110]⟩ : ByteArray) ++ t211, 10, x6, ([] : List ByteArray)⟩ : S34)]) x5 (wrap64 (x6 + 1)) x1000 x1001 x1002) else (none)) else (none))) else (some (x3, x1001, x1002))
def spec_l24Draw.f (k : Nat) (s0_0 : List Int) (s0_1 : Int) (s0_2 : Int) : Option ((List (S34)) × Int × Int) := (spec_l24DrawOk.f k s0_0 s0_1 s0_2).bind fun bt169 => ((spec_l00Src_pick.f s0_0 bt169.2.1 bt169.2.2 20).bind fun bt174 => (if bt174.1 = 0 then (if (bt169.1.length : Int) > 0 then ((spec_l00Src_pick.f s0_0 bt174.2.1 bt174.2.2 (bt169.1.length : Int)).bind fun bt177 => ((spec_l00Src_among.f s0_0 bt177.2.1 bt177.2.2 (([0, 1, 1000000, 1000001] : List Int))).bind fun bt183 => (if 0 ≤ bt177.1 then (if bt177.1 < (bt169.1.length : Int) then (some ((bt169.1.set (bt177.1 : Int).toNat (⟨(rd_T34 bt169.1 bt177.1).f0, bt183.1, (rd_T34 bt169.1 bt177.1).f2, (rd_T34 bt169.1 bt177.1).f3⟩ : S34)), bt183.2.1, bt183.2.2)) else (none)) else (none)))) else (some (bt169.1, bt174.2.1, bt174.2.2))) else (if bt174.1 = 1 then (if (bt169.1.length : Int) > 0 then ((spec_l00Src_pick.f s0_0 bt174.2.1 bt174.2.2 (bt169.1.length : Int)).bind fun bt187 => ((spec_l00Src_among.f s0_0 bt187.2.1 bt187.2.2 (([(-1), 1000000, 1000001] : List Int))).bind fun bt193 => (if 0 ≤ bt187.1 then (if bt187.1 < (bt169.1.length : Int) then (some ((bt169.1.set (bt187.1 : Int).toNat (⟨(rd_T34 bt169.1 bt187.1).f0, (rd_T34 bt169.1 bt187.1).f1, bt193.1, (rd_T34 bt169.1 bt187.1).f3⟩ : S34)), bt193.2.1, bt193.2.2)) else (none)) else (none)))) else (some (bt169.1, bt174.2.1, bt174.2.2))) else (if bt174.1 = 2 then (if (bt169.1.length : Int) > 1 then (if 0 ≤ (wrap64 ((bt169.1.length : Int) - 1)) then (if (wrap64 ((bt169.1.length : Int) - 1)) < (bt169.1.length : Int) then (if 0 < (bt169.1.length : Int) then (some ((bt169.1.set (0 : Int).toNat (⟨(rd_T34 bt169.1 0).f0, (rd_T34 bt169.1 0).f1, (rd_T34 bt169.1 0).f2, (([(rd_T34 bt169.1 (wrap64 ((bt169.1.length : Int) - 1))).f0] : List ByteArray))⟩ : S34)), bt174.2.1, bt174.2.2)) else (none)) else (none)) else (none)) else (some (bt169.1, bt174.2.1, bt174.2.2))) else (if bt174.1 = 3 then ((spec_l00Src_among.f s0_0 bt174.2.1 bt174.2.2 (([8, 9] : List Int))).bind fun bt205 => (spec_l24Draw.l0 k (([] : List (S34))) bt205.1 0 s0_0 bt205.2.1 bt205.2.2)) else (if bt174.1 = 4 then (if (bt169.1.length : Int) > 0 then ((spec_l00Src_text.f s0_0 bt174.2.1 bt174.2.2 (([(⟨#[122, 122]⟩ : ByteArray), (⟨#[97, 114, 109]⟩ : ByteArray), (⟨#[]⟩ : ByteArray)] : List ByteArray))).bind fun bt218 => (if 0 < (bt169.1.length : Int) then (some ((bt169.1.set (0 : Int).toNat (⟨(rd_T34 bt169.1 0).f0, (rd_T34 bt169.1 0).f1, (rd_T34 bt169.1 0).f2, (([bt218.1] : List ByteArray))⟩ : S34)), bt218.2.1, bt218.2.2)) else (none))) else (some (bt169.1, bt174.2.1, bt174.2.2))) else (some (bt169.1, bt174.2.1, bt174.2.2))))))))
theorem spec_l24Draw.mono_l : ∀ k, (∀ y0 y1 y2 y3 y4 y5, LeO (spec_l24Draw.l0 k y0 y1 y2 y3 y4 y5) (spec_l24Draw.l0 (k + 1) y0 y1 y2 y3 y4 y5))
 | 0 => fun _ _ _ _ _ _ r h => by simp [spec_l24Draw.l0] at h
 | k + 1 => by
  have ih0 := spec_l24Draw.mono_l k
  ·
   intro y0 y1 y2 y3 y4 y5
   unfold spec_l24Draw.l0
   repeat' first
   | (with_reducible exact ih0 _ _ _ _ _ _)
   | (with_reducible exact spec_l01Dec.mono _ _)
   | (with_reducible exact spec_l24DrawOk.mono _ _ _ _)
   | (with_reducible exact LeO.refl _)
   | (with_reducible exact LeO.none _)
   | (with_reducible refine LeO.ite ?_ ?_)
   | (with_reducible refine LeO.bind ?_ (fun _ => ?_))
   | exact ih0 _ _ _ _ _ _
   | exact spec_l01Dec.mono _ _
   | exact spec_l24DrawOk.mono _ _ _ _
   | exact LeO.none _
   | refine LeO.ite ?_ ?_
   | refine LeO.bind ?_ (fun _ => ?_)
theorem spec_l24Draw.mono : ∀ a0 a1 a2 k, LeO (spec_l24Draw.f k a0 a1 a2) (spec_l24Draw.f (k + 1) a0 a1 a2) := by
 intro a0 a1 a2 k
 have ih0 := spec_l24Draw.mono_l k
 unfold spec_l24Draw.f
 repeat' first
  | (with_reducible exact ih0 _ _ _ _ _ _)
  | (with_reducible exact spec_l01Dec.mono _ _)
  | (with_reducible exact spec_l24DrawOk.mono _ _ _ _)
  | (with_reducible exact LeO.refl _)
  | (with_reducible exact LeO.none _)
  | (with_reducible refine LeO.ite ?_ ?_)
  | (with_reducible refine LeO.bind ?_ (fun _ => ?_))
  | exact ih0 _ _ _ _ _ _
  | exact spec_l01Dec.mono _ _
  | exact spec_l24DrawOk.mono _ _ _ _
  | exact LeO.none _
  | refine LeO.ite ?_ ?_
  | refine LeO.bind ?_ (fun _ => ?_)
set_option maxHeartbeats 8000000 in
set_option maxRecDepth 100000 in
theorem spec_l24Draw.calls (k : Nat) (g : Nat) (s0_0 : List Int) (s0_1 : Int) (s0_2 : Int) (r1 : List (S34)) (r2 : Int) (r3 : Int) (w0 w : World) (hI : IsS103 w0 w g s0_0 s0_1 s0_2) (hB : Below w0.heap.size w0 w) (h : spec_l24Draw.f k s0_0 s0_1 s0_2 = some (r1, r2, r3)) :
  Calls Try.prog 38 #[.pointer (some ⟨g, 0, none⟩)] w fun e w' => ∃ v0_ : Value, e = .returned (v0_) ∧ Kd.S k34 34 w' w.heap.size (fun _ => True) v0_ r1 ∧ IsS103 w0 w' g s0_0 r2 r3 ∧ Below w0.heap.size w0 w' ∧ KeepBut w w' g none := by
 have hu34 := Try.underlying34
 have HI0 := Aside0.mk hI
 have HK := Aside0.mk (KeepBut.refl w g none)
 have HL := Aside0.mk hB.size
 clear hI
 have HW0 := Aside0.mk hB.size
 have HB := Aside0.mk hB
 clear hB
 have H : ((spec_l24DrawOk.f k s0_0 s0_1 s0_2).bind fun bt169 => ((spec_l00Src_pick.f s0_0 bt169.2.1 bt169.2.2 20).bind fun bt174 => (if bt174.1 = 0 then (if (bt169.1.length : Int) > 0 then ((spec_l00Src_pick.f s0_0 bt174.2.1 bt174.2.2 (bt169.1.length : Int)).bind fun bt177 => ((spec_l00Src_among.f s0_0 bt177.2.1 bt177.2.2 (([0, 1, 1000000, 1000001] : List Int))).bind fun bt183 => (if 0 ≤ bt177.1 then (if bt177.1 < (bt169.1.length : Int) then (some ((bt169.1.set (bt177.1 : Int).toNat (⟨(rd_T34 bt169.1 bt177.1).f0, bt183.1, (rd_T34 bt169.1 bt177.1).f2, (rd_T34 bt169.1 bt177.1).f3⟩ : S34)), bt183.2.1, bt183.2.2)) else (none)) else (none)))) else (some (bt169.1, bt174.2.1, bt174.2.2))) else (if bt174.1 = 1 then (if (bt169.1.length : Int) > 0 then ((spec_l00Src_pick.f s0_0 bt174.2.1 bt174.2.2 (bt169.1.length : Int)).bind fun bt187 => ((spec_l00Src_among.f s0_0 bt187.2.1 bt187.2.2 (([(-1), 1000000, 1000001] : List Int))).bind fun bt193 => (if 0 ≤ bt187.1 then (if bt187.1 < (bt169.1.length : Int) then (some ((bt169.1.set (bt187.1 : Int).toNat (⟨(rd_T34 bt169.1 bt187.1).f0, (rd_T34 bt169.1 bt187.1).f1, bt193.1, (rd_T34 bt169.1 bt187.1).f3⟩ : S34)), bt193.2.1, bt193.2.2)) else (none)) else (none)))) else (some (bt169.1, bt174.2.1, bt174.2.2))) else (if bt174.1 = 2 then (if (bt169.1.length : Int) > 1 then (if 0 ≤ (wrap64 ((bt169.1.length : Int) - 1)) then (if (wrap64 ((bt169.1.length : Int) - 1)) < (bt169.1.length : Int) then (if 0 < (bt169.1.length : Int) then (some ((bt169.1.set (0 : Int).toNat (⟨(rd_T34 bt169.1 0).f0, (rd_T34 bt169.1 0).f1, (rd_T34 bt169.1 0).f2, (([(rd_T34 bt169.1 (wrap64 ((bt169.1.length : Int) - 1))).f0] : List ByteArray))⟩ : S34)), bt174.2.1, bt174.2.2)) else (none)) else (none)) else (none)) else (some (bt169.1, bt174.2.1, bt174.2.2))) else (if bt174.1 = 3 then ((spec_l00Src_among.f s0_0 bt174.2.1 bt174.2.2 (([8, 9] : List Int))).bind fun bt205 => (spec_l24Draw.l0 k (([] : List (S34))) bt205.1 0 s0_0 bt205.2.1 bt205.2.2)) else (if bt174.1 = 4 then (if (bt169.1.length : Int) > 0 then ((spec_l00Src_text.f s0_0 bt174.2.1 bt174.2.2 (([(⟨#[122, 122]⟩ : ByteArray), (⟨#[97, 114, 109]⟩ : ByteArray), (⟨#[]⟩ : ByteArray)] : List ByteArray))).bind fun bt218 => (if 0 < (bt169.1.length : Int) then (some ((bt169.1.set (0 : Int).toNat (⟨(rd_T34 bt169.1 0).f0, (rd_T34 bt169.1 0).f1, (rd_T34 bt169.1 0).f2, (([bt218.1] : List ByteArray))⟩ : S34)), bt218.2.1, bt218.2.2)) else (none))) else (some (bt169.1, bt174.2.1, bt174.2.2))) else (some (bt169.1, bt174.2.1, bt174.2.2))))))))) = some (r1, r2, r3) := h
 clear h
 replace H := Option.bind_eq_some_iff.mp H
 obtain ⟨⟨t169, t172, t173⟩, A20, H⟩ := H
 replace H : ((spec_l00Src_pick.f s0_0 t172 t173 20).bind fun bt174 => (if bt174.1 = 0 then (if (t169.length : Int) > 0 then ((spec_l00Src_pick.f s0_0 bt174.2.1 bt174.2.2 (t169.length : Int)).bind fun bt177 => ((spec_l00Src_among.f s0_0 bt177.2.1 bt177.2.2 (([0, 1, 1000000, 1000001] : List Int))).bind fun bt183 => (if 0 ≤ bt177.1 then (if bt177.1 < (t169.length : Int) then (some ((t169.set (bt177.1 : Int).toNat (⟨(rd_T34 t169 bt177.1).f0, bt183.1, (rd_T34 t169 bt177.1).f2, (rd_T34 t169 bt177.1).f3⟩ : S34)), bt183.2.1, bt183.2.2)) else (none)) else (none)))) else (some (t169, bt174.2.1, bt174.2.2))) else (if bt174.1 = 1 then (if (t169.length : Int) > 0 then ((spec_l00Src_pick.f s0_0 bt174.2.1 bt174.2.2 (t169.length : Int)).bind fun bt187 => ((spec_l00Src_among.f s0_0 bt187.2.1 bt187.2.2 (([(-1), 1000000, 1000001] : List Int))).bind fun bt193 => (if 0 ≤ bt187.1 then (if bt187.1 < (t169.length : Int) then (some ((t169.set (bt187.1 : Int).toNat (⟨(rd_T34 t169 bt187.1).f0, (rd_T34 t169 bt187.1).f1, bt193.1, (rd_T34 t169 bt187.1).f3⟩ : S34)), bt193.2.1, bt193.2.2)) else (none)) else (none)))) else (some (t169, bt174.2.1, bt174.2.2))) else (if bt174.1 = 2 then (if (t169.length : Int) > 1 then (if 0 ≤ (wrap64 ((t169.length : Int) - 1)) then (if (wrap64 ((t169.length : Int) - 1)) < (t169.length : Int) then (if 0 < (t169.length : Int) then (some ((t169.set (0 : Int).toNat (⟨(rd_T34 t169 0).f0, (rd_T34 t169 0).f1, (rd_T34 t169 0).f2, (([(rd_T34 t169 (wrap64 ((t169.length : Int) - 1))).f0] : List ByteArray))⟩ : S34)), bt174.2.1, bt174.2.2)) else (none)) else (none)) else (none)) else (some (t169, bt174.2.1, bt174.2.2))) else (if bt174.1 = 3 then ((spec_l00Src_among.f s0_0 bt174.2.1 bt174.2.2 (([8, 9] : List Int))).bind fun bt205 => (spec_l24Draw.l0 k (([] : List (S34))) bt205.1 0 s0_0 bt205.2.1 bt205.2.2)) else (if bt174.1 = 4 then (if (t169.length : Int) > 0 then ((spec_l00Src_text.f s0_0 bt174.2.1 bt174.2.2 (([(⟨#[122, 122]⟩ : ByteArray), (⟨#[97, 114, 109]⟩ : ByteArray), (⟨#[]⟩ : ByteArray)] : List ByteArray))).bind fun bt218 => (if 0 < (t169.length : Int) then (some ((t169.set (0 : Int).toNat (⟨(rd_T34 t169 0).f0, (rd_T34 t169 0).f1, (rd_T34 t169 0).f2, (([bt218.1] : List ByteArray))⟩ : S34)), bt218.2.1, bt218.2.2)) else (none))) else (some (t169, bt174.2.1, bt174.2.2))) else (some (t169, bt174.2.1, bt174.2.2)))))))) = some (r1, r2, r3) := H
 have A2 := Aside0.mk A20
 clear A20
 replace H := Option.bind_eq_some_iff.mp H
 obtain ⟨⟨t174, t175, t176⟩, A30, H⟩ := H
 replace H : (if t174 = 0 then (if (t169.length : Int) > 0 then ((spec_l00Src_pick.f s0_0 t175 t176 (t169.length : Int)).bind fun bt177 => ((spec_l00Src_among.f s0_0 bt177.2.1 bt177.2.2 (([0, 1, 1000000, 1000001] : List Int))).bind fun bt183 => (if 0 ≤ bt177.1 then (if bt177.1 < (t169.length : Int) then (some ((t169.set (bt177.1 : Int).toNat (⟨(rd_T34 t169 bt177.1).f0, bt183.1, (rd_T34 t169 bt177.1).f2, (rd_T34 t169 bt177.1).f3⟩ : S34)), bt183.2.1, bt183.2.2)) else (none)) else (none)))) else (some (t169, t175, t176))) else (if t174 = 1 then (if (t169.length : Int) > 0 then ((spec_l00Src_pick.f s0_0 t175 t176 (t169.length : Int)).bind fun bt187 => ((spec_l00Src_among.f s0_0 bt187.2.1 bt187.2.2 (([(-1), 1000000, 1000001] : List Int))).bind fun bt193 => (if 0 ≤ bt187.1 then (if bt187.1 < (t169.length : Int) then (some ((t169.set (bt187.1 : Int).toNat (⟨(rd_T34 t169 bt187.1).f0, (rd_T34 t169 bt187.1).f1, bt193.1, (rd_T34 t169 bt187.1).f3⟩ : S34)), bt193.2.1, bt193.2.2)) else (none)) else (none)))) else (some (t169, t175, t176))) else (if t174 = 2 then (if (t169.length : Int) > 1 then (if 0 ≤ (wrap64 ((t169.length : Int) - 1)) then (if (wrap64 ((t169.length : Int) - 1)) < (t169.length : Int) then (if 0 < (t169.length : Int) then (some ((t169.set (0 : Int).toNat (⟨(rd_T34 t169 0).f0, (rd_T34 t169 0).f1, (rd_T34 t169 0).f2, (([(rd_T34 t169 (wrap64 ((t169.length : Int) - 1))).f0] : List ByteArray))⟩ : S34)), t175, t176)) else (none)) else (none)) else (none)) else (some (t169, t175, t176))) else (if t174 = 3 then ((spec_l00Src_among.f s0_0 t175 t176 (([8, 9] : List Int))).bind fun bt205 => (spec_l24Draw.l0 k (([] : List (S34))) bt205.1 0 s0_0 bt205.2.1 bt205.2.2)) else (if t174 = 4 then (if (t169.length : Int) > 0 then ((spec_l00Src_text.f s0_0 t175 t176 (([(⟨#[122, 122]⟩ : ByteArray), (⟨#[97, 114, 109]⟩ : ByteArray), (⟨#[]⟩ : ByteArray)] : List ByteArray))).bind fun bt218 => (if 0 < (t169.length : Int) then (some ((t169.set (0 : Int).toNat (⟨(rd_T34 t169 0).f0, (rd_T34 t169 0).f1, (rd_T34 t169 0).f2, (([bt218.1] : List ByteArray))⟩ : S34)), bt218.2.1, bt218.2.2)) else (none))) else (some (t169, t175, t176))) else (some (t169, t175, t176))))))) = some (r1, r2, r3) := H
 have A3 := Aside0.mk A30
 clear A30
 by_cases c4 : t174 = 0
 ·
  rw [if_pos c4] at H
  have c4b0 : (t174 == 0) = true := beq_iff_eq.mpr c4
  have c4b1 : (t174 != 0) = false := bne_eq_false_iff_eq.mpr c4
  clear c4
  by_cases c5 : (t169.length : Int) > 0
  ·
   rw [if_pos c5] at H
   have c5b0 : decide (0 < (t169.length : Int)) = true := decide_eq_true c5
   have c5b1 : decide (0 < t169.length) = true := decide_eq_true (by omega)
   clear c5
   replace H := Option.bind_eq_some_iff.mp H
   obtain ⟨⟨t177, t178, t179⟩, A60, H⟩ := H
   replace H : ((spec_l00Src_among.f s0_0 t178 t179 (([0, 1, 1000000, 1000001] : List Int))).bind fun bt183 => (if 0 ≤ t177 then (if t177 < (t169.length : Int) then (some ((t169.set (t177 : Int).toNat (⟨(rd_T34 t169 t177).f0, bt183.1, (rd_T34 t169 t177).f2, (rd_T34 t169 t177).f3⟩ : S34)), bt183.2.1, bt183.2.2)) else (none)) else (none))) = some (r1, r2, r3) := H
   have A6 := Aside0.mk A60
   clear A60
   obtain ⟨y180, hy180⟩ : ∃ y_ : List Int, y_ = (([0, 1, 1000000, 1000001] : List Int)) := ⟨_, rfl⟩
   replace H : ((spec_l00Src_among.f s0_0 t178 t179 y180).bind fun bt183 => (if 0 ≤ t177 then (if t177 < (t169.length : Int) then (some ((t169.set (t177 : Int).toNat (⟨(rd_T34 t169 t177).f0, bt183.1, (rd_T34 t169 t177).f2, (rd_T34 t169 t177).f3⟩ : S34)), bt183.2.1, bt183.2.2)) else (none)) else (none))) = some (r1, r2, r3) := by first | (rw [hy180]; with_reducible exact H) | (have H2_ := (Option.bind_some _ _).symm.trans H; rw [hy180]; with_reducible exact H2_) | (have H2_ := (Option.bind_some _ _).symm.trans H; with_reducible exact H2_) | with_reducible exact H | (rw [hy180]; exact H) | exact H
   have Ny180 := Aside0.mk hy180
   clear hy180
   replace H := Option.bind_eq_some_iff.mp H
   obtain ⟨⟨t183, t184, t185⟩, A70, H⟩ := H
   replace H : (if 0 ≤ t177 then (if t177 < (t169.length : Int) then (some ((t169.set (t177 : Int).toNat (⟨(rd_T34 t169 t177).f0, t183, (rd_T34 t169 t177).f2, (rd_T34 t169 t177).f3⟩ : S34)), t184, t185)) else (none)) else (none)) = some (r1, r2, r3) := H
   have A7 := Aside0.mk A70
   clear A70
   by_cases c8 : 0 ≤ t177
   ·
    rw [if_pos c8] at H
    have c8b0 : decide (0 ≤ t177) = true := decide_eq_true c8
    clear c8
    by_cases c9 : t177 < (t169.length : Int)
    ·
     rw [if_pos c9] at H
     have c9b0 : decide (t177 < (t169.length : Int)) = true := decide_eq_true c9
     clear c9
     obtain ⟨y186, hy186⟩ : ∃ y_ : List (S34), y_ = (t169.set (t177 : Int).toNat (⟨(rd_T34 t169 t177).f0, t183, (rd_T34 t169 t177).f2, (rd_T34 t169 t177).f3⟩ : S34)) := ⟨_, rfl⟩
     replace H : (some (y186, t184, t185)) = some (r1, r2, r3) := by first | (rw [hy186]; with_reducible exact H) | (have H2_ := (Option.bind_some _ _).symm.trans H; rw [hy186]; with_reducible exact H2_) | (have H2_ := (Option.bind_some _ _).symm.trans H; with_reducible exact H2_) | with_reducible exact H | (rw [hy186]; exact H) | exact H
     have Ny186 := Aside0.mk hy186
     clear hy186
     simp only [Option.some.injEq, Prod.mk.injEq] at H
     obtain ⟨rfl, rfl, rfl⟩ := H
     go_enter Try.func38, Try.ntmps38
     go_wp2_with (first | ((with_reducible refine gate_callee (f := 76) rfl ?_); refine goesA_ (some 8) Try.func76 #[.pointer (some ⟨g, 0, none⟩)] ?_; (with_reducible refine (spec_l24DrawOk.calls k g s0_0 s0_1 s0_2 t169 t172 t173 w0 _ ?side1 ?side2 A2.out).mono ?_); (case side1 => repeat (first | (with_reducible first | exact HI0.out | apply IsS103.alloc | apply IsS103.drewN | apply IsS103.drew | apply IsS103.set_1 | apply IsS103.set_2) | exact HI0.out)); (case side2 => repeat (first | (with_reducible first | exact HB.out | apply below_alloc | apply pw_below_drewN | apply below_drew1 | refine below_set ?_ (IsS103.ge HI0.out)) | exact HB.out)); rintro e w11 ⟨v170, rfl, ho0, hi, hb, hk⟩; refine ⟨_, rfl, ?_⟩; have n0_ := Aside0.mk (Kd.S_lower ho0 (keep_size (w := w) (g := g) (row := none) (mvK HK.out))); have n1_ := Aside0.mk (KeepBut.trans (mvK HK.out) hk (.inl rfl)); have n2_ := Aside0.mk (hb); have n3_ := Aside0.mk (hi); clear HK HB HI0; revert n0_ n1_ n2_ n3_; intro HO171 HK HB HI0; (try clear hb); (try clear hk); (try clear hi); (try clear ho0); obtain ⟨Ao12, co12, eo12⟩ := Kd.S_slice HO171.out; subst eo12) | ((with_reducible refine gate_callee (f := 77) rfl ?_); refine goesA_ (some 12) Try.func77 #[.pointer (some ⟨g, 0, none⟩), .int .i64 20] ?_; (with_reducible refine (spec_l00Src_pick.calls g s0_0 t172 t173 20 t174 t175 t176 w0 _ ?side1 ?side2 A3.out).mono ?_); (case side1 => repeat (first | (with_reducible first | exact HI0.out | apply IsS103.alloc | apply IsS103.drewN | apply IsS103.drew | apply IsS103.set_1 | apply IsS103.set_2) | exact HI0.out)); (case side2 => repeat (first | (with_reducible first | exact HB.out | apply below_alloc | apply pw_below_drewN | apply below_drew1 | refine below_set ?_ (IsS103.ge HI0.out)) | exact HB.out)); rintro e w13 ⟨rfl, hi, hb, hk⟩; refine ⟨_, rfl, ?_⟩; have n0_ := Aside0.mk (Kd.S_mono (Kd.S_keep (IsS103.apartS (show IsS103 w0 _ g s0_0 t172 t173 from by repeat (first | (with_reducible first | exact HI0.out | apply IsS103.alloc | apply IsS103.drewN | apply IsS103.drew | apply IsS103.set_1 | apply IsS103.set_2) | exact HI0.out)) (mv HO171.out) (by decide)) hk (fun _ h => h.2)) (fun _ h => h.1)); have n1_ := Aside0.mk (KeepBut.trans (mvK HK.out) hk (.inl rfl)); have n2_ := Aside0.mk (hb); have n3_ := Aside0.mk (hi); clear HO171 HK HB HI0; revert n0_ n1_ n2_ n3_; intro HO171 HK HB HI0; (try clear hb); (try clear hk); (try clear hi)) | ((with_reducible refine gate_callee (f := 77) rfl ?_); refine goesA_ (some 20) Try.func77 #[.pointer (some ⟨g, 0, none⟩), .int .i64 (t169.length : Int)] ?_; (with_reducible refine (spec_l00Src_pick.calls g s0_0 t175 t176 (t169.length : Int) t177 t178 t179 w0 _ ?side1 ?side2 A6.out).mono ?_); (case side1 => repeat (first | (with_reducible first | exact HI0.out | apply IsS103.alloc | apply IsS103.drewN | apply IsS103.drew | apply IsS103.set_1 | apply IsS103.set_2) | exact HI0.out)); (case side2 => repeat (first | (with_reducible first | exact HB.out | apply below_alloc | apply pw_below_drewN | apply below_drew1 | refine below_set ?_ (IsS103.ge HI0.out)) | exact HB.out)); rintro e w14 ⟨rfl, hi, hb, hk⟩; refine ⟨_, rfl, ?_⟩; have n0_ := Aside0.mk (Kd.S_mono (Kd.S_keep (IsS103.apartS (show IsS103 w0 _ g s0_0 t175 t176 from by repeat (first | (with_reducible first | exact HI0.out | apply IsS103.alloc | apply IsS103.drewN | apply IsS103.drew | apply IsS103.set_1 | apply IsS103.set_2) | exact HI0.out)) (mv HO171.out) (by decide)) hk (fun _ h => h.2)) (fun _ h => h.1)); have n1_ := Aside0.mk (KeepBut.trans (mvK HK.out) hk (.inl rfl)); have n2_ := Aside0.mk (hb); have n3_ := Aside0.mk (hi); clear HO171 HK HB HI0; revert n0_ n1_ n2_ n3_; intro HO171 HK HB HI0; (try clear hb); (try clear hk); (try clear hi)) | ((with_reducible refine gate_dst (N := 22) rfl ?_); refine Kd.R_lit (Kd.int .i64) _ 2 ?hg (N := 22) ?hd (xs := ([0, 1, 1000000, 1000001] : List Int)) (inner := [.int .i64 0, .int .i64 1, .int .i64 1000000, .int .i64 1000001]) (ok := fun _ => True) (okp := fun _ => True) ?hr ?hp (fun _ hk => hk) trivial (Below.refl _ _) (Nat.le_refl _) (by simp) ?_; (case hd => rfl); (case hg => rfl); (case hr => first | (go_simp; done) | (go_simp; rfl)); (case hp => exact (Reps.one (show Kd.M (Kd.int .i64) _ _ _ 0 [.int .i64 0] from rfl) (Reps.one (show Kd.M (Kd.int .i64) _ _ _ 1 [.int .i64 1] from rfl) (Reps.one (show Kd.M (Kd.int .i64) _ _ _ 1000000 [.int .i64 1000000] from rfl) (Reps.one (show Kd.M (Kd.int .i64) _ _ _ 1000001 [.int .i64 1000001] from rfl) (Reps.none _ _)))))); intro v181 w15 ho16 hb hg_ hnew_; clear hg_ hnew_; (first | rw [← Ny180.out] at ho16 | (simp only [Int.reduceToNat] at ho16; rw [← Ny180.out] at ho16)); have n0_ := Aside0.mk (Kd.S_below (mv HO171.out) hb); have n1_ := Aside0.mk (Kd.R_lower ho16 (keep_size (w := w) (g := g) (row := none) (mvK HK.out))); have n2_ := Aside0.mk (IsS103.below (by repeat (first | (with_reducible first | exact HI0.out | apply IsS103.alloc | apply IsS103.drewN | apply IsS103.drew | apply IsS103.set_1 | apply IsS103.set_2) | exact HI0.out)) hb); have n3_ := Aside0.mk (KeepBut.trans (mvK HK.out) (KeepBut.of_below hb g none) (.inl rfl)); have n4_ := Aside0.mk (below_step (by repeat (first | (with_reducible first | exact HB.out | apply below_alloc | apply pw_below_drewN | apply below_drew1 | refine below_set ?_ (IsS103.ge HI0.out)) | exact HB.out)) hb); clear HO171 HI0 HK HB; revert n0_ n1_ n2_ n3_ n4_; intro HO171 HO182 HI0 HK HB; clear hb ho16; obtain ⟨Ao17, co17, eo17⟩ := Kd.R_slice HO182.out; subst eo17) | ((with_reducible refine gate_callee (f := 40) rfl ?_); refine goesA_ (some 23) Try.func40 #[.pointer (some ⟨g, 0, none⟩), .slice Ao17 y180.length co17] ?_; (with_reducible refine (spec_l00Src_among.calls g s0_0 t178 t179 _ _ y180 t183 t184 t185 w0 _ ?side1 ?side2 ?side3 ?side4 ?side5 A7.out).mono ?_); (case side1 => repeat (first | (with_reducible first | exact HI0.out | apply IsS103.alloc | apply IsS103.drewN | apply IsS103.drew | apply IsS103.set_1 | apply IsS103.set_2) | exact HI0.out)); (case side2 => repeat (first | (with_reducible first | exact HB.out | apply below_alloc | apply pw_below_drewN | apply below_drew1 | refine below_set ?_ (IsS103.ge HI0.out)) | exact HB.out)); (case side3 => exact mvC (Kd.R_reads' HO182.out).2.2); (case side4 => exact (Kd.R_reads' HO182.out).2.1); (case side5 => exact far_slice (IsS103.own_ne HI0.out HO182.out (by decide))); rintro e w18 ⟨rfl, hi, hb, hk⟩; refine ⟨_, rfl, ?_⟩; have n0_ := Aside0.mk (Kd.S_mono (Kd.S_keep (IsS103.apartS (show IsS103 w0 _ g s0_0 t178 t179 from by repeat (first | (with_reducible first | exact HI0.out | apply IsS103.alloc | apply IsS103.drewN | apply IsS103.drew | apply IsS103.set_1 | apply IsS103.set_2) | exact HI0.out)) (mv HO171.out) (by decide)) hk (fun _ h => h.2)) (fun _ h => h.1)); have n1_ := Aside0.mk (Kd.R_mono (Kd.R_keep (IsS103.apart (show IsS103 w0 _ g s0_0 t178 t179 from by repeat (first | (with_reducible first | exact HI0.out | apply IsS103.alloc | apply IsS103.drewN | apply IsS103.drew | apply IsS103.set_1 | apply IsS103.set_2) | exact HI0.out)) (mv HO182.out) (by decide)) hk (fun _ h => h.2)) (fun _ h => h.1)); have n2_ := Aside0.mk (KeepBut.trans (mvK HK.out) hk (.inl rfl)); have n3_ := Aside0.mk (hb); have n4_ := Aside0.mk (hi); clear HO171 HO182 HK HB HI0; revert n0_ n1_ n2_ n3_ n4_; intro HO171 HO182 HK HB HI0; (try clear hb); (try clear hk); (try clear hi); have p10 : 0 ≤ (t177 : Int) := od; have q10 : (t177 : Int) < ((t169.length : Int) : Int) := od; obtain ⟨go10, co10, eo10, gb10, gl10, cl10, HG10⟩ := Kd.S_form HO171.out (by omega); (first | cases eo10 | (injection eo10 with ea_ en_ ec_; (first | subst ea_ | (injection ea_ with ea_; subst ea_)); subst ec_; clear en_)); have GB10 := Aside0.mk gb10; have GG10 := Aside0.mk HG10; clear gb10 gl10 HG10; obtain ⟨_, ce10, hcl10, hM10, hcc10, hfr10, _, _⟩ := Kd.S_elem HO171.out z34 (t177 : Int) p10 q10; obtain ⟨ve10_3, rfl, ge10_3⟩ := k34_openM hM10; have hx10_0 : w18.cell? ⟨go10, (t177 : Int).toNat * 4, none⟩ = some (.string ((rd_T34 t169 t177).f0)) := hcc10 0 _ rfl; have hx10_1 : w18.cell? ⟨go10, (t177 : Int).toNat * 4 + 1, none⟩ = some (.int .i64 ((rd_T34 t169 t177).f1)) := hcc10 1 _ rfl; have hx10_2 : w18.cell? ⟨go10, (t177 : Int).toNat * 4 + 2, none⟩ = some (.int .i64 ((rd_T34 t169 t177).f2)) := hcc10 2 _ rfl; have hx10_3 : w18.cell? ⟨go10, (t177 : Int).toNat * 4 + 3, none⟩ = some (ve10_3) := hcc10 3 _ rfl; have hf10_0 : w18.frozen? ⟨go10, (t177 : Int).toNat * 4, none⟩ = false := hfr10 0; have hf10_1 : w18.frozen? ⟨go10, (t177 : Int).toNat * 4 + 1, none⟩ = false := hfr10 1; have hf10_2 : w18.frozen? ⟨go10, (t177 : Int).toNat * 4 + 2, none⟩ = false := hfr10 2; have hf10_3 : w18.frozen? ⟨go10, (t177 : Int).toNat * 4 + 3, none⟩ = false := hfr10 3; (try clear hM10); clear hcl10 hcc10 hfr10; replace p10 := eq_true p10; replace q10 := eq_true q10; have HX19 := Aside0.mk (show Kd.S k34 34 w18 w.heap.size (fun k_ => ((fun _ => True)) k_ ∧ ¬ ((fun _ => False)) k_) (.slice (some ⟨go10, 0, none⟩) t169.length co12) t169 from (by (with_reducible repeat (first | apply Kd.S_alloc | apply Kd.S_drewN | apply Kd.S_drew)); exact Kd.S_mono HO171.out (fun k_ hk => ⟨trivial, fun e_ => e_⟩))); obtain ⟨oki19, ce19, hcl19, hM19, hcc19, hfr19, hoki19, hH19⟩ := Kd.S_elem HX19.out z34 (t177 : Int) (od) (by have h_ : (t177 : Int) < ((t169.length : Int) : Int) := od; first | exact h_ | (have e_ := (Kd.S_reads' HO171.out).1; omega) | simpa using h_); obtain ⟨ve19_3, rfl, ge19_3⟩ := k34_openM hM19; have HP19 := Kd.S_seg hH19 (od) (by have h_ : (t177 : Int) < ((t169.length : Int) : Int) := od; first | exact h_ | (have e_ := (Kd.S_reads' HO171.out).1; omega) | simpa using h_) (seg := [.int .i64 t183]) (j := 1) (show 2 ≤ 4 from by decide) (x' := (⟨(rd_T34 t169 t177).f0, t183, (rd_T34 t169 t177).f2, (rd_T34 t169 t177).f3⟩ : S34)) (k34_mkM _ _ _ (⟨(rd_T34 t169 t177).f0, t183, (rd_T34 t169 t177).f2, (rd_T34 t169 t177).f3⟩ : S34) (Kd.R_mono ge19_3 (fun _ h_ => Or.inl h_))) (fun _ hk => hk) (fun k_ hk_ => hk_.elim); have hx19_1 := hcc19 1 _ rfl; (try simp only [show (k34).sz = 4 from rfl, Nat.mul_one, Nat.add_zero] at hx19_1); have hf19_1 := hfr19 1; (try simp only [show (k34).sz = 4 from rfl, Nat.mul_one, Nat.add_zero] at hf19_1); (try clear hM19); clear hcl19 hcc19 hfr19 hoki19 hH19) | ((with_reducible refine gate_store (t := 2) (p := 25) rfl ?_); refine store_event (t := 2) (p := 25) (v := ?vo_w20) (w1 := (w18.setCell ⟨go10, (t177 : Int).toNat * 4 + 1, none⟩ (.int .i64 t183))) ?hg ?ho ?hn ?hr ?_; (case ho => rfl); (case hg => rfl); (case hn => rfl); (case hr => first | (go_simp; done) | (go_simp; rfl)); intro w20 hw; have hg : w18.grownBy w20 (some go10) := (by rw [hw]; exact HP19.2); have hp_ : Kd.S k34 34 w20 w.heap.size (fun _ => True) (.slice (some ⟨go10, 0, none⟩) t169.length co12) y186 := (by rw [hw, Ny186.out]; exact HP19.1); clear HP19; have n0_ := Aside0.mk (IsS103.grown (by repeat (first | (with_reducible first | exact HI0.out | apply IsS103.alloc | apply IsS103.drewN | apply IsS103.drew | apply IsS103.set_1 | apply IsS103.set_2) | exact HI0.out)) hg (IsS103.own_neS HI0.out HO171.out (by decide))); have n1_ := Aside0.mk (hp_); have n2_ := Aside0.mk (Kd.R_over' (v := (.slice (some ⟨go10, 0, none⟩) t169.length co12)) (mv HO182.out) (Kd.S_typed HO171.out) (by decide) hg); have n3_ := Aside0.mk ((by rw [hw]; exact below_set (HB.out) (Nat.le_trans HL.out GB10.out) : Below w0.heap.size w0 w20)); have n4_ := Aside0.mk (KeepBut.trans (mvK HK.out) (KeepBut.of_grown hg g) (Kd.S_base2 HO171.out)); clear HI0 HO171 HO182 HB HK; revert n0_ n1_ n2_ n3_ n4_; intro HI0 HO171 HO182 HB HK; clear hg hw hp_))
     go_ret
     exact ⟨_, by first | rfl | (simp [errW_none, errW_some] <;> rfl) | (simp [*, errW_none, errW_some] <;> rfl), mv HO171.out, by repeat (first | (with_reducible first | exact HI0.out | apply IsS103.alloc | apply IsS103.drewN | apply IsS103.drew | apply IsS103.set_1 | apply IsS103.set_2) | exact HI0.out), by repeat (first | (with_reducible first | exact HB.out | apply below_alloc | apply pw_below_drewN | apply below_drew1 | refine below_set ?_ (IsS103.ge HI0.out)) | exact HB.out), mvK HK.out⟩
    ·
     rw [if_neg c9] at H
     exact absurd H (by simp)
   ·
    rw [if_neg c8] at H
    exact absurd H (by simp)
  ·
   rw [if_neg c5] at H
   have c5b0 : decide (0 < (t169.length : Int)) = false := decide_eq_false c5
   have c5b1 : decide (0 < t169.length) = false := decide_eq_false (by omega)
   clear c5
   simp only [Option.some.injEq, Prod.mk.injEq] at H
   obtain ⟨rfl, rfl, rfl⟩ := H
   go_enter Try.func38, Try.ntmps38
   go_wp2_with (first | ((with_reducible refine gate_callee (f := 76) rfl ?_); refine goesA_ (some 8) Try.func76 #[.pointer (some ⟨g, 0, none⟩)] ?_; (with_reducible refine (spec_l24DrawOk.calls k g s0_0 s0_1 s0_2 t169 t172 t173 w0 _ ?side1 ?side2 A2.out).mono ?_); (case side1 => repeat (first | (with_reducible first | exact HI0.out | apply IsS103.alloc | apply IsS103.drewN | apply IsS103.drew | apply IsS103.set_1 | apply IsS103.set_2) | exact HI0.out)); (case side2 => repeat (first | (with_reducible first | exact HB.out | apply below_alloc | apply pw_below_drewN | apply below_drew1 | refine below_set ?_ (IsS103.ge HI0.out)) | exact HB.out)); rintro e w21 ⟨v170, rfl, ho0, hi, hb, hk⟩; refine ⟨_, rfl, ?_⟩; have n0_ := Aside0.mk (Kd.S_lower ho0 (keep_size (w := w) (g := g) (row := none) (mvK HK.out))); have n1_ := Aside0.mk (KeepBut.trans (mvK HK.out) hk (.inl rfl)); have n2_ := Aside0.mk (hb); have n3_ := Aside0.mk (hi); clear HK HB HI0; revert n0_ n1_ n2_ n3_; intro HO171 HK HB HI0; (try clear hb); (try clear hk); (try clear hi); (try clear ho0); obtain ⟨Ao22, co22, eo22⟩ := Kd.S_slice HO171.out; subst eo22) | ((with_reducible refine gate_callee (f := 77) rfl ?_); refine goesA_ (some 12) Try.func77 #[.pointer (some ⟨g, 0, none⟩), .int .i64 20] ?_; (with_reducible refine (spec_l00Src_pick.calls g s0_0 t172 t173 20 t174 t175 t176 w0 _ ?side1 ?side2 A3.out).mono ?_); (case side1 => repeat (first | (with_reducible first | exact HI0.out | apply IsS103.alloc | apply IsS103.drewN | apply IsS103.drew | apply IsS103.set_1 | apply IsS103.set_2) | exact HI0.out)); (case side2 => repeat (first | (with_reducible first | exact HB.out | apply below_alloc | apply pw_below_drewN | apply below_drew1 | refine below_set ?_ (IsS103.ge HI0.out)) | exact HB.out)); rintro e w23 ⟨rfl, hi, hb, hk⟩; refine ⟨_, rfl, ?_⟩; have n0_ := Aside0.mk (Kd.S_mono (Kd.S_keep (IsS103.apartS (show IsS103 w0 _ g s0_0 t172 t173 from by repeat (first | (with_reducible first | exact HI0.out | apply IsS103.alloc | apply IsS103.drewN | apply IsS103.drew | apply IsS103.set_1 | apply IsS103.set_2) | exact HI0.out)) (mv HO171.out) (by decide)) hk (fun _ h => h.2)) (fun _ h => h.1)); have n1_ := Aside0.mk (KeepBut.trans (mvK HK.out) hk (.inl rfl)); have n2_ := Aside0.mk (hb); have n3_ := Aside0.mk (hi); clear HO171 HK HB HI0; revert n0_ n1_ n2_ n3_; intro HO171 HK HB HI0; (try clear hb); (try clear hk); (try clear hi)))
   go_ret
   exact ⟨_, by first | rfl | (simp [errW_none, errW_some] <;> rfl) | (simp [*, errW_none, errW_some] <;> rfl), mv HO171.out, by repeat (first | (with_reducible first | exact HI0.out | apply IsS103.alloc | apply IsS103.drewN | apply IsS103.drew | apply IsS103.set_1 | apply IsS103.set_2) | exact HI0.out), by repeat (first | (with_reducible first | exact HB.out | apply below_alloc | apply pw_below_drewN | apply below_drew1 | refine below_set ?_ (IsS103.ge HI0.out)) | exact HB.out), mvK HK.out⟩
 ·
  rw [if_neg c4] at H
  have c4b0 : (t174 == 0) = false := beq_eq_false_iff_ne.mpr c4
  have c4b1 : (t174 != 0) = true := bne_iff_ne.mpr c4
  by_cases c24 : t174 = 1
  ·
   rw [if_pos c24] at H
   have c24b0 : (t174 == 1) = true := beq_iff_eq.mpr c24
   have c24b1 : (t174 != 1) = false := bne_eq_false_iff_eq.mpr c24
   clear c24
   by_cases c25 : (t169.length : Int) > 0
   ·
    rw [if_pos c25] at H
    have c25b0 : decide (0 < (t169.length : Int)) = true := decide_eq_true c25
    have c25b1 : decide (0 < t169.length) = true := decide_eq_true (by omega)
    clear c25
    replace H := Option.bind_eq_some_iff.mp H
    obtain ⟨⟨t187, t188, t189⟩, A260, H⟩ := H
    replace H : ((spec_l00Src_among.f s0_0 t188 t189 (([(-1), 1000000, 1000001] : List Int))).bind fun bt193 => (if 0 ≤ t187 then (if t187 < (t169.length : Int) then (some ((t169.set (t187 : Int).toNat (⟨(rd_T34 t169 t187).f0, (rd_T34 t169 t187).f1, bt193.1, (rd_T34 t169 t187).f3⟩ : S34)), bt193.2.1, bt193.2.2)) else (none)) else (none))) = some (r1, r2, r3) := H
    have A26 := Aside0.mk A260
    clear A260
    obtain ⟨y190, hy190⟩ : ∃ y_ : List Int, y_ = (([(-1), 1000000, 1000001] : List Int)) := ⟨_, rfl⟩
    replace H : ((spec_l00Src_among.f s0_0 t188 t189 y190).bind fun bt193 => (if 0 ≤ t187 then (if t187 < (t169.length : Int) then (some ((t169.set (t187 : Int).toNat (⟨(rd_T34 t169 t187).f0, (rd_T34 t169 t187).f1, bt193.1, (rd_T34 t169 t187).f3⟩ : S34)), bt193.2.1, bt193.2.2)) else (none)) else (none))) = some (r1, r2, r3) := by first | (rw [hy190]; with_reducible exact H) | (have H2_ := (Option.bind_some _ _).symm.trans H; rw [hy190]; with_reducible exact H2_) | (have H2_ := (Option.bind_some _ _).symm.trans H; with_reducible exact H2_) | with_reducible exact H | (rw [hy190]; exact H) | exact H
    have Ny190 := Aside0.mk hy190
    clear hy190
    replace H := Option.bind_eq_some_iff.mp H
    obtain ⟨⟨t193, t194, t195⟩, A270, H⟩ := H
    replace H : (if 0 ≤ t187 then (if t187 < (t169.length : Int) then (some ((t169.set (t187 : Int).toNat (⟨(rd_T34 t169 t187).f0, (rd_T34 t169 t187).f1, t193, (rd_T34 t169 t187).f3⟩ : S34)), t194, t195)) else (none)) else (none)) = some (r1, r2, r3) := H
    have A27 := Aside0.mk A270
    clear A270
    by_cases c28 : 0 ≤ t187
    ·
     rw [if_pos c28] at H
     have c28b0 : decide (0 ≤ t187) = true := decide_eq_true c28
     clear c28
     by_cases c29 : t187 < (t169.length : Int)
     ·
      rw [if_pos c29] at H
      have c29b0 : decide (t187 < (t169.length : Int)) = true := decide_eq_true c29
      clear c29
      obtain ⟨y196, hy196⟩ : ∃ y_ : List (S34), y_ = (t169.set (t187 : Int).toNat (⟨(rd_T34 t169 t187).f0, (rd_T34 t169 t187).f1, t193, (rd_T34 t169 t187).f3⟩ : S34)) := ⟨_, rfl⟩
      replace H : (some (y196, t194, t195)) = some (r1, r2, r3) := by first | (rw [hy196]; with_reducible exact H) | (have H2_ := (Option.bind_some _ _).symm.trans H; rw [hy196]; with_reducible exact H2_) | (have H2_ := (Option.bind_some _ _).symm.trans H; with_reducible exact H2_) | with_reducible exact H | (rw [hy196]; exact H) | exact H
      have Ny196 := Aside0.mk hy196
      clear hy196
      simp only [Option.some.injEq, Prod.mk.injEq] at H
      obtain ⟨rfl, rfl, rfl⟩ := H
      go_enter Try.func38, Try.ntmps38
      go_wp2_with (first | ((with_reducible refine gate_callee (f := 76) rfl ?_); refine goesA_ (some 8) Try.func76 #[.pointer (some ⟨g, 0, none⟩)] ?_; (with_reducible refine (spec_l24DrawOk.calls k g s0_0 s0_1 s0_2 t169 t172 t173 w0 _ ?side1 ?side2 A2.out).mono ?_); (case side1 => repeat (first | (with_reducible first | exact HI0.out | apply IsS103.alloc | apply IsS103.drewN | apply IsS103.drew | apply IsS103.set_1 | apply IsS103.set_2) | exact HI0.out)); (case side2 => repeat (first | (with_reducible first | exact HB.out | apply below_alloc | apply pw_below_drewN | apply below_drew1 | refine below_set ?_ (IsS103.ge HI0.out)) | exact HB.out)); rintro e w31 ⟨v170, rfl, ho0, hi, hb, hk⟩; refine ⟨_, rfl, ?_⟩; have n0_ := Aside0.mk (Kd.S_lower ho0 (keep_size (w := w) (g := g) (row := none) (mvK HK.out))); have n1_ := Aside0.mk (KeepBut.trans (mvK HK.out) hk (.inl rfl)); have n2_ := Aside0.mk (hb); have n3_ := Aside0.mk (hi); clear HK HB HI0; revert n0_ n1_ n2_ n3_; intro HO171 HK HB HI0; (try clear hb); (try clear hk); (try clear hi); (try clear ho0); obtain ⟨Ao32, co32, eo32⟩ := Kd.S_slice HO171.out; subst eo32) | ((with_reducible refine gate_callee (f := 77) rfl ?_); refine goesA_ (some 12) Try.func77 #[.pointer (some ⟨g, 0, none⟩), .int .i64 20] ?_; (with_reducible refine (spec_l00Src_pick.calls g s0_0 t172 t173 20 t174 t175 t176 w0 _ ?side1 ?side2 A3.out).mono ?_); (case side1 => repeat (first | (with_reducible first | exact HI0.out | apply IsS103.alloc | apply IsS103.drewN | apply IsS103.drew | apply IsS103.set_1 | apply IsS103.set_2) | exact HI0.out)); (case side2 => repeat (first | (with_reducible first | exact HB.out | apply below_alloc | apply pw_below_drewN | apply below_drew1 | refine below_set ?_ (IsS103.ge HI0.out)) | exact HB.out)); rintro e w33 ⟨rfl, hi, hb, hk⟩; refine ⟨_, rfl, ?_⟩; have n0_ := Aside0.mk (Kd.S_mono (Kd.S_keep (IsS103.apartS (show IsS103 w0 _ g s0_0 t172 t173 from by repeat (first | (with_reducible first | exact HI0.out | apply IsS103.alloc | apply IsS103.drewN | apply IsS103.drew | apply IsS103.set_1 | apply IsS103.set_2) | exact HI0.out)) (mv HO171.out) (by decide)) hk (fun _ h => h.2)) (fun _ h => h.1)); have n1_ := Aside0.mk (KeepBut.trans (mvK HK.out) hk (.inl rfl)); have n2_ := Aside0.mk (hb); have n3_ := Aside0.mk (hi); clear HO171 HK HB HI0; revert n0_ n1_ n2_ n3_; intro HO171 HK HB HI0; (try clear hb); (try clear hk); (try clear hi)) | ((with_reducible refine gate_callee (f := 77) rfl ?_); refine goesA_ (some 33) Try.func77 #[.pointer (some ⟨g, 0, none⟩), .int .i64 (t169.length : Int)] ?_; (with_reducible refine (spec_l00Src_pick.calls g s0_0 t175 t176 (t169.length : Int) t187 t188 t189 w0 _ ?side1 ?side2 A26.out).mono ?_); (case side1 => repeat (first | (with_reducible first | exact HI0.out | apply IsS103.alloc | apply IsS103.drewN | apply IsS103.drew | apply IsS103.set_1 | apply IsS103.set_2) | exact HI0.out)); (case side2 => repeat (first | (with_reducible first | exact HB.out | apply below_alloc | apply pw_below_drewN | apply below_drew1 | refine below_set ?_ (IsS103.ge HI0.out)) | exact HB.out)); rintro e w34 ⟨rfl, hi, hb, hk⟩; refine ⟨_, rfl, ?_⟩; have n0_ := Aside0.mk (Kd.S_mono (Kd.S_keep (IsS103.apartS (show IsS103 w0 _ g s0_0 t175 t176 from by repeat (first | (with_reducible first | exact HI0.out | apply IsS103.alloc | apply IsS103.drewN | apply IsS103.drew | apply IsS103.set_1 | apply IsS103.set_2) | exact HI0.out)) (mv HO171.out) (by decide)) hk (fun _ h => h.2)) (fun _ h => h.1)); have n1_ := Aside0.mk (KeepBut.trans (mvK HK.out) hk (.inl rfl)); have n2_ := Aside0.mk (hb); have n3_ := Aside0.mk (hi); clear HO171 HK HB HI0; revert n0_ n1_ n2_ n3_; intro HO171 HK HB HI0; (try clear hb); (try clear hk); (try clear hi)) | ((with_reducible refine gate_dst (N := 35) rfl ?_); refine Kd.R_lit (Kd.int .i64) _ 2 ?hg (N := 35) ?hd (xs := ([(-1), 1000000, 1000001] : List Int)) (inner := [.int .i64 (-1), .int .i64 1000000, .int .i64 1000001]) (ok := fun _ => True) (okp := fun _ => True) ?hr ?hp (fun _ hk => hk) trivial (Below.refl _ _) (Nat.le_refl _) (by simp) ?_; (case hd => rfl); (case hg => rfl); (case hr => first | (go_simp; done) | (go_simp; rfl)); (case hp => exact (Reps.one (show Kd.M (Kd.int .i64) _ _ _ (-1) [.int .i64 (-1)] from rfl) (Reps.one (show Kd.M (Kd.int .i64) _ _ _ 1000000 [.int .i64 1000000] from rfl) (Reps.one (show Kd.M (Kd.int .i64) _ _ _ 1000001 [.int .i64 1000001] from rfl) (Reps.none _ _))))); intro v191 w35 ho36 hb hg_ hnew_; clear hg_ hnew_; (first | rw [← Ny190.out] at ho36 | (simp only [Int.reduceToNat] at ho36; rw [← Ny190.out] at ho36)); have n0_ := Aside0.mk (Kd.S_below (mv HO171.out) hb); have n1_ := Aside0.mk (Kd.R_lower ho36 (keep_size (w := w) (g := g) (row := none) (mvK HK.out))); have n2_ := Aside0.mk (IsS103.below (by repeat (first | (with_reducible first | exact HI0.out | apply IsS103.alloc | apply IsS103.drewN | apply IsS103.drew | apply IsS103.set_1 | apply IsS103.set_2) | exact HI0.out)) hb); have n3_ := Aside0.mk (KeepBut.trans (mvK HK.out) (KeepBut.of_below hb g none) (.inl rfl)); have n4_ := Aside0.mk (below_step (by repeat (first | (with_reducible first | exact HB.out | apply below_alloc | apply pw_below_drewN | apply below_drew1 | refine below_set ?_ (IsS103.ge HI0.out)) | exact HB.out)) hb); clear HO171 HI0 HK HB; revert n0_ n1_ n2_ n3_ n4_; intro HO171 HO192 HI0 HK HB; clear hb ho36; obtain ⟨Ao37, co37, eo37⟩ := Kd.R_slice HO192.out; subst eo37) | ((with_reducible refine gate_callee (f := 40) rfl ?_); refine goesA_ (some 36) Try.func40 #[.pointer (some ⟨g, 0, none⟩), .slice Ao37 y190.length co37] ?_; (with_reducible refine (spec_l00Src_among.calls g s0_0 t188 t189 _ _ y190 t193 t194 t195 w0 _ ?side1 ?side2 ?side3 ?side4 ?side5 A27.out).mono ?_); (case side1 => repeat (first | (with_reducible first | exact HI0.out | apply IsS103.alloc | apply IsS103.drewN | apply IsS103.drew | apply IsS103.set_1 | apply IsS103.set_2) | exact HI0.out)); (case side2 => repeat (first | (with_reducible first | exact HB.out | apply below_alloc | apply pw_below_drewN | apply below_drew1 | refine below_set ?_ (IsS103.ge HI0.out)) | exact HB.out)); (case side3 => exact mvC (Kd.R_reads' HO192.out).2.2); (case side4 => exact (Kd.R_reads' HO192.out).2.1); (case side5 => exact far_slice (IsS103.own_ne HI0.out HO192.out (by decide))); rintro e w38 ⟨rfl, hi, hb, hk⟩; refine ⟨_, rfl, ?_⟩; have n0_ := Aside0.mk (Kd.S_mono (Kd.S_keep (IsS103.apartS (show IsS103 w0 _ g s0_0 t188 t189 from by repeat (first | (with_reducible first | exact HI0.out | apply IsS103.alloc | apply IsS103.drewN | apply IsS103.drew | apply IsS103.set_1 | apply IsS103.set_2) | exact HI0.out)) (mv HO171.out) (by decide)) hk (fun _ h => h.2)) (fun _ h => h.1)); have n1_ := Aside0.mk (Kd.R_mono (Kd.R_keep (IsS103.apart (show IsS103 w0 _ g s0_0 t188 t189 from by repeat (first | (with_reducible first | exact HI0.out | apply IsS103.alloc | apply IsS103.drewN | apply IsS103.drew | apply IsS103.set_1 | apply IsS103.set_2) | exact HI0.out)) (mv HO192.out) (by decide)) hk (fun _ h => h.2)) (fun _ h => h.1)); have n2_ := Aside0.mk (KeepBut.trans (mvK HK.out) hk (.inl rfl)); have n3_ := Aside0.mk (hb); have n4_ := Aside0.mk (hi); clear HO171 HO192 HK HB HI0; revert n0_ n1_ n2_ n3_ n4_; intro HO171 HO192 HK HB HI0; (try clear hb); (try clear hk); (try clear hi); have p30 : 0 ≤ (t187 : Int) := od; have q30 : (t187 : Int) < ((t169.length : Int) : Int) := od; obtain ⟨go30, co30, eo30, gb30, gl30, cl30, HG30⟩ := Kd.S_form HO171.out (by omega); (first | cases eo30 | (injection eo30 with ea_ en_ ec_; (first | subst ea_ | (injection ea_ with ea_; subst ea_)); subst ec_; clear en_)); have GB30 := Aside0.mk gb30; have GG30 := Aside0.mk HG30; clear gb30 gl30 HG30; obtain ⟨_, ce30, hcl30, hM30, hcc30, hfr30, _, _⟩ := Kd.S_elem HO171.out z34 (t187 : Int) p30 q30; obtain ⟨ve30_3, rfl, ge30_3⟩ := k34_openM hM30; have hx30_0 : w38.cell? ⟨go30, (t187 : Int).toNat * 4, none⟩ = some (.string ((rd_T34 t169 t187).f0)) := hcc30 0 _ rfl; have hx30_1 : w38.cell? ⟨go30, (t187 : Int).toNat * 4 + 1, none⟩ = some (.int .i64 ((rd_T34 t169 t187).f1)) := hcc30 1 _ rfl; have hx30_2 : w38.cell? ⟨go30, (t187 : Int).toNat * 4 + 2, none⟩ = some (.int .i64 ((rd_T34 t169 t187).f2)) := hcc30 2 _ rfl; have hx30_3 : w38.cell? ⟨go30, (t187 : Int).toNat * 4 + 3, none⟩ = some (ve30_3) := hcc30 3 _ rfl; have hf30_0 : w38.frozen? ⟨go30, (t187 : Int).toNat * 4, none⟩ = false := hfr30 0; have hf30_1 : w38.frozen? ⟨go30, (t187 : Int).toNat * 4 + 1, none⟩ = false := hfr30 1; have hf30_2 : w38.frozen? ⟨go30, (t187 : Int).toNat * 4 + 2, none⟩ = false := hfr30 2; have hf30_3 : w38.frozen? ⟨go30, (t187 : Int).toNat * 4 + 3, none⟩ = false := hfr30 3; (try clear hM30); clear hcl30 hcc30 hfr30; replace p30 := eq_true p30; replace q30 := eq_true q30; have HX39 := Aside0.mk (show Kd.S k34 34 w38 w.heap.size (fun k_ => ((fun _ => True)) k_ ∧ ¬ ((fun _ => False)) k_) (.slice (some ⟨go30, 0, none⟩) t169.length co32) t169 from (by (with_reducible repeat (first | apply Kd.S_alloc | apply Kd.S_drewN | apply Kd.S_drew)); exact Kd.S_mono HO171.out (fun k_ hk => ⟨trivial, fun e_ => e_⟩))); obtain ⟨oki39, ce39, hcl39, hM39, hcc39, hfr39, hoki39, hH39⟩ := Kd.S_elem HX39.out z34 (t187 : Int) (od) (by have h_ : (t187 : Int) < ((t169.length : Int) : Int) := od; first | exact h_ | (have e_ := (Kd.S_reads' HO171.out).1; omega) | simpa using h_); obtain ⟨ve39_3, rfl, ge39_3⟩ := k34_openM hM39; have HP39 := Kd.S_seg hH39 (od) (by have h_ : (t187 : Int) < ((t169.length : Int) : Int) := od; first | exact h_ | (have e_ := (Kd.S_reads' HO171.out).1; omega) | simpa using h_) (seg := [.int .i64 t193]) (j := 2) (show 3 ≤ 4 from by decide) (x' := (⟨(rd_T34 t169 t187).f0, (rd_T34 t169 t187).f1, t193, (rd_T34 t169 t187).f3⟩ : S34)) (k34_mkM _ _ _ (⟨(rd_T34 t169 t187).f0, (rd_T34 t169 t187).f1, t193, (rd_T34 t169 t187).f3⟩ : S34) (Kd.R_mono ge39_3 (fun _ h_ => Or.inl h_))) (fun _ hk => hk) (fun k_ hk_ => hk_.elim); have hx39_2 := hcc39 2 _ rfl; (try simp only [show (k34).sz = 4 from rfl, Nat.mul_one, Nat.add_zero] at hx39_2); have hf39_2 := hfr39 2; (try simp only [show (k34).sz = 4 from rfl, Nat.mul_one, Nat.add_zero] at hf39_2); (try clear hM39); clear hcl39 hcc39 hfr39 hoki39 hH39) | ((with_reducible refine gate_store (t := 2) (p := 38) rfl ?_); refine store_event (t := 2) (p := 38) (v := ?vo_w40) (w1 := (w38.setCell ⟨go30, (t187 : Int).toNat * 4 + 2, none⟩ (.int .i64 t193))) ?hg ?ho ?hn ?hr ?_; (case ho => rfl); (case hg => rfl); (case hn => rfl); (case hr => first | (go_simp; done) | (go_simp; rfl)); intro w40 hw; have hg : w38.grownBy w40 (some go30) := (by rw [hw]; exact HP39.2); have hp_ : Kd.S k34 34 w40 w.heap.size (fun _ => True) (.slice (some ⟨go30, 0, none⟩) t169.length co32) y196 := (by rw [hw, Ny196.out]; exact HP39.1); clear HP39; have n0_ := Aside0.mk (IsS103.grown (by repeat (first | (with_reducible first | exact HI0.out | apply IsS103.alloc | apply IsS103.drewN | apply IsS103.drew | apply IsS103.set_1 | apply IsS103.set_2) | exact HI0.out)) hg (IsS103.own_neS HI0.out HO171.out (by decide))); have n1_ := Aside0.mk (hp_); have n2_ := Aside0.mk (Kd.R_over' (v := (.slice (some ⟨go30, 0, none⟩) t169.length co32)) (mv HO192.out) (Kd.S_typed HO171.out) (by decide) hg); have n3_ := Aside0.mk ((by rw [hw]; exact below_set (HB.out) (Nat.le_trans HL.out GB30.out) : Below w0.heap.size w0 w40)); have n4_ := Aside0.mk (KeepBut.trans (mvK HK.out) (KeepBut.of_grown hg g) (Kd.S_base2 HO171.out)); clear HI0 HO171 HO192 HB HK; revert n0_ n1_ n2_ n3_ n4_; intro HI0 HO171 HO192 HB HK; clear hg hw hp_))
      go_ret
      exact ⟨_, by first | rfl | (simp [errW_none, errW_some] <;> rfl) | (simp [*, errW_none, errW_some] <;> rfl), mv HO171.out, by repeat (first | (with_reducible first | exact HI0.out | apply IsS103.alloc | apply IsS103.drewN | apply IsS103.drew | apply IsS103.set_1 | apply IsS103.set_2) | exact HI0.out), by repeat (first | (with_reducible first | exact HB.out | apply below_alloc | apply pw_below_drewN | apply below_drew1 | refine below_set ?_ (IsS103.ge HI0.out)) | exact HB.out), mvK HK.out⟩
     ·
      rw [if_neg c29] at H
      exact absurd H (by simp)
    ·
     rw [if_neg c28] at H
     exact absurd H (by simp)
   ·
    rw [if_neg c25] at H
    have c25b0 : decide (0 < (t169.length : Int)) = false := decide_eq_false c25
    have c25b1 : decide (0 < t169.length) = false := decide_eq_false (by omega)
    clear c25
    simp only [Option.some.injEq, Prod.mk.injEq] at H
    obtain ⟨rfl, rfl, rfl⟩ := H
    go_enter Try.func38, Try.ntmps38
    go_wp2_with (first | ((with_reducible refine gate_callee (f := 76) rfl ?_); refine goesA_ (some 8) Try.func76 #[.pointer (some ⟨g, 0, none⟩)] ?_; (with_reducible refine (spec_l24DrawOk.calls k g s0_0 s0_1 s0_2 t169 t172 t173 w0 _ ?side1 ?side2 A2.out).mono ?_); (case side1 => repeat (first | (with_reducible first | exact HI0.out | apply IsS103.alloc | apply IsS103.drewN | apply IsS103.drew | apply IsS103.set_1 | apply IsS103.set_2) | exact HI0.out)); (case side2 => repeat (first | (with_reducible first | exact HB.out | apply below_alloc | apply pw_below_drewN | apply below_drew1 | refine below_set ?_ (IsS103.ge HI0.out)) | exact HB.out)); rintro e w41 ⟨v170, rfl, ho0, hi, hb, hk⟩; refine ⟨_, rfl, ?_⟩; have n0_ := Aside0.mk (Kd.S_lower ho0 (keep_size (w := w) (g := g) (row := none) (mvK HK.out))); have n1_ := Aside0.mk (KeepBut.trans (mvK HK.out) hk (.inl rfl)); have n2_ := Aside0.mk (hb); have n3_ := Aside0.mk (hi); clear HK HB HI0; revert n0_ n1_ n2_ n3_; intro HO171 HK HB HI0; (try clear hb); (try clear hk); (try clear hi); (try clear ho0); obtain ⟨Ao42, co42, eo42⟩ := Kd.S_slice HO171.out; subst eo42) | ((with_reducible refine gate_callee (f := 77) rfl ?_); refine goesA_ (some 12) Try.func77 #[.pointer (some ⟨g, 0, none⟩), .int .i64 20] ?_; (with_reducible refine (spec_l00Src_pick.calls g s0_0 t172 t173 20 t174 t175 t176 w0 _ ?side1 ?side2 A3.out).mono ?_); (case side1 => repeat (first | (with_reducible first | exact HI0.out | apply IsS103.alloc | apply IsS103.drewN | apply IsS103.drew | apply IsS103.set_1 | apply IsS103.set_2) | exact HI0.out)); (case side2 => repeat (first | (with_reducible first | exact HB.out | apply below_alloc | apply pw_below_drewN | apply below_drew1 | refine below_set ?_ (IsS103.ge HI0.out)) | exact HB.out)); rintro e w43 ⟨rfl, hi, hb, hk⟩; refine ⟨_, rfl, ?_⟩; have n0_ := Aside0.mk (Kd.S_mono (Kd.S_keep (IsS103.apartS (show IsS103 w0 _ g s0_0 t172 t173 from by repeat (first | (with_reducible first | exact HI0.out | apply IsS103.alloc | apply IsS103.drewN | apply IsS103.drew | apply IsS103.set_1 | apply IsS103.set_2) | exact HI0.out)) (mv HO171.out) (by decide)) hk (fun _ h => h.2)) (fun _ h => h.1)); have n1_ := Aside0.mk (KeepBut.trans (mvK HK.out) hk (.inl rfl)); have n2_ := Aside0.mk (hb); have n3_ := Aside0.mk (hi); clear HO171 HK HB HI0; revert n0_ n1_ n2_ n3_; intro HO171 HK HB HI0; (try clear hb); (try clear hk); (try clear hi)))
    go_ret
    exact ⟨_, by first | rfl | (simp [errW_none, errW_some] <;> rfl) | (simp [*, errW_none, errW_some] <;> rfl), mv HO171.out, by repeat (first | (with_reducible first | exact HI0.out | apply IsS103.alloc | apply IsS103.drewN | apply IsS103.drew | apply IsS103.set_1 | apply IsS103.set_2) | exact HI0.out), by repeat (first | (with_reducible first | exact HB.out | apply below_alloc | apply pw_below_drewN | apply below_drew1 | refine below_set ?_ (IsS103.ge HI0.out)) | exact HB.out), mvK HK.out⟩
  ·
   rw [if_neg c24] at H
   have c24b0 : (t174 == 1) = false := beq_eq_false_iff_ne.mpr c24
   have c24b1 : (t174 != 1) = true := bne_iff_ne.mpr c24
   by_cases c44 : t174 = 2
   ·
    rw [if_pos c44] at H
    have c44b0 : (t174 == 2) = true := beq_iff_eq.mpr c44
    have c44b1 : (t174 != 2) = false := bne_eq_false_iff_eq.mpr c44
    clear c44
    by_cases c45 : (t169.length : Int) > 1
    ·
     rw [if_pos c45] at H
     have c45b0 : decide (1 < (t169.length : Int)) = true := decide_eq_true c45
     have c45b1 : decide (1 < t169.length) = true := decide_eq_true (by omega)
     clear c45
     obtain ⟨ji46, hji46⟩ : ∃ j_ : Int, (wrap64 ((t169.length : Int) - 1)) = j_ := ⟨_, rfl⟩
     replace H : (if 0 ≤ (ji46) then (if (ji46) < (t169.length : Int) then (if 0 < (t169.length : Int) then (some ((t169.set (0 : Int).toNat (⟨(rd_T34 t169 0).f0, (rd_T34 t169 0).f1, (rd_T34 t169 0).f2, (([(rd_T34 t169 (ji46)).f0] : List ByteArray))⟩ : S34)), t175, t176)) else (none)) else (none)) else (none)) = some (r1, r2, r3) := by first | (rw [hji46] at H; exact H) | (simp only [hji46] at H ⊢; exact H)
     (try rw [hji46] at A2)
     (try rw [hji46] at A3)
     have hji46w : (IntKind.i64.wrap ((t169.length : Int) - 1)) = ji46 := (i64_w _).trans hji46
     by_cases c47 : 0 ≤ (ji46)
     ·
      rw [if_pos c47] at H
      have c47b0 : decide (0 ≤ (ji46)) = true := decide_eq_true c47
      clear c47
      by_cases c48 : (ji46) < (t169.length : Int)
      ·
       rw [if_pos c48] at H
       have c48b0 : decide ((ji46) < (t169.length : Int)) = true := decide_eq_true c48
       clear c48
       obtain ⟨y198, hy198⟩ : ∃ y_ : List ByteArray, y_ = (([(rd_T34 t169 (ji46)).f0] : List ByteArray)) := ⟨_, rfl⟩
       replace H : (if 0 < (t169.length : Int) then (some ((t169.set (0 : Int).toNat (⟨(rd_T34 t169 0).f0, (rd_T34 t169 0).f1, (rd_T34 t169 0).f2, y198⟩ : S34)), t175, t176)) else (none)) = some (r1, r2, r3) := by first | (rw [hy198]; with_reducible exact H) | (have H2_ := (Option.bind_some _ _).symm.trans H; rw [hy198]; with_reducible exact H2_) | (have H2_ := (Option.bind_some _ _).symm.trans H; with_reducible exact H2_) | with_reducible exact H | (rw [hy198]; exact H) | exact H
       have Ny198 := Aside0.mk hy198
       clear hy198
       by_cases c49 : 0 < (t169.length : Int)
       ·
        rw [if_pos c49] at H
        have c49b0 : decide (0 < (t169.length : Int)) = true := decide_eq_true c49
        have c49b1 : decide (0 < t169.length) = true := decide_eq_true (by omega)
        clear c49
        obtain ⟨y201, hy201⟩ : ∃ y_ : List (S34), y_ = (t169.set (0 : Int).toNat (⟨(rd_T34 t169 0).f0, (rd_T34 t169 0).f1, (rd_T34 t169 0).f2, y198⟩ : S34)) := ⟨_, rfl⟩
        replace H : (some (y201, t175, t176)) = some (r1, r2, r3) := by first | (rw [hy201]; with_reducible exact H) | (have H2_ := (Option.bind_some _ _).symm.trans H; rw [hy201]; with_reducible exact H2_) | (have H2_ := (Option.bind_some _ _).symm.trans H; with_reducible exact H2_) | with_reducible exact H | (rw [hy201]; exact H) | exact H
        have Ny201 := Aside0.mk hy201
        clear hy201
        simp only [Option.some.injEq, Prod.mk.injEq] at H
        obtain ⟨rfl, rfl, rfl⟩ := H
        go_enter Try.func38, Try.ntmps38
        go_wp2_with (first | ((with_reducible refine gate_callee (f := 76) rfl ?_); refine goesA_ (some 8) Try.func76 #[.pointer (some ⟨g, 0, none⟩)] ?_; (with_reducible refine (spec_l24DrawOk.calls k g s0_0 s0_1 s0_2 t169 t172 t173 w0 _ ?side1 ?side2 A2.out).mono ?_); (case side1 => repeat (first | (with_reducible first | exact HI0.out | apply IsS103.alloc | apply IsS103.drewN | apply IsS103.drew | apply IsS103.set_1 | apply IsS103.set_2) | exact HI0.out)); (case side2 => repeat (first | (with_reducible first | exact HB.out | apply below_alloc | apply pw_below_drewN | apply below_drew1 | refine below_set ?_ (IsS103.ge HI0.out)) | exact HB.out)); rintro e w51 ⟨v170, rfl, ho0, hi, hb, hk⟩; refine ⟨_, rfl, ?_⟩; have n0_ := Aside0.mk (Kd.S_lower ho0 (keep_size (w := w) (g := g) (row := none) (mvK HK.out))); have n1_ := Aside0.mk (KeepBut.trans (mvK HK.out) hk (.inl rfl)); have n2_ := Aside0.mk (hb); have n3_ := Aside0.mk (hi); clear HK HB HI0; revert n0_ n1_ n2_ n3_; intro HO171 HK HB HI0; (try clear hb); (try clear hk); (try clear hi); (try clear ho0); obtain ⟨Ao52, co52, eo52⟩ := Kd.S_slice HO171.out; subst eo52) | ((with_reducible refine gate_callee (f := 77) rfl ?_); refine goesA_ (some 12) Try.func77 #[.pointer (some ⟨g, 0, none⟩), .int .i64 20] ?_; (with_reducible refine (spec_l00Src_pick.calls g s0_0 t172 t173 20 t174 t175 t176 w0 _ ?side1 ?side2 A3.out).mono ?_); (case side1 => repeat (first | (with_reducible first | exact HI0.out | apply IsS103.alloc | apply IsS103.drewN | apply IsS103.drew | apply IsS103.set_1 | apply IsS103.set_2) | exact HI0.out)); (case side2 => repeat (first | (with_reducible first | exact HB.out | apply below_alloc | apply pw_below_drewN | apply below_drew1 | refine below_set ?_ (IsS103.ge HI0.out)) | exact HB.out)); rintro e w53 ⟨rfl, hi, hb, hk⟩; refine ⟨_, rfl, ?_⟩; have n0_ := Aside0.mk (Kd.S_mono (Kd.S_keep (IsS103.apartS (show IsS103 w0 _ g s0_0 t172 t173 from by repeat (first | (with_reducible first | exact HI0.out | apply IsS103.alloc | apply IsS103.drewN | apply IsS103.drew | apply IsS103.set_1 | apply IsS103.set_2) | exact HI0.out)) (mv HO171.out) (by decide)) hk (fun _ h => h.2)) (fun _ h => h.1)); have n1_ := Aside0.mk (KeepBut.trans (mvK HK.out) hk (.inl rfl)); have n2_ := Aside0.mk (hb); have n3_ := Aside0.mk (hi); clear HO171 HK HB HI0; revert n0_ n1_ n2_ n3_; intro HO171 HK HB HI0; (try clear hb); (try clear hk); (try clear hi); have p197 : 0 ≤ ((ji46) : Int) := od; have q197 : (ji46) < (t169.length : Int) := od; obtain ⟨ad197, A197_3, c197_3, e197, hx197_0, hx197_1, hx197_2, hx197_3, hl197_3, hi197_3⟩ := at_T34 (Kd.S_reads' HO171.out).2.2 (ji46) p197 q197; cases e197; obtain ⟨ce197, hce197, hMe197, hcc197⟩ := Kd.S_get HO171.out z34 (ji46) p197 (by first | exact q197 | exact od | (have e_ := (Kd.S_reads' HO171.out).1; omega)); obtain ⟨ve197_3, rfl, ge197_3⟩ := k34_openM hMe197; have hv197_3 := hcc197 3 _ rfl; rw [add_field _ _ 3 (by omega)] at hv197_3; replace hv197_3 := Option.some.inj (hv197_3.symm.trans hx197_3); rw [hv197_3] at ge197_3; have HL197_3 := Aside0.mk (show Kd.R Kd.string 9 _ _ _ _ ((rd_T34 t169 (ji46)).f3) from ge197_3); clear hv197_3 ge197_3; clear hcc197 hce197; have HR197_3 := Aside0.mk hi197_3; have HC197_3 := Aside0.mk hl197_3; clear hi197_3 hl197_3; replace p197 := eq_true p197; replace q197 := eq_true q197) | ((with_reducible refine gate_dst (N := 50) rfl ?_); refine Kd.R_lit Kd.string _ 9 ?hg (N := 50) ?hd (xs := ([(rd_T34 t169 (ji46)).f0] : List ByteArray)) (inner := [.string ((rd_T34 t169 (ji46)).f0)]) (ok := fun _ => True) (okp := fun _ => True) ?hr ?hp (fun _ hk => hk) trivial (Below.refl _ _) (Nat.le_refl _) (by simp) ?_; (case hd => rfl); (case hg => rfl); (case hr => first | (go_simp; done) | (go_simp; rfl)); (case hp => exact (Reps.one (show Kd.M Kd.string _ _ _ ((rd_T34 t169 (ji46)).f0) [.string ((rd_T34 t169 (ji46)).f0)] from rfl) (Reps.none _ _))); intro v199 w54 ho55 hb hg_ hnew_; clear hg_ hnew_; (first | rw [← Ny198.out] at ho55 | (simp only [Int.reduceToNat] at ho55; rw [← Ny198.out] at ho55)); have n0_ := Aside0.mk (Kd.S_elder' (mv HO171.out) (Kd.R_base ho55) hb); have n1_ := Aside0.mk (Kd.R_elder' (mv HL197_3.out) (Kd.R_base ho55) hb); have n2_ := Aside0.mk (Kd.R_lower (Kd.R_new' ho55 (Kd.R_lt (mv HL197_3.out))) (keep_size (w := w) (g := g) (row := none) (mvK HK.out))); have n3_ := Aside0.mk (IsS103.below (by repeat (first | (with_reducible first | exact HI0.out | apply IsS103.alloc | apply IsS103.drewN | apply IsS103.drew | apply IsS103.set_1 | apply IsS103.set_2) | exact HI0.out)) hb); have n4_ := Aside0.mk (Kd.C_below (by repeat (first | (with_reducible exact HR197_3.out) | (with_reducible refine Kd.C_alloc ?_ _) | (with_reducible refine Kd.C_drewN ?_ _) | (with_reducible refine Kd.C_drew ?_) | exact HR197_3.out)) hb); have n5_ := Aside0.mk (KeepBut.trans (mvK HK.out) (KeepBut.of_below hb g none) (.inl rfl)); have n6_ := Aside0.mk (below_step (by repeat (first | (with_reducible first | exact HB.out | apply below_alloc | apply pw_below_drewN | apply below_drew1 | refine below_set ?_ (IsS103.ge HI0.out)) | exact HB.out)) hb); clear HO171 HL197_3 HI0 HR197_3 HK HB; revert n0_ n1_ n2_ n3_ n4_ n5_ n6_; intro HO171 HL197_3 HO200 HI0 HR197_3 HK HB; clear hb ho55; have p50 : 0 ≤ (0 : Int) := (by omega); have q50 : (0 : Int) < ((t169.length : Int) : Int) := od; have qi50 : (0 < t169.length) = True := eq_true (by omega); obtain ⟨go50, co50, eo50, gb50, gl50, cl50, HG50⟩ := Kd.S_form HO171.out (by omega); (first | cases eo50 | (injection eo50 with ea_ en_ ec_; (first | subst ea_ | (injection ea_ with ea_; subst ea_)); subst ec_; clear en_)); have GB50 := Aside0.mk gb50; have GG50 := Aside0.mk HG50; clear gb50 gl50 HG50; (first | simp only [add_plain] at hx197_0 | skip); (first | simp only [add_plain] at hx197_1 | skip); (first | simp only [add_plain] at hx197_2 | skip); (first | simp only [add_plain] at hx197_3 | skip); obtain ⟨_, ce50, hcl50, hM50, hcc50, hfr50, _, _⟩ := Kd.S_elem HO171.out z34 (0 : Int) p50 q50; obtain ⟨ve50_3, rfl, ge50_3⟩ := k34_openM hM50; have hx50_0 : w54.cell? ⟨go50, (0 : Int).toNat * 4, none⟩ = some (.string ((rd_T34 t169 0).f0)) := hcc50 0 _ rfl; have hx50_1 : w54.cell? ⟨go50, (0 : Int).toNat * 4 + 1, none⟩ = some (.int .i64 ((rd_T34 t169 0).f1)) := hcc50 1 _ rfl; have hx50_2 : w54.cell? ⟨go50, (0 : Int).toNat * 4 + 2, none⟩ = some (.int .i64 ((rd_T34 t169 0).f2)) := hcc50 2 _ rfl; have hx50_3 : w54.cell? ⟨go50, (0 : Int).toNat * 4 + 3, none⟩ = some (ve50_3) := hcc50 3 _ rfl; have hf50_0 : w54.frozen? ⟨go50, (0 : Int).toNat * 4, none⟩ = false := hfr50 0; have hf50_1 : w54.frozen? ⟨go50, (0 : Int).toNat * 4 + 1, none⟩ = false := hfr50 1; have hf50_2 : w54.frozen? ⟨go50, (0 : Int).toNat * 4 + 2, none⟩ = false := hfr50 2; have hf50_3 : w54.frozen? ⟨go50, (0 : Int).toNat * 4 + 3, none⟩ = false := hfr50 3; (try clear hM50); clear hcl50 hcc50 hfr50; (try rw [show ((0 : Int)).toNat = 0 from rfl] at hx50_0); (try simp only [Nat.reduceMul, Nat.zero_mul, Nat.zero_add, Nat.reduceAdd] at hx50_0); (try rw [show ((0 : Int)).toNat = 0 from rfl] at hf50_0); (try simp only [Nat.reduceMul, Nat.zero_mul, Nat.zero_add, Nat.reduceAdd] at hf50_0); (try rw [show ((0 : Int)).toNat = 0 from rfl] at hx50_1); (try simp only [Nat.reduceMul, Nat.zero_mul, Nat.zero_add, Nat.reduceAdd] at hx50_1); (try rw [show ((0 : Int)).toNat = 0 from rfl] at hf50_1); (try simp only [Nat.reduceMul, Nat.zero_mul, Nat.zero_add, Nat.reduceAdd] at hf50_1); (try rw [show ((0 : Int)).toNat = 0 from rfl] at hx50_2); (try simp only [Nat.reduceMul, Nat.zero_mul, Nat.zero_add, Nat.reduceAdd] at hx50_2); (try rw [show ((0 : Int)).toNat = 0 from rfl] at hf50_2); (try simp only [Nat.reduceMul, Nat.zero_mul, Nat.zero_add, Nat.reduceAdd] at hf50_2); (try rw [show ((0 : Int)).toNat = 0 from rfl] at hx50_3); (try simp only [Nat.reduceMul, Nat.zero_mul, Nat.zero_add, Nat.reduceAdd] at hx50_3); (try rw [show ((0 : Int)).toNat = 0 from rfl] at hf50_3); (try simp only [Nat.reduceMul, Nat.zero_mul, Nat.zero_add, Nat.reduceAdd] at hf50_3); replace p50 := eq_true p50; replace q50 := eq_true q50; have n_ := Aside0.mk (Kd.S_mono (ok' := (fun k_ => some k_ ≠ (v199 : Value).ownBlock)) HO171.out (fun k_ hk => hk.2)); clear HO171; have HO171 := n_; clear n_; have HX56 := Aside0.mk (show Kd.S k34 34 w54 w.heap.size (fun k_ => ((fun _ => True)) k_ ∧ ¬ ((fun k_ => some k_ = (v199 : Value).ownBlock)) k_) (.slice (some ⟨go50, 0, none⟩) t169.length co52) t169 from (by (with_reducible repeat (first | apply Kd.S_alloc | apply Kd.S_drewN | apply Kd.S_drew)); exact Kd.S_mono HO171.out (fun k_ hk => ⟨trivial, fun e_ => hk e_⟩))); obtain ⟨oki56, ce56, hcl56, hM56, hcc56, hfr56, hoki56, hH56⟩ := Kd.S_elem HX56.out z34 (0 : Int) (by omega) (by have h_ : (0 : Int) < ((t169.length : Int) : Int) := od; first | exact h_ | (have e_ := (Kd.S_reads' HO171.out).1; omega) | simpa using h_); obtain ⟨ve56_3, rfl, ge56_3⟩ := k34_openM hM56; have HP56 := Kd.S_seg hH56 (by omega) (by have h_ : (0 : Int) < ((t169.length : Int) : Int) := od; first | exact h_ | (have e_ := (Kd.S_reads' HO171.out).1; omega) | simpa using h_) (seg := [v199]) (j := 3) (show 4 ≤ 4 from by decide) (x' := (⟨(rd_T34 t169 0).f0, (rd_T34 t169 0).f1, (rd_T34 t169 0).f2, y198⟩ : S34)) (k34_mkM _ _ _ (⟨(rd_T34 t169 0).f0, (rd_T34 t169 0).f1, (rd_T34 t169 0).f2, y198⟩ : S34) (Kd.R_mono (Kd.R_tight rfl (Kd.R_mono (ok' := fun k_ => ((fun _ => True)) k_ ∧ k_ ≠ go50) (Kd.R_apart' (HO200.out) (Kd.S_typed HO171.out) (by decide)) (fun k_ hk => ⟨trivial, fun e_ => (hk.2) (by rw [e_]; rfl)⟩))) (fun _ h_ => Or.inr (h_)))) (fun _ hk => hk) (fun k_ hk_ => ((Kd.R_mono (ok' := fun k_ => ((fun _ => True)) k_ ∧ k_ ≠ go50) (Kd.R_apart' (HO200.out) (Kd.S_typed HO171.out) (by decide)) (fun k_ hk => ⟨trivial, fun e_ => (hk.2) (by rw [e_]; rfl)⟩))).1 k_ hk_.symm); have hx56_3 := hcc56 3 _ rfl; (try simp only [show (k34).sz = 4 from rfl, Nat.mul_one, Nat.add_zero] at hx56_3); (try rw [show ((0 : Int)).toNat = 0 from rfl] at hx56_3); (try simp only [Nat.reduceMul, Nat.zero_mul, Nat.zero_add, Nat.reduceAdd] at hx56_3); have hf56_3 := hfr56 3; (try simp only [show (k34).sz = 4 from rfl, Nat.mul_one, Nat.add_zero] at hf56_3); (try rw [show ((0 : Int)).toNat = 0 from rfl] at hf56_3); (try simp only [Nat.reduceMul, Nat.zero_mul, Nat.zero_add, Nat.reduceAdd] at hf56_3); (try clear hM56); clear hcl56 hcc56 hfr56 hoki56 hH56) | ((with_reducible refine gate_store (t := 32) (p := 52) rfl ?_); refine store_event (t := 32) (p := 52) (v := ?vo_w57) (w1 := (w54.setCell ⟨go50, 3, none⟩ (v199))) ?hg ?ho ?hn ?hr ?_; (case ho => rfl); (case hg => rfl); (case hn => rfl); (case hr => first | (go_simp; done) | (go_simp; rfl) | (obtain ⟨Ah199_, ch199_, eh199_⟩ := Kd.R_slice HO200.out; subst eh199_; go_simp; done) | (obtain ⟨Ah199_, ch199_, eh199_⟩ := Kd.R_slice (Kd.S_R HO200.out); subst eh199_; go_simp; done)); intro w57 hw; have hg : w54.grownBy w57 (some go50) := (by rw [hw]; exact HP56.2); have hp_ : Kd.S k34 34 w57 w.heap.size (fun _ => True) (.slice (some ⟨go50, 0, none⟩) t169.length co52) y201 := (by rw [hw, Ny201.out]; exact HP56.1); clear HP56; have n0_ := Aside0.mk (IsS103.grown (by repeat (first | (with_reducible first | exact HI0.out | apply IsS103.alloc | apply IsS103.drewN | apply IsS103.drew | apply IsS103.set_1 | apply IsS103.set_2) | exact HI0.out)) hg (IsS103.own_neS HI0.out HO171.out (by decide))); have n1_ := Aside0.mk (hp_); have n2_ := Aside0.mk (Kd.R_after (v := (.slice (some ⟨go50, 0, none⟩) t169.length co52)) (v1 := (.slice (some ⟨go50, 0, none⟩) t169.length co52)) (ok := (fun k_ => some k_ ≠ (v199 : Value).ownBlock)) (by (with_reducible repeat (first | apply Kd.R_alloc | apply Kd.R_drewN | apply Kd.R_drew)); exact Kd.R_mono HL197_3.out (fun _ hk => ⟨hk.2, hk.1.2⟩)) hg (.inl rfl)); have n3_ := Aside0.mk ((by rw [hw]; exact below_set (HB.out) (Nat.le_trans HL.out GB50.out) : Below w0.heap.size w0 w57)); have n4_ := Aside0.mk (KeepBut.trans (mvK HK.out) (KeepBut.of_grown hg g) (Kd.S_base2 HO171.out)); clear HI0 HO171 HL197_3 HB HK HO200; revert n0_ n1_ n2_ n3_ n4_; intro HI0 HO171 HL197_3 HB HK; clear hg hw hp_))
        go_ret
        exact ⟨_, by first | rfl | (simp [errW_none, errW_some] <;> rfl) | (simp only [← hji46]; first | rfl | (simp [errW_none, errW_some] <;> rfl)) | (simp [*, errW_none, errW_some] <;> rfl), mv HO171.out, by repeat (first | (with_reducible first | exact HI0.out | apply IsS103.alloc | apply IsS103.drewN | apply IsS103.drew | apply IsS103.set_1 | apply IsS103.set_2) | exact HI0.out), by repeat (first | (with_reducible first | exact HB.out | apply below_alloc | apply pw_below_drewN | apply below_drew1 | refine below_set ?_ (IsS103.ge HI0.out)) | exact HB.out), mvK HK.out⟩
       ·
        rw [if_neg c49] at H
        exact absurd H (by simp)
      ·
       rw [if_neg c48] at H
       exact absurd H (by simp)
     ·
      rw [if_neg c47] at H
      exact absurd H (by simp)
    ·
     rw [if_neg c45] at H
     have c45b0 : decide (1 < (t169.length : Int)) = false := decide_eq_false c45
     have c45b1 : decide (1 < t169.length) = false := decide_eq_false (by omega)
     clear c45
     simp only [Option.some.injEq, Prod.mk.injEq] at H
     obtain ⟨rfl, rfl, rfl⟩ := H
     go_enter Try.func38, Try.ntmps38
     go_wp2_with (first | ((with_reducible refine gate_callee (f := 76) rfl ?_); refine goesA_ (some 8) Try.func76 #[.pointer (some ⟨g, 0, none⟩)] ?_; (with_reducible refine (spec_l24DrawOk.calls k g s0_0 s0_1 s0_2 t169 t172 t173 w0 _ ?side1 ?side2 A2.out).mono ?_); (case side1 => repeat (first | (with_reducible first | exact HI0.out | apply IsS103.alloc | apply IsS103.drewN | apply IsS103.drew | apply IsS103.set_1 | apply IsS103.set_2) | exact HI0.out)); (case side2 => repeat (first | (with_reducible first | exact HB.out | apply below_alloc | apply pw_below_drewN | apply below_drew1 | refine below_set ?_ (IsS103.ge HI0.out)) | exact HB.out)); rintro e w58 ⟨v170, rfl, ho0, hi, hb, hk⟩; refine ⟨_, rfl, ?_⟩; have n0_ := Aside0.mk (Kd.S_lower ho0 (keep_size (w := w) (g := g) (row := none) (mvK HK.out))); have n1_ := Aside0.mk (KeepBut.trans (mvK HK.out) hk (.inl rfl)); have n2_ := Aside0.mk (hb); have n3_ := Aside0.mk (hi); clear HK HB HI0; revert n0_ n1_ n2_ n3_; intro HO171 HK HB HI0; (try clear hb); (try clear hk); (try clear hi); (try clear ho0); obtain ⟨Ao59, co59, eo59⟩ := Kd.S_slice HO171.out; subst eo59) | ((with_reducible refine gate_callee (f := 77) rfl ?_); refine goesA_ (some 12) Try.func77 #[.pointer (some ⟨g, 0, none⟩), .int .i64 20] ?_; (with_reducible refine (spec_l00Src_pick.calls g s0_0 t172 t173 20 t174 t175 t176 w0 _ ?side1 ?side2 A3.out).mono ?_); (case side1 => repeat (first | (with_reducible first | exact HI0.out | apply IsS103.alloc | apply IsS103.drewN | apply IsS103.drew | apply IsS103.set_1 | apply IsS103.set_2) | exact HI0.out)); (case side2 => repeat (first | (with_reducible first | exact HB.out | apply below_alloc | apply pw_below_drewN | apply below_drew1 | refine below_set ?_ (IsS103.ge HI0.out)) | exact HB.out)); rintro e w60 ⟨rfl, hi, hb, hk⟩; refine ⟨_, rfl, ?_⟩; have n0_ := Aside0.mk (Kd.S_mono (Kd.S_keep (IsS103.apartS (show IsS103 w0 _ g s0_0 t172 t173 from by repeat (first | (with_reducible first | exact HI0.out | apply IsS103.alloc | apply IsS103.drewN | apply IsS103.drew | apply IsS103.set_1 | apply IsS103.set_2) | exact HI0.out)) (mv HO171.out) (by decide)) hk (fun _ h => h.2)) (fun _ h => h.1)); have n1_ := Aside0.mk (KeepBut.trans (mvK HK.out) hk (.inl rfl)); have n2_ := Aside0.mk (hb); have n3_ := Aside0.mk (hi); clear HO171 HK HB HI0; revert n0_ n1_ n2_ n3_; intro HO171 HK HB HI0; (try clear hb); (try clear hk); (try clear hi)))
     go_ret
     exact ⟨_, by first | rfl | (simp [errW_none, errW_some] <;> rfl) | (simp [*, errW_none, errW_some] <;> rfl), mv HO171.out, by repeat (first | (with_reducible first | exact HI0.out | apply IsS103.alloc | apply IsS103.drewN | apply IsS103.drew | apply IsS103.set_1 | apply IsS103.set_2) | exact HI0.out), by repeat (first | (with_reducible first | exact HB.out | apply below_alloc | apply pw_below_drewN | apply below_drew1 | refine below_set ?_ (IsS103.ge HI0.out)) | exact HB.out), mvK HK.out⟩
   ·
    rw [if_neg c44] at H
    have c44b0 : (t174 == 2) = false := beq_eq_false_iff_ne.mpr c44
    have c44b1 : (t174 != 2) = true := bne_iff_ne.mpr c44
    by_cases c61 : t174 = 3
    ·
     rw [if_pos c61] at H
     have c61b0 : (t174 == 3) = true := beq_iff_eq.mpr c61
     have c61b1 : (t174 != 3) = false := bne_eq_false_iff_eq.mpr c61
     clear c61
     obtain ⟨y202, hy202⟩ : ∃ y_ : List Int, y_ = (([8, 9] : List Int)) := ⟨_, rfl⟩
     replace H : ((spec_l00Src_among.f s0_0 t175 t176 y202).bind fun bt205 => (spec_l24Draw.l0 k (([] : List (S34))) bt205.1 0 s0_0 bt205.2.1 bt205.2.2)) = some (r1, r2, r3) := by first | (rw [hy202]; with_reducible exact H) | (have H2_ := (Option.bind_some _ _).symm.trans H; rw [hy202]; with_reducible exact H2_) | (have H2_ := (Option.bind_some _ _).symm.trans H; with_reducible exact H2_) | with_reducible exact H | (rw [hy202]; exact H) | exact H
     have Ny202 := Aside0.mk hy202
     clear hy202
     replace H := Option.bind_eq_some_iff.mp H
     obtain ⟨⟨t205, t206, t207⟩, A620, H⟩ := H
     replace H : (spec_l24Draw.l0 k (([] : List (S34))) t205 0 s0_0 t206 t207) = some (r1, r2, r3) := H
     have A62 := Aside0.mk A620
     clear A620
     obtain ⟨y208, hy208⟩ : ∃ y_ : List (S34), y_ = (([] : List (S34))) := ⟨_, rfl⟩
     replace H : (spec_l24Draw.l0 k y208 t205 0 s0_0 t206 t207) = some (r1, r2, r3) := by first | (rw [hy208]; with_reducible exact H) | (have H2_ := (Option.bind_some _ _).symm.trans H; rw [hy208]; with_reducible exact H2_) | (have H2_ := (Option.bind_some _ _).symm.trans H; with_reducible exact H2_) | with_reducible exact H | (rw [hy208]; exact H) | exact H
     have Ny208 := Aside0.mk hy208
     clear hy208
     have H' := Aside0.mk H
     clear H
     go_enter Try.func38, Try.ntmps38
     go_wp2_with (first | ((with_reducible refine gate_callee (f := 76) rfl ?_); refine goesA_ (some 8) Try.func76 #[.pointer (some ⟨g, 0, none⟩)] ?_; (with_reducible refine (spec_l24DrawOk.calls k g s0_0 s0_1 s0_2 t169 t172 t173 w0 _ ?side1 ?side2 A2.out).mono ?_); (case side1 => repeat (first | (with_reducible first | exact HI0.out | apply IsS103.alloc | apply IsS103.drewN | apply IsS103.drew | apply IsS103.set_1 | apply IsS103.set_2) | exact HI0.out)); (case side2 => repeat (first | (with_reducible first | exact HB.out | apply below_alloc | apply pw_below_drewN | apply below_drew1 | refine below_set ?_ (IsS103.ge HI0.out)) | exact HB.out)); rintro e w63 ⟨v170, rfl, ho0, hi, hb, hk⟩; refine ⟨_, rfl, ?_⟩; have n0_ := Aside0.mk (Kd.S_lower ho0 (keep_size (w := w) (g := g) (row := none) (mvK HK.out))); have n1_ := Aside0.mk (KeepBut.trans (mvK HK.out) hk (.inl rfl)); have n2_ := Aside0.mk (hb); have n3_ := Aside0.mk (hi); clear HK HB HI0; revert n0_ n1_ n2_ n3_; intro HO171 HK HB HI0; (try clear hb); (try clear hk); (try clear hi); (try clear ho0); obtain ⟨Ao64, co64, eo64⟩ := Kd.S_slice HO171.out; subst eo64) | ((with_reducible refine gate_callee (f := 77) rfl ?_); refine goesA_ (some 12) Try.func77 #[.pointer (some ⟨g, 0, none⟩), .int .i64 20] ?_; (with_reducible refine (spec_l00Src_pick.calls g s0_0 t172 t173 20 t174 t175 t176 w0 _ ?side1 ?side2 A3.out).mono ?_); (case side1 => repeat (first | (with_reducible first | exact HI0.out | apply IsS103.alloc | apply IsS103.drewN | apply IsS103.drew | apply IsS103.set_1 | apply IsS103.set_2) | exact HI0.out)); (case side2 => repeat (first | (with_reducible first | exact HB.out | apply below_alloc | apply pw_below_drewN | apply below_drew1 | refine below_set ?_ (IsS103.ge HI0.out)) | exact HB.out)); rintro e w65 ⟨rfl, hi, hb, hk⟩; refine ⟨_, rfl, ?_⟩; have n0_ := Aside0.mk (Kd.S_mono (Kd.S_keep (IsS103.apartS (show IsS103 w0 _ g s0_0 t172 t173 from by repeat (first | (with_reducible first | exact HI0.out | apply IsS103.alloc | apply IsS103.drewN | apply IsS103.drew | apply IsS103.set_1 | apply IsS103.set_2) | exact HI0.out)) (mv HO171.out) (by decide)) hk (fun _ h => h.2)) (fun _ h => h.1)); have n1_ := Aside0.mk (KeepBut.trans (mvK HK.out) hk (.inl rfl)); have n2_ := Aside0.mk (hb); have n3_ := Aside0.mk (hi); clear HO171 HK HB HI0; revert n0_ n1_ n2_ n3_; intro HO171 HK HB HI0; (try clear hb); (try clear hk); (try clear hi)) | ((with_reducible refine gate_dst (N := 56) rfl ?_); refine Kd.R_lit (Kd.int .i64) _ 2 ?hg (N := 56) ?hd (xs := ([8, 9] : List Int)) (inner := [.int .i64 8, .int .i64 9]) (ok := fun _ => True) (okp := fun _ => True) ?hr ?hp (fun _ hk => hk) trivial (Below.refl _ _) (Nat.le_refl _) (by simp) ?_; (case hd => rfl); (case hg => rfl); (case hr => first | (go_simp; done) | (go_simp; rfl)); (case hp => exact (Reps.one (show Kd.M (Kd.int .i64) _ _ _ 8 [.int .i64 8] from rfl) (Reps.one (show Kd.M (Kd.int .i64) _ _ _ 9 [.int .i64 9] from rfl) (Reps.none _ _)))); intro v203 w66 ho67 hb hg_ hnew_; clear hg_ hnew_; (first | rw [← Ny202.out] at ho67 | (simp only [Int.reduceToNat] at ho67; rw [← Ny202.out] at ho67)); have n0_ := Aside0.mk (Kd.S_below (mv HO171.out) hb); have n1_ := Aside0.mk (Kd.R_lower ho67 (keep_size (w := w) (g := g) (row := none) (mvK HK.out))); have n2_ := Aside0.mk (IsS103.below (by repeat (first | (with_reducible first | exact HI0.out | apply IsS103.alloc | apply IsS103.drewN | apply IsS103.drew | apply IsS103.set_1 | apply IsS103.set_2) | exact HI0.out)) hb); have n3_ := Aside0.mk (KeepBut.trans (mvK HK.out) (KeepBut.of_below hb g none) (.inl rfl)); have n4_ := Aside0.mk (below_step (by repeat (first | (with_reducible first | exact HB.out | apply below_alloc | apply pw_below_drewN | apply below_drew1 | refine below_set ?_ (IsS103.ge HI0.out)) | exact HB.out)) hb); clear HO171 HI0 HK HB; revert n0_ n1_ n2_ n3_ n4_; intro HO171 HO204 HI0 HK HB; clear hb ho67; obtain ⟨Ao68, co68, eo68⟩ := Kd.R_slice HO204.out; subst eo68) | ((with_reducible refine gate_callee (f := 40) rfl ?_); refine goesA_ (some 57) Try.func40 #[.pointer (some ⟨g, 0, none⟩), .slice Ao68 y202.length co68] ?_; (with_reducible refine (spec_l00Src_among.calls g s0_0 t175 t176 _ _ y202 t205 t206 t207 w0 _ ?side1 ?side2 ?side3 ?side4 ?side5 A62.out).mono ?_); (case side1 => repeat (first | (with_reducible first | exact HI0.out | apply IsS103.alloc | apply IsS103.drewN | apply IsS103.drew | apply IsS103.set_1 | apply IsS103.set_2) | exact HI0.out)); (case side2 => repeat (first | (with_reducible first | exact HB.out | apply below_alloc | apply pw_below_drewN | apply below_drew1 | refine below_set ?_ (IsS103.ge HI0.out)) | exact HB.out)); (case side3 => exact mvC (Kd.R_reads' HO204.out).2.2); (case side4 => exact (Kd.R_reads' HO204.out).2.1); (case side5 => exact far_slice (IsS103.own_ne HI0.out HO204.out (by decide))); rintro e w69 ⟨rfl, hi, hb, hk⟩; refine ⟨_, rfl, ?_⟩; have n0_ := Aside0.mk (Kd.S_mono (Kd.S_keep (IsS103.apartS (show IsS103 w0 _ g s0_0 t175 t176 from by repeat (first | (with_reducible first | exact HI0.out | apply IsS103.alloc | apply IsS103.drewN | apply IsS103.drew | apply IsS103.set_1 | apply IsS103.set_2) | exact HI0.out)) (mv HO171.out) (by decide)) hk (fun _ h => h.2)) (fun _ h => h.1)); have n1_ := Aside0.mk (Kd.R_mono (Kd.R_keep (IsS103.apart (show IsS103 w0 _ g s0_0 t175 t176 from by repeat (first | (with_reducible first | exact HI0.out | apply IsS103.alloc | apply IsS103.drewN | apply IsS103.drew | apply IsS103.set_1 | apply IsS103.set_2) | exact HI0.out)) (mv HO204.out) (by decide)) hk (fun _ h => h.2)) (fun _ h => h.1)); have n2_ := Aside0.mk (KeepBut.trans (mvK HK.out) hk (.inl rfl)); have n3_ := Aside0.mk (hb); have n4_ := Aside0.mk (hi); clear HO171 HO204 HK HB HI0; revert n0_ n1_ n2_ n3_ n4_; intro HO171 HO204 HK HB HI0; (try clear hb); (try clear hk); (try clear hi)) | ((with_reducible refine gate_dst (N := 58) rfl ?_); refine Kd.S_lit k34 _ 34 ?hg (N := 58) ?hd (xs := ([] : List (S34))) (inner := []) (ok := fun _ => True) (okp := fun _ => True) ?hr ?hp (fun _ hk => hk) trivial (Below.refl _ _) (Nat.le_refl _) (by simp) ?_; (case hd => rfl); (case hg => rfl); (case hr => first | (go_simp; done) | (go_simp; rfl)); (case hp => exact (Reps.none _ _)); intro v209 w70 ho71 hb hg_ hnew_; clear hg_ hnew_; (first | rw [← Ny208.out] at ho71 | (simp only [Int.reduceToNat] at ho71; rw [← Ny208.out] at ho71)); have n0_ := Aside0.mk (Kd.S_elder' (mv HO171.out) (Kd.S_base ho71) hb); have n1_ := Aside0.mk (Kd.R_below (mv HO204.out) hb); have n2_ := Aside0.mk (Kd.S_lower (Kd.S_new' ho71 (Kd.S_lt (mv HO171.out))) (keep_size (w := w) (g := g) (row := none) (mvK HK.out))); have n3_ := Aside0.mk (IsS103.below (by repeat (first | (with_reducible first | exact HI0.out | apply IsS103.alloc | apply IsS103.drewN | apply IsS103.drew | apply IsS103.set_1 | apply IsS103.set_2) | exact HI0.out)) hb); have n4_ := Aside0.mk (KeepBut.trans (mvK HK.out) (KeepBut.of_below hb g none) (.inl rfl)); have n5_ := Aside0.mk (below_step (by repeat (first | (with_reducible first | exact HB.out | apply below_alloc | apply pw_below_drewN | apply below_drew1 | refine below_set ?_ (IsS103.ge HI0.out)) | exact HB.out)) hb); clear HO171 HO204 HI0 HK HB; revert n0_ n1_ n2_ n3_ n4_ n5_; intro HO171 HO204 HO210 HI0 HK HB; clear hb ho71))
     go_loopg [3, 6] k (fun kq v3 v6 w' => ∃ (x3_1 : List (S34)) (x6_1 : Int), v6 = .int .i64 x6_1 ∧ Aside0 (spec_l24Draw.l0 kq x3_1 t205 x6_1 s0_0 t206 t207 = some (r1, r2, r3)) ∧ Aside0 (kq ≤ k) ∧ Aside0 (Kd.S k34 34 w' w.heap.size (fun _ => True) v3 x3_1) ∧ Aside0 (IsS103 w0 w' g s0_0 t206 t207) ∧ Aside0 (KeepBut w w' g none) ∧ Aside0 (Below w0.heap.size w0 w'))
     case atStart => exact ⟨(y208), (0), rs, H', ⟨Nat.le_refl _⟩, ⟨by (with_reducible repeat (first | apply Kd.S_alloc | apply Kd.S_drewN | apply Kd.S_drew)); exact Kd.S_mono HO210.out (fun _ hk => trivial)⟩, ⟨by repeat (first | (with_reducible first | exact HI0.out | apply IsS103.alloc | apply IsS103.drewN | apply IsS103.drew | apply IsS103.set_1 | apply IsS103.set_2) | exact HI0.out)⟩, ⟨mvK HK.out⟩, ⟨by repeat (first | (with_reducible first | exact HB.out | apply below_alloc | apply pw_below_drewN | apply below_drew1 | refine below_set ?_ (IsS103.ge HI0.out)) | exact HB.out)⟩⟩
     case round =>
      clear H'
      try clear c4b0
      try clear c4b1
      try clear c24b0
      try clear c24b1
      try clear c44b0
      try clear c44b1
      try clear c61b0
      try clear c61b1
      obtain ⟨x3_1, x6_1, rfl, HA, HK1, HO_3, HI0, HK, HB⟩ := hrel
      cases gk with
      | zero => exact absurd HA.out (by simp [spec_l24Draw.l0])
      | succ k1 =>
       have H := HA.out
       clear HA
       simp only [spec_l24Draw.l0] at H
       by_cases c72 : x6_1 < t205
       ·
        rw [if_pos c72] at H
        have c72b0 : decide (x6_1 < t205) = true := decide_eq_true c72
        clear c72
        replace H := Option.bind_eq_some_iff.mp H
        obtain ⟨t211, A730, H⟩ := H
        replace H : (if 1 + t211.size ≤ 9223372036854775807 then (if x3_1.length < 2513169434916 then (spec_l24Draw.l0 k1 (x3_1 ++ [(⟨(⟨#[110]⟩ : ByteArray) ++ t211, 10, x6_1, ([] : List ByteArray)⟩ : S34)]) t205 (wrap64 (x6_1 + 1)) s0_0 t206 t207) else (none)) else (none)) = some (r1, r2, r3) := H
        have A73 := Aside0.mk A730
        clear A730
        by_cases c74 : 1 + t211.size ≤ 9223372036854775807
        ·
         rw [if_pos c74] at H
         have c74b0 := eq_true c74
         have c74b1 : decide (1 + t211.size ≤ 9223372036854775807) = true := decide_eq_true c74
         try have c74b2 : (9223372036854775807 < 1 + t211.size) = False := eq_false (Nat.not_lt.2 c74)
         by_cases c75 : x3_1.length < 2513169434916
         ·
          rw [if_pos c75] at H
          have LMc75 := Aside0.mk c75
          clear c75
          obtain ⟨y212, hy212⟩ : ∃ y_ : List (S34), y_ = (x3_1 ++ [(⟨(⟨#[110]⟩ : ByteArray) ++ t211, 10, x6_1, ([] : List ByteArray)⟩ : S34)]) := ⟨_, rfl⟩
          replace H : (spec_l24Draw.l0 k1 y212 t205 (wrap64 (x6_1 + 1)) s0_0 t206 t207) = some (r1, r2, r3) := by first | (rw [hy212]; with_reducible exact H) | (have H2_ := (Option.bind_some _ _).symm.trans H; rw [hy212]; with_reducible exact H2_) | (have H2_ := (Option.bind_some _ _).symm.trans H; with_reducible exact H2_) | with_reducible exact H | (rw [hy212]; exact H) | exact H
          have Ny212 := Aside0.mk hy212
          clear hy212
          have H' := Aside0.mk H
          clear H
          go_wp2_with (first | ((with_reducible refine gate_callee (f := 78) rfl ?_); refine goesA_ (some 66) Try.func78 #[.int .i64 x6_1] ?_; (with_reducible refine (spec_l01Dec.calls k1 x6_1 t211 _ A73.out).mono ?_); rintro e w76 ⟨rfl, hb⟩; refine ⟨_, rfl, ?_⟩; have n0_ := Aside0.mk (Kd.S_below (mv HO_3.out) hb); have n1_ := Aside0.mk (IsS103.below (by repeat (first | (with_reducible first | exact HI0.out | apply IsS103.alloc | apply IsS103.drewN | apply IsS103.drew | apply IsS103.set_1 | apply IsS103.set_2) | exact HI0.out)) hb); have n2_ := Aside0.mk (KeepBut.trans (mvK HK.out) (KeepBut.of_below hb g none) (.inl rfl)); have n3_ := Aside0.mk (below_step (by repeat (first | (with_reducible first | exact HB.out | apply below_alloc | apply pw_below_drewN | apply below_drew1 | refine below_set ?_ (IsS103.ge HI0.out)) | exact HB.out)) hb); clear HO_3 HI0 HK HB; revert n0_ n1_ n2_ n3_; intro HO_3 HI0 HK HB; (try clear hb); (try clear hk)) | ((with_reducible refine gate_builtin (b := .append) (xs := #[.tmp 64, .tmp 70]) rfl ?_); at_builtin; refine Kd.S_append k34 w.heap.size rfl (.tmp 64) (.tmp 70) 24 34 (.agg #[(.string ⟨#[]⟩), (.int .i64 0), (.int .i64 0), (.slice none 0 0)]) 56 rfl Try.underlying24 info34 rfl (by decide) (by omega) u3 x3_1 (⟨(⟨#[110]⟩ : ByteArray) ++ t211, 10, x6_1, ([] : List ByteArray)⟩ : S34) [.string ((⟨#[110]⟩ : ByteArray) ++ t211), .int .i64 10, .int .i64 x6_1, .slice none 0 0] (fun _ => True) (fun _ => False) rfl rfl ?aP (fun k_ hk_ => hk_.elim) ?aF ?aO (Below.refl _ _) ?aS ?aL ?_; (case aP => exact k34_mkM _ _ _ (⟨(⟨#[110]⟩ : ByteArray) ++ t211, 10, x6_1, ([] : List ByteArray)⟩ : S34) (Kd.R_nil _ _ _ _ _)); (case aF => exact (fun _ _ => trivial)); (case aO => exact (by (with_reducible repeat (first | apply Kd.S_alloc | apply Kd.S_drewN | apply Kd.S_drew)); exact Kd.S_mono HO_3.out (fun k_ hk => ⟨trivial, fun e_ => e_⟩))); (case aS => exact (keep_size (w := w) (g := g) (row := none) (mvK HK.out))); (case aL => have := LMc75.out; omega); intro v213 w77 ho hb hg hat; rw [← Ny212.out] at ho; have n0_ := Aside0.mk (IsS103.grown (by repeat (first | (with_reducible first | exact HI0.out | apply IsS103.alloc | apply IsS103.drewN | apply IsS103.drew | apply IsS103.set_1 | apply IsS103.set_2) | exact HI0.out)) hg (IsS103.own_neS HI0.out HO_3.out (by decide))); have n1_ := Aside0.mk (below_weaken (by repeat (first | (with_reducible first | exact HB.out | apply below_alloc | apply pw_below_drewN | apply below_drew1 | refine below_set ?_ (IsS103.ge HI0.out)) | exact HB.out)) HL.out hb); have n2_ := Aside0.mk (KeepBut.trans (mvK HK.out) (KeepBut.of_grown hg g) (Kd.S_base2 HO_3.out)); have n3_ := Aside0.mk (ho); clear HI0 HB HK HO_3; revert n0_ n1_ n2_ n3_; intro HI0 HB HK HO214; clear ho hb hg hat))
          go_roundg k1
          case measure => have := HK1.out; omega
          case rel => exact ⟨(y212), (wrap64 (x6_1 + 1)), rs, H', ⟨by have := HK1.out; omega⟩, ⟨mv HO214.out⟩, ⟨by repeat (first | (with_reducible first | exact HI0.out | apply IsS103.alloc | apply IsS103.drewN | apply IsS103.drew | apply IsS103.set_1 | apply IsS103.set_2) | exact HI0.out)⟩, ⟨mvK HK.out⟩, ⟨by repeat (first | (with_reducible first | exact HB.out | apply below_alloc | apply pw_below_drewN | apply below_drew1 | refine below_set ?_ (IsS103.ge HI0.out)) | exact HB.out)⟩⟩
         ·
          rw [if_neg c75] at H
          exact absurd H (by simp)
        ·
         rw [if_neg c74] at H
         exact absurd H (by simp)
       ·
        rw [if_neg c72] at H
        have c72b0 : decide (x6_1 < t205) = false := decide_eq_false c72
        clear c72
        simp only [Option.some.injEq, Prod.mk.injEq] at H
        obtain ⟨rfl, rfl, rfl⟩ := H
        go_wp2
        go_ret
        exact ⟨_, by first | rfl | (simp [errW_none, errW_some] <;> rfl) | (simp [*, errW_none, errW_some] <;> rfl), mv HO_3.out, by repeat (first | (with_reducible first | exact HI0.out | apply IsS103.alloc | apply IsS103.drewN | apply IsS103.drew | apply IsS103.set_1 | apply IsS103.set_2) | exact HI0.out), by repeat (first | (with_reducible first | exact HB.out | apply below_alloc | apply pw_below_drewN | apply below_drew1 | refine below_set ?_ (IsS103.ge HI0.out)) | exact HB.out), mvK HK.out⟩
    ·
     rw [if_neg c61] at H
     have c61b0 : (t174 == 3) = false := beq_eq_false_iff_ne.mpr c61
     have c61b1 : (t174 != 3) = true := bne_iff_ne.mpr c61
     by_cases c78 : t174 = 4
     ·
      rw [if_pos c78] at H
      have c78b0 : (t174 == 4) = true := beq_iff_eq.mpr c78
      have c78b1 : (t174 != 4) = false := bne_eq_false_iff_eq.mpr c78
      clear c78
      by_cases c79 : (t169.length : Int) > 0
      ·
       rw [if_pos c79] at H
       have c79b0 : decide (0 < (t169.length : Int)) = true := decide_eq_true c79
       have c79b1 : decide (0 < t169.length) = true := decide_eq_true (by omega)
       clear c79
       obtain ⟨y215, hy215⟩ : ∃ y_ : List ByteArray, y_ = (([(⟨#[122, 122]⟩ : ByteArray), (⟨#[97, 114, 109]⟩ : ByteArray), (⟨#[]⟩ : ByteArray)] : List ByteArray)) := ⟨_, rfl⟩
       replace H : ((spec_l00Src_text.f s0_0 t175 t176 y215).bind fun bt218 => (if 0 < (t169.length : Int) then (some ((t169.set (0 : Int).toNat (⟨(rd_T34 t169 0).f0, (rd_T34 t169 0).f1, (rd_T34 t169 0).f2, (([bt218.1] : List ByteArray))⟩ : S34)), bt218.2.1, bt218.2.2)) else (none))) = some (r1, r2, r3) := by first | (rw [hy215]; with_reducible exact H) | (have H2_ := (Option.bind_some _ _).symm.trans H; rw [hy215]; with_reducible exact H2_) | (have H2_ := (Option.bind_some _ _).symm.trans H; with_reducible exact H2_) | with_reducible exact H | (rw [hy215]; exact H) | exact H
       have Ny215 := Aside0.mk hy215
       clear hy215
       replace H := Option.bind_eq_some_iff.mp H
       obtain ⟨⟨t218, t219, t220⟩, A800, H⟩ := H
       replace H : (if 0 < (t169.length : Int) then (some ((t169.set (0 : Int).toNat (⟨(rd_T34 t169 0).f0, (rd_T34 t169 0).f1, (rd_T34 t169 0).f2, (([t218] : List ByteArray))⟩ : S34)), t219, t220)) else (none)) = some (r1, r2, r3) := H
       have A80 := Aside0.mk A800
       clear A800
       obtain ⟨y221, hy221⟩ : ∃ y_ : List ByteArray, y_ = (([t218] : List ByteArray)) := ⟨_, rfl⟩
       replace H : (if 0 < (t169.length : Int) then (some ((t169.set (0 : Int).toNat (⟨(rd_T34 t169 0).f0, (rd_T34 t169 0).f1, (rd_T34 t169 0).f2, y221⟩ : S34)), t219, t220)) else (none)) = some (r1, r2, r3) := by first | (rw [hy221]; with_reducible exact H) | (have H2_ := (Option.bind_some _ _).symm.trans H; rw [hy221]; with_reducible exact H2_) | (have H2_ := (Option.bind_some _ _).symm.trans H; with_reducible exact H2_) | with_reducible exact H | (rw [hy221]; exact H) | exact H
       have Ny221 := Aside0.mk hy221
       clear hy221
       by_cases c81 : 0 < (t169.length : Int)
       ·
        rw [if_pos c81] at H
        have c81b0 : decide (0 < (t169.length : Int)) = true := decide_eq_true c81
        have c81b1 : decide (0 < t169.length) = true := decide_eq_true (by omega)
        clear c81
        obtain ⟨y224, hy224⟩ : ∃ y_ : List (S34), y_ = (t169.set (0 : Int).toNat (⟨(rd_T34 t169 0).f0, (rd_T34 t169 0).f1, (rd_T34 t169 0).f2, y221⟩ : S34)) := ⟨_, rfl⟩
        replace H : (some (y224, t219, t220)) = some (r1, r2, r3) := by first | (rw [hy224]; with_reducible exact H) | (have H2_ := (Option.bind_some _ _).symm.trans H; rw [hy224]; with_reducible exact H2_) | (have H2_ := (Option.bind_some _ _).symm.trans H; with_reducible exact H2_) | with_reducible exact H | (rw [hy224]; exact H) | exact H
        have Ny224 := Aside0.mk hy224
        clear hy224
        simp only [Option.some.injEq, Prod.mk.injEq] at H
        obtain ⟨rfl, rfl, rfl⟩ := H
        go_enter Try.func38, Try.ntmps38
        go_wp2_with (first | ((with_reducible refine gate_callee (f := 76) rfl ?_); refine goesA_ (some 8) Try.func76 #[.pointer (some ⟨g, 0, none⟩)] ?_; (with_reducible refine (spec_l24DrawOk.calls k g s0_0 s0_1 s0_2 t169 t172 t173 w0 _ ?side1 ?side2 A2.out).mono ?_); (case side1 => repeat (first | (with_reducible first | exact HI0.out | apply IsS103.alloc | apply IsS103.drewN | apply IsS103.drew | apply IsS103.set_1 | apply IsS103.set_2) | exact HI0.out)); (case side2 => repeat (first | (with_reducible first | exact HB.out | apply below_alloc | apply pw_below_drewN | apply below_drew1 | refine below_set ?_ (IsS103.ge HI0.out)) | exact HB.out)); rintro e w83 ⟨v170, rfl, ho0, hi, hb, hk⟩; refine ⟨_, rfl, ?_⟩; have n0_ := Aside0.mk (Kd.S_lower ho0 (keep_size (w := w) (g := g) (row := none) (mvK HK.out))); have n1_ := Aside0.mk (KeepBut.trans (mvK HK.out) hk (.inl rfl)); have n2_ := Aside0.mk (hb); have n3_ := Aside0.mk (hi); clear HK HB HI0; revert n0_ n1_ n2_ n3_; intro HO171 HK HB HI0; (try clear hb); (try clear hk); (try clear hi); (try clear ho0); obtain ⟨Ao84, co84, eo84⟩ := Kd.S_slice HO171.out; subst eo84) | ((with_reducible refine gate_callee (f := 77) rfl ?_); refine goesA_ (some 12) Try.func77 #[.pointer (some ⟨g, 0, none⟩), .int .i64 20] ?_; (with_reducible refine (spec_l00Src_pick.calls g s0_0 t172 t173 20 t174 t175 t176 w0 _ ?side1 ?side2 A3.out).mono ?_); (case side1 => repeat (first | (with_reducible first | exact HI0.out | apply IsS103.alloc | apply IsS103.drewN | apply IsS103.drew | apply IsS103.set_1 | apply IsS103.set_2) | exact HI0.out)); (case side2 => repeat (first | (with_reducible first | exact HB.out | apply below_alloc | apply pw_below_drewN | apply below_drew1 | refine below_set ?_ (IsS103.ge HI0.out)) | exact HB.out)); rintro e w85 ⟨rfl, hi, hb, hk⟩; refine ⟨_, rfl, ?_⟩; have n0_ := Aside0.mk (Kd.S_mono (Kd.S_keep (IsS103.apartS (show IsS103 w0 _ g s0_0 t172 t173 from by repeat (first | (with_reducible first | exact HI0.out | apply IsS103.alloc | apply IsS103.drewN | apply IsS103.drew | apply IsS103.set_1 | apply IsS103.set_2) | exact HI0.out)) (mv HO171.out) (by decide)) hk (fun _ h => h.2)) (fun _ h => h.1)); have n1_ := Aside0.mk (KeepBut.trans (mvK HK.out) hk (.inl rfl)); have n2_ := Aside0.mk (hb); have n3_ := Aside0.mk (hi); clear HO171 HK HB HI0; revert n0_ n1_ n2_ n3_; intro HO171 HK HB HI0; (try clear hb); (try clear hk); (try clear hi)) | ((with_reducible refine gate_dst (N := 78) rfl ?_); refine Kd.R_lit Kd.string _ 9 ?hg (N := 78) ?hd (xs := ([(⟨#[122, 122]⟩ : ByteArray), (⟨#[97, 114, 109]⟩ : ByteArray), (⟨#[]⟩ : ByteArray)] : List ByteArray)) (inner := [.string (⟨#[122, 122]⟩ : ByteArray), .string (⟨#[97, 114, 109]⟩ : ByteArray), .string (⟨#[]⟩ : ByteArray)]) (ok := fun _ => True) (okp := fun _ => True) ?hr ?hp (fun _ hk => hk) trivial (Below.refl _ _) (Nat.le_refl _) (by simp) ?_; (case hd => rfl); (case hg => rfl); (case hr => first | (go_simp; done) | (go_simp; rfl)); (case hp => exact (Reps.one (show Kd.M Kd.string _ _ _ (⟨#[122, 122]⟩ : ByteArray) [.string (⟨#[122, 122]⟩ : ByteArray)] from rfl) (Reps.one (show Kd.M Kd.string _ _ _ (⟨#[97, 114, 109]⟩ : ByteArray) [.string (⟨#[97, 114, 109]⟩ : ByteArray)] from rfl) (Reps.one (show Kd.M Kd.string _ _ _ (⟨#[]⟩ : ByteArray) [.string (⟨#[]⟩ : ByteArray)] from rfl) (Reps.none _ _))))); intro v216 w86 ho87 hb hg_ hnew_; clear hg_ hnew_; (first | rw [← Ny215.out] at ho87 | (simp only [Int.reduceToNat] at ho87; rw [← Ny215.out] at ho87)); have n0_ := Aside0.mk (Kd.S_elder' (mv HO171.out) (Kd.R_base ho87) hb); have n1_ := Aside0.mk (Kd.R_lower ho87 (keep_size (w := w) (g := g) (row := none) (mvK HK.out))); have n2_ := Aside0.mk (IsS103.below (by repeat (first | (with_reducible first | exact HI0.out | apply IsS103.alloc | apply IsS103.drewN | apply IsS103.drew | apply IsS103.set_1 | apply IsS103.set_2) | exact HI0.out)) hb); have n3_ := Aside0.mk (KeepBut.trans (mvK HK.out) (KeepBut.of_below hb g none) (.inl rfl)); have n4_ := Aside0.mk (below_step (by repeat (first | (with_reducible first | exact HB.out | apply below_alloc | apply pw_below_drewN | apply below_drew1 | refine below_set ?_ (IsS103.ge HI0.out)) | exact HB.out)) hb); clear HO171 HI0 HK HB; revert n0_ n1_ n2_ n3_ n4_; intro HO171 HO217 HI0 HK HB; clear hb ho87; obtain ⟨Ao88, co88, eo88⟩ := Kd.R_slice HO217.out; subst eo88) | ((with_reducible refine gate_callee (f := 79) rfl ?_); refine goesA_ (some 79) Try.func79 #[.pointer (some ⟨g, 0, none⟩), .slice Ao88 y215.length co88] ?_; (with_reducible refine (spec_l00Src_text.calls g s0_0 t175 t176 _ _ y215 t218 t219 t220 w0 _ ?side1 ?side2 ?side3 ?side4 ?side5 A80.out).mono ?_); (case side1 => repeat (first | (with_reducible first | exact HI0.out | apply IsS103.alloc | apply IsS103.drewN | apply IsS103.drew | apply IsS103.set_1 | apply IsS103.set_2) | exact HI0.out)); (case side2 => repeat (first | (with_reducible first | exact HB.out | apply below_alloc | apply pw_below_drewN | apply below_drew1 | refine below_set ?_ (IsS103.ge HI0.out)) | exact HB.out)); (case side3 => exact mvC (Kd.R_reads' HO217.out).2.2); (case side4 => exact (Kd.R_reads' HO217.out).2.1); (case side5 => exact far_slice (IsS103.own_ne HI0.out HO217.out (by decide))); rintro e w89 ⟨rfl, hi, hb, hk⟩; refine ⟨_, rfl, ?_⟩; have n0_ := Aside0.mk (Kd.S_mono (Kd.S_keep (IsS103.apartS (show IsS103 w0 _ g s0_0 t175 t176 from by repeat (first | (with_reducible first | exact HI0.out | apply IsS103.alloc | apply IsS103.drewN | apply IsS103.drew | apply IsS103.set_1 | apply IsS103.set_2) | exact HI0.out)) (mv HO171.out) (by decide)) hk (fun _ h => h.2)) (fun _ h => h.1)); have n1_ := Aside0.mk (Kd.R_mono (Kd.R_keep (IsS103.apart (show IsS103 w0 _ g s0_0 t175 t176 from by repeat (first | (with_reducible first | exact HI0.out | apply IsS103.alloc | apply IsS103.drewN | apply IsS103.drew | apply IsS103.set_1 | apply IsS103.set_2) | exact HI0.out)) (mv HO217.out) (by decide)) hk (fun _ h => h.2)) (fun _ h => h.1)); have n2_ := Aside0.mk (KeepBut.trans (mvK HK.out) hk (.inl rfl)); have n3_ := Aside0.mk (hb); have n4_ := Aside0.mk (hi); clear HO171 HO217 HK HB HI0; revert n0_ n1_ n2_ n3_ n4_; intro HO171 HO217 HK HB HI0; (try clear hb); (try clear hk); (try clear hi)) | ((with_reducible refine gate_dst (N := 80) rfl ?_); refine Kd.R_lit Kd.string _ 9 ?hg (N := 80) ?hd (xs := ([t218] : List ByteArray)) (inner := [.string t218]) (ok := fun _ => True) (okp := fun _ => True) ?hr ?hp (fun _ hk => hk) trivial (Below.refl _ _) (Nat.le_refl _) (by simp) ?_; (case hd => rfl); (case hg => rfl); (case hr => first | (go_simp; done) | (go_simp; rfl)); (case hp => exact (Reps.one (show Kd.M Kd.string _ _ _ t218 [.string t218] from rfl) (Reps.none _ _))); intro v222 w90 ho91 hb hg_ hnew_; clear hg_ hnew_; (first | rw [← Ny221.out] at ho91 | (simp only [Int.reduceToNat] at ho91; rw [← Ny221.out] at ho91)); have n0_ := Aside0.mk (Kd.S_elder' (mv HO171.out) (Kd.R_base ho91) hb); have n1_ := Aside0.mk (Kd.R_elder' (mv HO217.out) (Kd.R_base ho91) hb); have n2_ := Aside0.mk (Kd.R_lower (Kd.R_new' ho91 (Kd.R_lt (mv HO217.out))) (keep_size (w := w) (g := g) (row := none) (mvK HK.out))); have n3_ := Aside0.mk (IsS103.below (by repeat (first | (with_reducible first | exact HI0.out | apply IsS103.alloc | apply IsS103.drewN | apply IsS103.drew | apply IsS103.set_1 | apply IsS103.set_2) | exact HI0.out)) hb); have n4_ := Aside0.mk (KeepBut.trans (mvK HK.out) (KeepBut.of_below hb g none) (.inl rfl)); have n5_ := Aside0.mk (below_step (by repeat (first | (with_reducible first | exact HB.out | apply below_alloc | apply pw_below_drewN | apply below_drew1 | refine below_set ?_ (IsS103.ge HI0.out)) | exact HB.out)) hb); clear HO171 HO217 HI0 HK HB; revert n0_ n1_ n2_ n3_ n4_ n5_; intro HO171 HO217 HO223 HI0 HK HB; clear hb ho91; have p82 : 0 ≤ (0 : Int) := (by omega); have q82 : (0 : Int) < ((t169.length : Int) : Int) := od; have qi82 : (0 < t169.length) = True := eq_true (by omega); obtain ⟨go82, co82, eo82, gb82, gl82, cl82, HG82⟩ := Kd.S_form HO171.out (by omega); (first | cases eo82 | (injection eo82 with ea_ en_ ec_; (first | subst ea_ | (injection ea_ with ea_; subst ea_)); subst ec_; clear en_)); have GB82 := Aside0.mk gb82; have GG82 := Aside0.mk HG82; clear gb82 gl82 HG82; obtain ⟨_, ce82, hcl82, hM82, hcc82, hfr82, _, _⟩ := Kd.S_elem HO171.out z34 (0 : Int) p82 q82; obtain ⟨ve82_3, rfl, ge82_3⟩ := k34_openM hM82; have hx82_0 : w90.cell? ⟨go82, (0 : Int).toNat * 4, none⟩ = some (.string ((rd_T34 t169 0).f0)) := hcc82 0 _ rfl; have hx82_1 : w90.cell? ⟨go82, (0 : Int).toNat * 4 + 1, none⟩ = some (.int .i64 ((rd_T34 t169 0).f1)) := hcc82 1 _ rfl; have hx82_2 : w90.cell? ⟨go82, (0 : Int).toNat * 4 + 2, none⟩ = some (.int .i64 ((rd_T34 t169 0).f2)) := hcc82 2 _ rfl; have hx82_3 : w90.cell? ⟨go82, (0 : Int).toNat * 4 + 3, none⟩ = some (ve82_3) := hcc82 3 _ rfl; have hf82_0 : w90.frozen? ⟨go82, (0 : Int).toNat * 4, none⟩ = false := hfr82 0; have hf82_1 : w90.frozen? ⟨go82, (0 : Int).toNat * 4 + 1, none⟩ = false := hfr82 1; have hf82_2 : w90.frozen? ⟨go82, (0 : Int).toNat * 4 + 2, none⟩ = false := hfr82 2; have hf82_3 : w90.frozen? ⟨go82, (0 : Int).toNat * 4 + 3, none⟩ = false := hfr82 3; (try clear hM82); clear hcl82 hcc82 hfr82; (try rw [show ((0 : Int)).toNat = 0 from rfl] at hx82_0); (try simp only [Nat.reduceMul, Nat.zero_mul, Nat.zero_add, Nat.reduceAdd] at hx82_0); (try rw [show ((0 : Int)).toNat = 0 from rfl] at hf82_0); (try simp only [Nat.reduceMul, Nat.zero_mul, Nat.zero_add, Nat.reduceAdd] at hf82_0); (try rw [show ((0 : Int)).toNat = 0 from rfl] at hx82_1); (try simp only [Nat.reduceMul, Nat.zero_mul, Nat.zero_add, Nat.reduceAdd] at hx82_1); (try rw [show ((0 : Int)).toNat = 0 from rfl] at hf82_1); (try simp only [Nat.reduceMul, Nat.zero_mul, Nat.zero_add, Nat.reduceAdd] at hf82_1); (try rw [show ((0 : Int)).toNat = 0 from rfl] at hx82_2); (try simp only [Nat.reduceMul, Nat.zero_mul, Nat.zero_add, Nat.reduceAdd] at hx82_2); (try rw [show ((0 : Int)).toNat = 0 from rfl] at hf82_2); (try simp only [Nat.reduceMul, Nat.zero_mul, Nat.zero_add, Nat.reduceAdd] at hf82_2); (try rw [show ((0 : Int)).toNat = 0 from rfl] at hx82_3); (try simp only [Nat.reduceMul, Nat.zero_mul, Nat.zero_add, Nat.reduceAdd] at hx82_3); (try rw [show ((0 : Int)).toNat = 0 from rfl] at hf82_3); (try simp only [Nat.reduceMul, Nat.zero_mul, Nat.zero_add, Nat.reduceAdd] at hf82_3); replace p82 := eq_true p82; replace q82 := eq_true q82; have n_ := Aside0.mk (Kd.S_mono (ok' := (fun k_ => some k_ ≠ (.slice Ao88 y215.length co88 : Value).ownBlock ∧ some k_ ≠ (v222 : Value).ownBlock)) HO171.out (fun k_ hk => ⟨hk.1.2, hk.2⟩)); clear HO171; have HO171 := n_; clear n_; have HX92 := Aside0.mk (show Kd.S k34 34 w90 w.heap.size (fun k_ => ((fun k_ => some k_ ≠ (.slice Ao88 y215.length co88 : Value).ownBlock)) k_ ∧ ¬ ((fun k_ => some k_ = (v222 : Value).ownBlock)) k_) (.slice (some ⟨go82, 0, none⟩) t169.length co84) t169 from (by (with_reducible repeat (first | apply Kd.S_alloc | apply Kd.S_drewN | apply Kd.S_drew)); exact Kd.S_mono HO171.out (fun k_ hk => ⟨hk.1, fun e_ => hk.2 e_⟩))); obtain ⟨oki92, ce92, hcl92, hM92, hcc92, hfr92, hoki92, hH92⟩ := Kd.S_elem HX92.out z34 (0 : Int) (by omega) (by have h_ : (0 : Int) < ((t169.length : Int) : Int) := od; first | exact h_ | (have e_ := (Kd.S_reads' HO171.out).1; omega) | simpa using h_); obtain ⟨ve92_3, rfl, ge92_3⟩ := k34_openM hM92; have HP92 := Kd.S_seg hH92 (by omega) (by have h_ : (0 : Int) < ((t169.length : Int) : Int) := od; first | exact h_ | (have e_ := (Kd.S_reads' HO171.out).1; omega) | simpa using h_) (seg := [v222]) (j := 3) (show 4 ≤ 4 from by decide) (x' := (⟨(rd_T34 t169 0).f0, (rd_T34 t169 0).f1, (rd_T34 t169 0).f2, y221⟩ : S34)) (k34_mkM _ _ _ (⟨(rd_T34 t169 0).f0, (rd_T34 t169 0).f1, (rd_T34 t169 0).f2, y221⟩ : S34) (Kd.R_mono (Kd.R_tight rfl (Kd.R_mono (ok' := fun k_ => ((fun k_ => some k_ ≠ (.slice Ao88 y215.length co88 : Value).ownBlock)) k_ ∧ k_ ≠ go82) (Kd.R_apart' (HO223.out) (Kd.S_typed HO171.out) (by decide)) (fun k_ hk => ⟨hk.1.2, fun e_ => (hk.2) (by rw [e_]; rfl)⟩))) (fun _ h_ => Or.inr (h_)))) (fun _ hk => hk) (fun k_ hk_ => ((Kd.R_mono (ok' := fun k_ => ((fun k_ => some k_ ≠ (.slice Ao88 y215.length co88 : Value).ownBlock)) k_ ∧ k_ ≠ go82) (Kd.R_apart' (HO223.out) (Kd.S_typed HO171.out) (by decide)) (fun k_ hk => ⟨hk.1.2, fun e_ => (hk.2) (by rw [e_]; rfl)⟩))).1 k_ hk_.symm); have hx92_3 := hcc92 3 _ rfl; (try simp only [show (k34).sz = 4 from rfl, Nat.mul_one, Nat.add_zero] at hx92_3); (try rw [show ((0 : Int)).toNat = 0 from rfl] at hx92_3); (try simp only [Nat.reduceMul, Nat.zero_mul, Nat.zero_add, Nat.reduceAdd] at hx92_3); have hf92_3 := hfr92 3; (try simp only [show (k34).sz = 4 from rfl, Nat.mul_one, Nat.add_zero] at hf92_3); (try rw [show ((0 : Int)).toNat = 0 from rfl] at hf92_3); (try simp only [Nat.reduceMul, Nat.zero_mul, Nat.zero_add, Nat.reduceAdd] at hf92_3); (try clear hM92); clear hcl92 hcc92 hfr92 hoki92 hH92) | ((with_reducible refine gate_store (t := 32) (p := 82) rfl ?_); refine store_event (t := 32) (p := 82) (v := ?vo_w93) (w1 := (w90.setCell ⟨go82, 3, none⟩ (v222))) ?hg ?ho ?hn ?hr ?_; (case ho => rfl); (case hg => rfl); (case hn => rfl); (case hr => first | (go_simp; done) | (go_simp; rfl) | (obtain ⟨Ah222_, ch222_, eh222_⟩ := Kd.R_slice HO223.out; subst eh222_; go_simp; done) | (obtain ⟨Ah222_, ch222_, eh222_⟩ := Kd.R_slice (Kd.S_R HO223.out); subst eh222_; go_simp; done)); intro w93 hw; have hg : w90.grownBy w93 (some go82) := (by rw [hw]; exact HP92.2); have hp_ : Kd.S k34 34 w93 w.heap.size (fun k_ => some k_ ≠ (.slice Ao88 y215.length co88 : Value).ownBlock) (.slice (some ⟨go82, 0, none⟩) t169.length co84) y224 := (by rw [hw, Ny224.out]; exact HP92.1); clear HP92; have n0_ := Aside0.mk (IsS103.grown (by repeat (first | (with_reducible first | exact HI0.out | apply IsS103.alloc | apply IsS103.drewN | apply IsS103.drew | apply IsS103.set_1 | apply IsS103.set_2) | exact HI0.out)) hg (IsS103.own_neS HI0.out HO171.out (by decide))); have n1_ := Aside0.mk (hp_); have n2_ := Aside0.mk (Kd.R_over' (v := (.slice (some ⟨go82, 0, none⟩) t169.length co84)) (mv HO217.out) (Kd.S_typed HO171.out) (by decide) hg); have n3_ := Aside0.mk ((by rw [hw]; exact below_set (HB.out) (Nat.le_trans HL.out GB82.out) : Below w0.heap.size w0 w93)); have n4_ := Aside0.mk (KeepBut.trans (mvK HK.out) (KeepBut.of_grown hg g) (Kd.S_base2 HO171.out)); clear HI0 HO171 HO217 HB HK HO223; revert n0_ n1_ n2_ n3_ n4_; intro HI0 HO171 HO217 HB HK; clear hg hw hp_))
        go_ret
        exact ⟨_, by first | rfl | (simp [errW_none, errW_some] <;> rfl) | (simp [*, errW_none, errW_some] <;> rfl), by (with_reducible repeat (first | apply Kd.S_alloc | apply Kd.S_drewN | apply Kd.S_drew)); exact Kd.S_mono HO171.out (fun _ hk => trivial), by repeat (first | (with_reducible first | exact HI0.out | apply IsS103.alloc | apply IsS103.drewN | apply IsS103.drew | apply IsS103.set_1 | apply IsS103.set_2) | exact HI0.out), by repeat (first | (with_reducible first | exact HB.out | apply below_alloc | apply pw_below_drewN | apply below_drew1 | refine below_set ?_ (IsS103.ge HI0.out)) | exact HB.out), mvK HK.out⟩
       ·
        rw [if_neg c81] at H
        exact absurd H (by simp)
      ·
       rw [if_neg c79] at H
       have c79b0 : decide (0 < (t169.length : Int)) = false := decide_eq_false c79
       have c79b1 : decide (0 < t169.length) = false := decide_eq_false (by omega)
       clear c79
       simp only [Option.some.injEq, Prod.mk.injEq] at H
       obtain ⟨rfl, rfl, rfl⟩ := H
       go_enter Try.func38, Try.ntmps38
       go_wp2_with (first | ((with_reducible refine gate_callee (f := 76) rfl ?_); refine goesA_ (some 8) Try.func76 #[.pointer (some ⟨g, 0, none⟩)] ?_; (with_reducible refine (spec_l24DrawOk.calls k g s0_0 s0_1 s0_2 t169 t172 t173 w0 _ ?side1 ?side2 A2.out).mono ?_); (case side1 => repeat (first | (with_reducible first | exact HI0.out | apply IsS103.alloc | apply IsS103.drewN | apply IsS103.drew | apply IsS103.set_1 | apply IsS103.set_2) | exact HI0.out)); (case side2 => repeat (first | (with_reducible first | exact HB.out | apply below_alloc | apply pw_below_drewN | apply below_drew1 | refine below_set ?_ (IsS103.ge HI0.out)) | exact HB.out)); rintro e w94 ⟨v170, rfl, ho0, hi, hb, hk⟩; refine ⟨_, rfl, ?_⟩; have n0_ := Aside0.mk (Kd.S_lower ho0 (keep_size (w := w) (g := g) (row := none) (mvK HK.out))); have n1_ := Aside0.mk (KeepBut.trans (mvK HK.out) hk (.inl rfl)); have n2_ := Aside0.mk (hb); have n3_ := Aside0.mk (hi); clear HK HB HI0; revert n0_ n1_ n2_ n3_; intro HO171 HK HB HI0; (try clear hb); (try clear hk); (try clear hi); (try clear ho0); obtain ⟨Ao95, co95, eo95⟩ := Kd.S_slice HO171.out; subst eo95) | ((with_reducible refine gate_callee (f := 77) rfl ?_); refine goesA_ (some 12) Try.func77 #[.pointer (some ⟨g, 0, none⟩), .int .i64 20] ?_; (with_reducible refine (spec_l00Src_pick.calls g s0_0 t172 t173 20 t174 t175 t176 w0 _ ?side1 ?side2 A3.out).mono ?_); (case side1 => repeat (first | (with_reducible first | exact HI0.out | apply IsS103.alloc | apply IsS103.drewN | apply IsS103.drew | apply IsS103.set_1 | apply IsS103.set_2) | exact HI0.out)); (case side2 => repeat (first | (with_reducible first | exact HB.out | apply below_alloc | apply pw_below_drewN | apply below_drew1 | refine below_set ?_ (IsS103.ge HI0.out)) | exact HB.out)); rintro e w96 ⟨rfl, hi, hb, hk⟩; refine ⟨_, rfl, ?_⟩; have n0_ := Aside0.mk (Kd.S_mono (Kd.S_keep (IsS103.apartS (show IsS103 w0 _ g s0_0 t172 t173 from by repeat (first | (with_reducible first | exact HI0.out | apply IsS103.alloc | apply IsS103.drewN | apply IsS103.drew | apply IsS103.set_1 | apply IsS103.set_2) | exact HI0.out)) (mv HO171.out) (by decide)) hk (fun _ h => h.2)) (fun _ h => h.1)); have n1_ := Aside0.mk (KeepBut.trans (mvK HK.out) hk (.inl rfl)); have n2_ := Aside0.mk (hb); have n3_ := Aside0.mk (hi); clear HO171 HK HB HI0; revert n0_ n1_ n2_ n3_; intro HO171 HK HB HI0; (try clear hb); (try clear hk); (try clear hi)))
       go_ret
       exact ⟨_, by first | rfl | (simp [errW_none, errW_some] <;> rfl) | (simp [*, errW_none, errW_some] <;> rfl), mv HO171.out, by repeat (first | (with_reducible first | exact HI0.out | apply IsS103.alloc | apply IsS103.drewN | apply IsS103.drew | apply IsS103.set_1 | apply IsS103.set_2) | exact HI0.out), by repeat (first | (with_reducible first | exact HB.out | apply below_alloc | apply pw_below_drewN | apply below_drew1 | refine below_set ?_ (IsS103.ge HI0.out)) | exact HB.out), mvK HK.out⟩
     ·
      rw [if_neg c78] at H
      have c78b0 : (t174 == 4) = false := beq_eq_false_iff_ne.mpr c78
      have c78b1 : (t174 != 4) = true := bne_iff_ne.mpr c78
      simp only [Option.some.injEq, Prod.mk.injEq] at H
      obtain ⟨rfl, rfl, rfl⟩ := H
      go_enter Try.func38, Try.ntmps38
      go_wp2_with (first | ((with_reducible refine gate_callee (f := 76) rfl ?_); refine goesA_ (some 8) Try.func76 #[.pointer (some ⟨g, 0, none⟩)] ?_; (with_reducible refine (spec_l24DrawOk.calls k g s0_0 s0_1 s0_2 t169 t172 t173 w0 _ ?side1 ?side2 A2.out).mono ?_); (case side1 => repeat (first | (with_reducible first | exact HI0.out | apply IsS103.alloc | apply IsS103.drewN | apply IsS103.drew | apply IsS103.set_1 | apply IsS103.set_2) | exact HI0.out)); (case side2 => repeat (first | (with_reducible first | exact HB.out | apply below_alloc | apply pw_below_drewN | apply below_drew1 | refine below_set ?_ (IsS103.ge HI0.out)) | exact HB.out)); rintro e w97 ⟨v170, rfl, ho0, hi, hb, hk⟩; refine ⟨_, rfl, ?_⟩; have n0_ := Aside0.mk (Kd.S_lower ho0 (keep_size (w := w) (g := g) (row := none) (mvK HK.out))); have n1_ := Aside0.mk (KeepBut.trans (mvK HK.out) hk (.inl rfl)); have n2_ := Aside0.mk (hb); have n3_ := Aside0.mk (hi); clear HK HB HI0; revert n0_ n1_ n2_ n3_; intro HO171 HK HB HI0; (try clear hb); (try clear hk); (try clear hi); (try clear ho0); obtain ⟨Ao98, co98, eo98⟩ := Kd.S_slice HO171.out; subst eo98) | ((with_reducible refine gate_callee (f := 77) rfl ?_); refine goesA_ (some 12) Try.func77 #[.pointer (some ⟨g, 0, none⟩), .int .i64 20] ?_; (with_reducible refine (spec_l00Src_pick.calls g s0_0 t172 t173 20 t174 t175 t176 w0 _ ?side1 ?side2 A3.out).mono ?_); (case side1 => repeat (first | (with_reducible first | exact HI0.out | apply IsS103.alloc | apply IsS103.drewN | apply IsS103.drew | apply IsS103.set_1 | apply IsS103.set_2) | exact HI0.out)); (case side2 => repeat (first | (with_reducible first | exact HB.out | apply below_alloc | apply pw_below_drewN | apply below_drew1 | refine below_set ?_ (IsS103.ge HI0.out)) | exact HB.out)); rintro e w99 ⟨rfl, hi, hb, hk⟩; refine ⟨_, rfl, ?_⟩; have n0_ := Aside0.mk (Kd.S_mono (Kd.S_keep (IsS103.apartS (show IsS103 w0 _ g s0_0 t172 t173 from by repeat (first | (with_reducible first | exact HI0.out | apply IsS103.alloc | apply IsS103.drewN | apply IsS103.drew | apply IsS103.set_1 | apply IsS103.set_2) | exact HI0.out)) (mv HO171.out) (by decide)) hk (fun _ h => h.2)) (fun _ h => h.1)); have n1_ := Aside0.mk (KeepBut.trans (mvK HK.out) hk (.inl rfl)); have n2_ := Aside0.mk (hb); have n3_ := Aside0.mk (hi); clear HO171 HK HB HI0; revert n0_ n1_ n2_ n3_; intro HO171 HK HB HI0; (try clear hb); (try clear hk); (try clear hi)))
      go_ret
      exact ⟨_, by first | rfl | (simp [errW_none, errW_some] <;> rfl) | (simp [*, errW_none, errW_some] <;> rfl), mv HO171.out, by repeat (first | (with_reducible first | exact HI0.out | apply IsS103.alloc | apply IsS103.drewN | apply IsS103.drew | apply IsS103.set_1 | apply IsS103.set_2) | exact HI0.out), by repeat (first | (with_reducible first | exact HB.out | apply below_alloc | apply pw_below_drewN | apply below_drew1 | refine below_set ?_ (IsS103.ge HI0.out)) | exact HB.out), mvK HK.out⟩

/-! ### spec_l24DrawYearly: function 39 -/
def spec_l24DrawYearly.f (s0_0 : List Int) (s0_1 : Int) (s0_2 : Int) : Option (Int × Int × Int) := (spec_l00Src_among.f s0_0 s0_1 s0_2 (([50, 100, 200, 400, 1, 1000000, 1000001, 0] : List Int))).bind fun bt228 => (some (bt228.1, bt228.2.1, bt228.2.2))
set_option maxHeartbeats 8000000 in
set_option maxRecDepth 100000 in
theorem spec_l24DrawYearly.calls (g : Nat) (s0_0 : List Int) (s0_1 : Int) (s0_2 : Int) (r1 : Int) (r2 : Int) (r3 : Int) (w0 w : World) (hI : IsS103 w0 w g s0_0 s0_1 s0_2) (hB : Below w0.heap.size w0 w) (h : spec_l24DrawYearly.f s0_0 s0_1 s0_2 = some (r1, r2, r3)) :
  Calls Try.prog 39 #[.pointer (some ⟨g, 0, none⟩)] w fun e w' => e = .returned (.int .i64 r1) ∧ IsS103 w0 w' g s0_0 r2 r3 ∧ Below w0.heap.size w0 w' ∧ KeepBut w w' g none := by
 have HI0 := Aside0.mk hI
 have HK := Aside0.mk (KeepBut.refl w g none)
 have HL := Aside0.mk hB.size
 clear hI
 have HW0 := Aside0.mk hB.size
 have HB := Aside0.mk hB
 clear hB
 have H : ((spec_l00Src_among.f s0_0 s0_1 s0_2 (([50, 100, 200, 400, 1, 1000000, 1000001, 0] : List Int))).bind fun bt228 => (some (bt228.1, bt228.2.1, bt228.2.2))) = some (r1, r2, r3) := h
 clear h
 obtain ⟨y225, hy225⟩ : ∃ y_ : List Int, y_ = (([50, 100, 200, 400, 1, 1000000, 1000001, 0] : List Int)) := ⟨_, rfl⟩
 replace H : ((spec_l00Src_among.f s0_0 s0_1 s0_2 y225).bind fun bt228 => (some (bt228.1, bt228.2.1, bt228.2.2))) = some (r1, r2, r3) := by first | (rw [hy225]; with_reducible exact H) | (have H2_ := (Option.bind_some _ _).symm.trans H; rw [hy225]; with_reducible exact H2_) | (have H2_ := (Option.bind_some _ _).symm.trans H; with_reducible exact H2_) | with_reducible exact H | (rw [hy225]; exact H) | exact H
 have Ny225 := Aside0.mk hy225
 clear hy225
 replace H := Option.bind_eq_some_iff.mp H
 obtain ⟨⟨t228, t229, t230⟩, A20, H⟩ := H
 replace H : (some (t228, t229, t230)) = some (r1, r2, r3) := H
 have A2 := Aside0.mk A20
 clear A20
 simp only [Option.some.injEq, Prod.mk.injEq] at H
 obtain ⟨rfl, rfl, rfl⟩ := H
 go_enter Try.func39, Try.ntmps39
 go_wp2_with (first | ((with_reducible refine gate_dst (N := 4) rfl ?_); refine Kd.R_lit (Kd.int .i64) _ 2 ?hg (N := 4) ?hd (xs := ([50, 100, 200, 400, 1, 1000000, 1000001, 0] : List Int)) (inner := [.int .i64 50, .int .i64 100, .int .i64 200, .int .i64 400, .int .i64 1, .int .i64 1000000, .int .i64 1000001, .int .i64 0]) (ok := fun _ => True) (okp := fun _ => True) ?hr ?hp (fun _ hk => hk) trivial (Below.refl _ _) (Nat.le_refl _) (by simp) ?_; (case hd => rfl); (case hg => rfl); (case hr => first | (go_simp; done) | (go_simp; rfl)); (case hp => exact (Reps.one (show Kd.M (Kd.int .i64) _ _ _ 50 [.int .i64 50] from rfl) (Reps.one (show Kd.M (Kd.int .i64) _ _ _ 100 [.int .i64 100] from rfl) (Reps.one (show Kd.M (Kd.int .i64) _ _ _ 200 [.int .i64 200] from rfl) (Reps.one (show Kd.M (Kd.int .i64) _ _ _ 400 [.int .i64 400] from rfl) (Reps.one (show Kd.M (Kd.int .i64) _ _ _ 1 [.int .i64 1] from rfl) (Reps.one (show Kd.M (Kd.int .i64) _ _ _ 1000000 [.int .i64 1000000] from rfl) (Reps.one (show Kd.M (Kd.int .i64) _ _ _ 1000001 [.int .i64 1000001] from rfl) (Reps.one (show Kd.M (Kd.int .i64) _ _ _ 0 [.int .i64 0] from rfl) (Reps.none _ _)))))))))); intro v226 w3 ho4 hb hg_ hnew_; clear hg_ hnew_; (first | rw [← Ny225.out] at ho4 | (simp only [Int.reduceToNat] at ho4; rw [← Ny225.out] at ho4)); have n0_ := Aside0.mk (Kd.R_lower ho4 (keep_size (w := w) (g := g) (row := none) (mvK HK.out))); have n1_ := Aside0.mk (IsS103.below (by repeat (first | (with_reducible first | exact HI0.out | apply IsS103.alloc | apply IsS103.drewN | apply IsS103.drew | apply IsS103.set_1 | apply IsS103.set_2) | exact HI0.out)) hb); have n2_ := Aside0.mk (KeepBut.trans (mvK HK.out) (KeepBut.of_below hb g none) (.inl rfl)); have n3_ := Aside0.mk (below_step (by repeat (first | (with_reducible first | exact HB.out | apply below_alloc | apply pw_below_drewN | apply below_drew1 | refine below_set ?_ (IsS103.ge HI0.out)) | exact HB.out)) hb); clear HI0 HK HB; revert n0_ n1_ n2_ n3_; intro HO227 HI0 HK HB; clear hb ho4; obtain ⟨Ao5, co5, eo5⟩ := Kd.R_slice HO227.out; subst eo5) | ((with_reducible refine gate_callee (f := 40) rfl ?_); refine goesA_ (some 5) Try.func40 #[.pointer (some ⟨g, 0, none⟩), .slice Ao5 y225.length co5] ?_; (with_reducible refine (spec_l00Src_among.calls g s0_0 s0_1 s0_2 _ _ y225 t228 t229 t230 w0 _ ?side1 ?side2 ?side3 ?side4 ?side5 A2.out).mono ?_); (case side1 => repeat (first | (with_reducible first | exact HI0.out | apply IsS103.alloc | apply IsS103.drewN | apply IsS103.drew | apply IsS103.set_1 | apply IsS103.set_2) | exact HI0.out)); (case side2 => repeat (first | (with_reducible first | exact HB.out | apply below_alloc | apply pw_below_drewN | apply below_drew1 | refine below_set ?_ (IsS103.ge HI0.out)) | exact HB.out)); (case side3 => exact mvC (Kd.R_reads' HO227.out).2.2); (case side4 => exact (Kd.R_reads' HO227.out).2.1); (case side5 => exact far_slice (IsS103.own_ne HI0.out HO227.out (by decide))); rintro e w6 ⟨rfl, hi, hb, hk⟩; refine ⟨_, rfl, ?_⟩; have n0_ := Aside0.mk (Kd.R_mono (Kd.R_keep (IsS103.apart (show IsS103 w0 _ g s0_0 s0_1 s0_2 from by repeat (first | (with_reducible first | exact HI0.out | apply IsS103.alloc | apply IsS103.drewN | apply IsS103.drew | apply IsS103.set_1 | apply IsS103.set_2) | exact HI0.out)) (mv HO227.out) (by decide)) hk (fun _ h => h.2)) (fun _ h => h.1)); have n1_ := Aside0.mk (KeepBut.trans (mvK HK.out) hk (.inl rfl)); have n2_ := Aside0.mk (hb); have n3_ := Aside0.mk (hi); clear HO227 HK HB HI0; revert n0_ n1_ n2_ n3_; intro HO227 HK HB HI0; (try clear hb); (try clear hk); (try clear hi)))
 go_ret
 exact ⟨by first | rfl | (simp [errW_none, errW_some] <;> rfl) | (simp [*, errW_none, errW_some] <;> rfl), by repeat (first | (with_reducible first | exact HI0.out | apply IsS103.alloc | apply IsS103.drewN | apply IsS103.drew | apply IsS103.set_1 | apply IsS103.set_2) | exact HI0.out), by repeat (first | (with_reducible first | exact HB.out | apply below_alloc | apply pw_below_drewN | apply below_drew1 | refine below_set ?_ (IsS103.ge HI0.out)) | exact HB.out), mvK HK.out⟩

end Go.Proofs.Ytmbiapefigcgnaa.PFnPlans
