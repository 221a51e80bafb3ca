-- written by a program of this session (mkp.py) out of the translation; Lean checks it. -- squeezed
import Derived.Test.YtndbgkcjccejdaaPFnExactBestRenewalx0
import Derived.Test.YtndbgkcjccejdaaPFnExactBestRenewalx4
namespace Go.Proofs.Ytndbgkcjccejdaa.PFnExactBestRenewal
open Go.RowKit Go.Proofs.YtndbgkcjccejdaaW.PrintWords Go.Proofs.YtndbgkcjccejdaaW.PrintLast Go.Proofs.YtndbgkcjccejdaaW.PrintMore
attribute [local go_sem] bin_leq bin_gtr bin_geq max2_int min2_int max_two min_two max_three min_three max_four min_four   -- for this text's walks alone
set_option linter.unusedVariables false
set_option linter.unusedSimpArgs false

/-! ### spec_l10Renew: function 117 -/
def spec_l10Renew.l0 : Nat → List Int → Int → Int → List Int → List (S75) → Option (List Int × (List (S75)))
 | 0, _, _, _, _, _ => none
 | k + 1, x1, x2, x8, x179000, x179001 => if x8 < (x1.length : Int) then (if 0 ≤ x8 then (if 0 ≤ (rd x1 x8) then (if (rd x1 x8) < (x179001.length : Int) then ((spec_l00Min.f ((rd_T75 x179001 (rd x1 x8)).f5) x2).bind fun t182 => (spec_l10Renew.l0 k x1 x2 (wrap64 (x8 + 1)) x179000 (x179001.set ((rd x1 x8) : Int).toNat (⟨(rd_T75 x179001 (rd x1 x8)).f0, (rd_T75 x179001 (rd x1 x8)).f1, (rd_T75 x179001 (rd x1 x8)).f2, (rd_T75 x179001 (rd x1 x8)).f3, (rd_T75 x179001 (rd x1 x8)).f4, t182⟩ : S75)))) else (none)) else (none)) else (none)) else (some (x179000, x179001))
def spec_l10Renew.f (k : Nat) (l0 : List (S59)) (l1 : List Int) (a2 : Int) : Option (List Int × (List (S75))) := (spec_l04Own.f l0).bind fun bt172 => (spec_l10Renew.l0 k l1 a2 0 bt172.1 bt172.2)
theorem spec_l10Renew.mono_l : ∀ k, (∀ y0 y1 y2 y3 y4, LeO (spec_l10Renew.l0 k y0 y1 y2 y3 y4) (spec_l10Renew.l0 (k + 1) y0 y1 y2 y3 y4))
 | 0 => fun _ _ _ _ _ r h => by simp [spec_l10Renew.l0] at h
 | k + 1 => by
  have ih0 := spec_l10Renew.mono_l k
  ·
   intro y0 y1 y2 y3 y4
   unfold spec_l10Renew.l0
   repeat' first
   | (with_reducible exact ih0 _ _ _ _ _)
   | (with_reducible exact LeO.refl _)
   | (with_reducible exact LeO.none _)
   | (with_reducible refine LeO.ite ?_ ?_)
   | (with_reducible refine LeO.bind ?_ (fun _ => ?_))
   | exact ih0 _ _ _ _ _
   | exact LeO.none _
   | refine LeO.ite ?_ ?_
   | refine LeO.bind ?_ (fun _ => ?_)
theorem spec_l10Renew.mono : ∀ a0 a1 a2 k, LeO (spec_l10Renew.f k a0 a1 a2) (spec_l10Renew.f (k + 1) a0 a1 a2) := by
 intro a0 a1 a2 k
 have ih0 := spec_l10Renew.mono_l k
 unfold spec_l10Renew.f
 repeat' first
  | (with_reducible exact ih0 _ _ _ _ _)
  | (with_reducible exact LeO.refl _)
  | (with_reducible exact LeO.none _)
  | (with_reducible refine LeO.ite ?_ ?_)
  | (with_reducible refine LeO.bind ?_ (fun _ => ?_))
  | exact ih0 _ _ _ _ _
  | exact LeO.none _
  | refine LeO.ite ?_ ?_
  | refine LeO.bind ?_ (fun _ => ?_)
def spec_l10Renew.T5 : Bool × List (List Nat × List Nat) := (true, [([], []), ([0], [0]), ([], []), ([], []), ([2, 3], [2, 3]), ([4], [4]), ([], []), ([6], [6]), ([], []), ([], []), ([8, 9], [8, 9]), ([10], [10]), ([7, 11], [7, 11]), ([12], [12]), ([13], [13]), ([], []), ([14, 15], [14, 15]), ([1, 5, 0, 1, 2, 3, 4, 5, 6, 7, 8, 9, 10, 11, 12, 13, 14, 15, 16], [1, 5]), ([17, 0, 1, 2, 3, 4, 5, 6, 7, 8, 9, 10, 11, 12, 13, 14, 15, 16], [17]), ([18, 16, 16, 0, 1, 2, 3, 4, 5, 6, 7, 8, 9, 10, 11, 12, 13, 14, 15, 16], [16, 18])])
def spec_l10Renew.B5 : List Nat := [0, 1, 0, 0, 12, 28, 0, 64, 0, 0, 768, 1792, 4032, 8128, 16320, 0, 65472, 131071, 262143, 524287]
theorem spec_l10Renew.tab5 : rtab .any (opsOf Try.f117 5) = spec_l10Renew.T5 := by kernel_rfl
theorem spec_l10Renew.bits5 : waitsOk spec_l10Renew.T5.2 spec_l10Renew.B5 = true := by kernel_rfl
set_option maxHeartbeats 8000000 in
set_option maxRecDepth 100000 in
theorem spec_l10Renew.calls (k : Nat) (A0 : Option Addr) (l0 : List (S59)) (A1 : Option Addr) (c1 : Nat) (l1 : List Int) (a2 : Int) (r1 : List Int) (r2 : List (S75)) (w : World) (hr0 : Kd.C k59 w A0 l0.length l0) (hr1 : Kd.C (Kd.int .i64) w A1 l1.length l1) (hc1 : l1.length ≤ c1) (h : spec_l10Renew.f k l0 l1 a2 = some (r1, r2)) :
  Calls Try.prog 117 #[.pointer A0, .slice A1 l1.length c1, .int .i64 a2] w fun e w' => ∃ v0_ v1_ : Value, e = .returned (.agg #[v0_, v1_]) ∧ Kd.R (Kd.int .i64) 2 w' w.heap.size (fun _ => True) v0_ r1 ∧ Kd.R k75 75 w' w.heap.size (fun _ => True) v1_ r2 ∧ Below w.heap.size w w' := by
 have hu59 := Try.underlying59
 have HR0 := Aside0.mk hr0
 clear hr0
 have HR1 := Aside0.mk hr1
 have HC1 := Aside0.mk hc1
 clear hr1 hc1
 have HB := Aside0.mk (Below.refl w.heap.size w)
 have H : ((spec_l04Own.f l0).bind fun bt172 => (spec_l10Renew.l0 k l1 a2 0 bt172.1 bt172.2)) = some (r1, r2) := h
 clear h
 replace H := Option.bind_eq_some_iff.mp H
 obtain ⟨⟨t172, t175⟩, A40, H⟩ := H
 replace H : (spec_l10Renew.l0 k l1 a2 0 t172 t175) = some (r1, r2) := H
 have A4 := Aside0.mk A40
 clear A40
 have H' := Aside0.mk H
 clear H
 go_enter Try.func117, Try.ntmps117
 go_wp2_with (first | ((with_reducible refine gate_dst (N := 6) rfl ?_); refine box_event ?hg (N := 6) ?hd (cs := #[.slice none 0 0, .slice none 0 0]) (t := 59) ?hr ?_; (case hd => rfl); (case hg => rfl); (case hr => first | (go_simp; done) | (go_simp; rfl)); intro gb171 hg w5 hbox hb; have n0_ := Aside0.mk (below_step (mvB HB.out) hb); have n1_ := Aside0.mk (hbox); have n2_ := Aside0.mk ((by rw [hg]; exact (below_size (mvB HB.out)) : w.heap.size ≤ gb171)); have n3_ := Aside0.mk ((by rw [hg]; exact (below_size (mvB HB.out)) : w.heap.size ≤ gb171)); clear HB; revert n0_ n1_ n2_ n3_; intro HB BK171 GW171 GE171; clear hb hbox hg) | ((with_reducible refine gate_callee (f := 140) rfl ?_); refine goesA_ (some 10) Try.func140 #[.pointer A0] ?_; (with_reducible refine (spec_l04Own.calls _ l0 t172 t175 _ ?side1 A4.out).mono ?_); (case side1 => exact mvC (Kd.C_below HR0.out HB.out)); rintro e w6 ⟨v173, v176, rfl, ho0, ho1, hb⟩; refine ⟨_, rfl, ?_⟩; have n0_ := Aside0.mk (Kd.R_lower ho0 (below_size (by repeat (first | (with_reducible first | exact HB.out | apply below_alloc | apply pw_below_drewN | apply below_drew1 | refine below_set ?_ GE171.out) | exact HB.out)))); have n1_ := Aside0.mk (Kd.R_lower ho1 (below_size (by repeat (first | (with_reducible first | exact HB.out | apply below_alloc | apply pw_below_drewN | apply below_drew1 | refine below_set ?_ GE171.out) | exact HB.out)))); have n2_ := Aside0.mk (blk_below (g := gb171) (o := .cells #[.slice none 0 0, .slice none 0 0] 59 (0, 0)) (mv BK171.out) hb); have n3_ := Aside0.mk (below_step (by repeat (first | (with_reducible first | exact HB.out | apply below_alloc | apply pw_below_drewN | apply below_drew1 | refine below_set ?_ GE171.out) | exact HB.out)) hb); clear BK171 HB; revert n0_ n1_ n2_ n3_; intro HO174 HO177 BK171 HB; (try clear hb); (try clear ho0); (try clear ho1)) | ((with_reducible refine gate_dst (N := 7) rfl ?_); refine box_event ?hg (N := 7) ?hd (cs := #[.slice none 0 0, .slice none 0 0]) (t := 59) ?hr ?_; (case hd => rfl); (case hg => rfl); (case hr => first | (go_simp; done) | (go_simp; rfl)); intro gb178 hg w7 hbox hb; have n0_ := Aside0.mk (Kd.R_below (mv HO174.out) hb); have n1_ := Aside0.mk (Kd.R_below (mv HO177.out) hb); have n2_ := Aside0.mk (blk_below (g := gb171) (o := .cells #[.slice none 0 0, .slice none 0 0] 59 (0, 0)) (mv BK171.out) hb); have n3_ := Aside0.mk (below_step (by repeat (first | (with_reducible first | exact HB.out | apply below_alloc | apply pw_below_drewN | apply below_drew1 | refine below_set ?_ GE171.out) | exact HB.out)) hb); have n4_ := Aside0.mk (hbox); have n5_ := Aside0.mk ((by rw [hg]; exact (below_size (by repeat (first | (with_reducible first | exact HB.out | apply below_alloc | apply pw_below_drewN | apply below_drew1 | refine below_set ?_ GE171.out) | exact HB.out))) : w.heap.size ≤ gb178)); have n6_ := Aside0.mk ((by rw [hg]; exact (below_size (by repeat (first | (with_reducible first | exact HB.out | apply below_alloc | apply pw_below_drewN | apply below_drew1 | refine below_set ?_ GE171.out) | exact HB.out))) : w.heap.size ≤ gb178)); have n7_ := Aside0.mk ((by rw [hg]; exact Nat.ne_of_lt (blk_lt (g := gb171) (o := .cells #[.slice none 0 0, .slice none 0 0] 59 (0, 0)) (mv BK171.out)) : gb171 ≠ gb178)); have n8_ := Aside0.mk ((by rw [hg]; exact Nat.ne_of_gt (blk_lt (g := gb171) (o := .cells #[.slice none 0 0, .slice none 0 0] 59 (0, 0)) (mv BK171.out)) : gb178 ≠ gb171)); clear HO174 HO177 BK171 HB; revert n0_ n1_ n2_ n3_ n4_ n5_ n6_ n7_ n8_; intro HO174 HO177 BK171 HB BK178 GW178 GE178 NB171_178 NB178_171; clear hb hbox hg; obtain ⟨Ao8, co8, eo8⟩ := Kd.R_slice HO174.out; subst eo8; have hnb9 := NB178_171.out; have hnc9 := NB171_178.out; have hcz10_0 : w7.cell? ⟨gb178, 0, none⟩ = some (.slice none 0 0) := (blk_cell BK178.out 0).trans rfl; have hcz10_1 : w7.cell? ⟨gb178, 1, none⟩ = some (.slice none 0 0) := (blk_cell BK178.out 1).trans rfl; have hfz10_0 := blk_frozen BK178.out 0; have hfz10_1 := blk_frozen BK178.out 1; obtain ⟨Ao11, co11, eo11⟩ := Kd.R_slice HO177.out; subst eo11))
 go_loopg [8] k (fun kq v8 w' => ∃ (x8_1 : Int) (x179001_1 : List (S75)) (u179001 : Value), v8 = .int .i64 x8_1 ∧ Aside0 (spec_l10Renew.l0 kq l1 a2 x8_1 t172 x179001_1 = some (r1, r2)) ∧ Aside0 (kq ≤ k) ∧ Aside0 (Kd.R (Kd.int .i64) 2 w' w.heap.size (fun _ => True) (.slice Ao8 t172.length co8) t172) ∧ Aside0 (Kd.R k75 75 w' w.heap.size (fun _ => True) u179001 x179001_1) ∧ Aside0 (w'.heap[gb171]? = some (.cells #[(.slice none 0 0), (.slice none 0 0)] 59 (0, 0))) ∧ Aside0 (w'.heap[gb178]? = some (.cells #[(.slice Ao8 t172.length co8), u179001] 59 (0, 0))) ∧ Aside0 (Below w.heap.size w w'))
 case atStart => exact ⟨(0), (t175), (.slice Ao11 t175.length co11), rs, H', ⟨Nat.le_refl _⟩, ⟨by (with_reducible repeat (first | apply Kd.R_alloc | apply Kd.R_drewN | apply Kd.R_drew)); exact Kd.R_mono (Kd.R_far (p := ⟨gb178, 1, none⟩) (Kd.R_far (p := ⟨gb178, 0, none⟩) (Kd.R_types HO174.out BK178.out (by decide)) (fun _ hk => hk.2) (.slice Ao8 t172.length co8)) (fun _ hk => hk.2) (.slice Ao11 t175.length co11)) (fun _ hk => trivial)⟩, ⟨by (with_reducible repeat (first | apply Kd.R_alloc | apply Kd.R_drewN | apply Kd.R_drew)); exact Kd.R_mono (Kd.R_far (p := ⟨gb178, 1, none⟩) (Kd.R_far (p := ⟨gb178, 0, none⟩) (Kd.R_types HO177.out BK178.out (by decide)) (fun _ hk => hk.2) (.slice Ao8 t172.length co8)) (fun _ hk => hk.2) (.slice Ao11 t175.length co11)) (fun _ hk => trivial)⟩, ⟨by (with_reducible repeat (first | refine blk_drewN ?_ _ | refine blk_drew ?_ | refine blk_alloc ?_ _)); refine blk_far ?_ NB171_178.out _; (with_reducible repeat (first | refine blk_drewN ?_ _ | refine blk_drew ?_ | refine blk_alloc ?_ _)); refine blk_far ?_ NB171_178.out _; (with_reducible repeat (first | refine blk_drewN ?_ _ | refine blk_drew ?_ | refine blk_alloc ?_ _)); exact BK171.out⟩, ⟨by (with_reducible repeat (first | refine blk_drewN ?_ _ | refine blk_drew ?_ | refine blk_alloc ?_ _)); refine blk_put (cs := #[.slice Ao8 t172.length co8, .slice none 0 0]) ?_ 1 _ rfl; (with_reducible repeat (first | refine blk_drewN ?_ _ | refine blk_drew ?_ | refine blk_alloc ?_ _)); refine blk_put (cs := #[.slice none 0 0, .slice none 0 0]) ?_ 0 _ rfl; (with_reducible repeat (first | refine blk_drewN ?_ _ | refine blk_drew ?_ | refine blk_alloc ?_ _)); exact BK178.out⟩, ⟨by repeat (first | (with_reducible first | exact HB.out | apply below_alloc | apply pw_below_drewN | apply below_drew1 | refine below_set ?_ GE171.out | refine below_set ?_ GE178.out) | exact HB.out)⟩⟩
 case round =>
  clear H'
  try clear hcz10_0
  try clear hcz10_1
  try clear hfz10_0
  try clear hfz10_1
  obtain ⟨x8_1, x179001_1, u179001, rfl, HA, HK1, HO_179000, HO_179001, BK171, BK178, HB⟩ := hrel
  cases gk with
  | zero => exact absurd HA.out (by simp [spec_l10Renew.l0])
  | succ k1 =>
   have H := HA.out
   clear HA
   simp only [spec_l10Renew.l0] at H
   by_cases c12 : x8_1 < (l1.length : Int)
   ·
    rw [if_pos c12] at H
    have c12b0 : decide (x8_1 < (l1.length : Int)) = true := decide_eq_true c12
    clear c12
    by_cases c13 : 0 ≤ x8_1
    ·
     rw [if_pos c13] at H
     have c13b0 : decide (0 ≤ x8_1) = true := decide_eq_true c13
     clear c13
     by_cases c14 : 0 ≤ (rd l1 x8_1)
     ·
      rw [if_pos c14] at H
      have c14b0 : decide (0 ≤ (rd l1 x8_1)) = true := decide_eq_true c14
      clear c14
      by_cases c15 : (rd l1 x8_1) < (x179001_1.length : Int)
      ·
       rw [if_pos c15] at H
       have c15b0 : decide ((rd l1 x8_1) < (x179001_1.length : Int)) = true := decide_eq_true c15
       clear c15
       replace H := Option.bind_eq_some_iff.mp H
       obtain ⟨t182, A160, H⟩ := H
       replace H : (spec_l10Renew.l0 k1 l1 a2 (wrap64 (x8_1 + 1)) t172 (x179001_1.set ((rd l1 x8_1) : Int).toNat (⟨(rd_T75 x179001_1 (rd l1 x8_1)).f0, (rd_T75 x179001_1 (rd l1 x8_1)).f1, (rd_T75 x179001_1 (rd l1 x8_1)).f2, (rd_T75 x179001_1 (rd l1 x8_1)).f3, (rd_T75 x179001_1 (rd l1 x8_1)).f4, t182⟩ : S75))) = some (r1, r2) := H
       have A16 := Aside0.mk A160
       clear A160
       obtain ⟨y183, hy183⟩ : ∃ y_ : List (S75), y_ = (x179001_1.set ((rd l1 x8_1) : Int).toNat (⟨(rd_T75 x179001_1 (rd l1 x8_1)).f0, (rd_T75 x179001_1 (rd l1 x8_1)).f1, (rd_T75 x179001_1 (rd l1 x8_1)).f2, (rd_T75 x179001_1 (rd l1 x8_1)).f3, (rd_T75 x179001_1 (rd l1 x8_1)).f4, t182⟩ : S75)) := ⟨_, rfl⟩
       replace H : (spec_l10Renew.l0 k1 l1 a2 (wrap64 (x8_1 + 1)) t172 y183) = some (r1, r2) := by first | (rw [hy183]; with_reducible exact H) | (have H2_ := (Option.bind_some _ _).symm.trans H; rw [hy183]; with_reducible exact H2_) | (have H2_ := (Option.bind_some _ _).symm.trans H; with_reducible exact H2_) | with_reducible exact H | (rw [hy183]; exact H) | exact H
       have Ny183 := Aside0.mk hy183
       clear hy183
       have H' := Aside0.mk H
       clear H
       try go_wp2
       have n0_ := Aside0.mk (Kd.R_drew HO_179000.out)
       have n1_ := Aside0.mk (Kd.R_drew HO_179001.out)
       have n2_ := Aside0.mk (blk_drew BK171.out)
       have n3_ := Aside0.mk (blk_drew BK178.out)
       have n4_ := Aside0.mk (below_drew1 HB.out)
       clear HO_179000 HO_179001 BK171 BK178 HB
       revert n0_ n1_ n2_ n3_ n4_
       intro HO_179000 HO_179001 BK171 BK178 HB
       have p179 : 0 ≤ (x8_1 : Int) := od
       have q179 : x8_1 < (l1.length : Int) := od
       obtain ⟨ad179, e179, hx179_0⟩ := Kd.at_int HR1.out x8_1 p179 q179
       have hw179_0 := hx179_0
       cases e179
       replace hx179_0 := (HB.out.cell (World.block_lt_of_cell? w _ hx179_0)).trans hx179_0
       replace p179 := eq_true p179
       replace q179 := eq_true q179
       have p180 : 0 ≤ (x8_1 : Int) := od
       have q180 : x8_1 < (l1.length : Int) := od
       obtain ⟨ad180, e180, hx180_0⟩ := Kd.at_int HR1.out x8_1 p180 q180
       have hw180_0 := hx180_0
       obtain rfl : ad179 = ad180 := (by injection e180)
       replace hx180_0 := (HB.out.cell (World.block_lt_of_cell? w _ hx180_0)).trans hx180_0
       replace p180 := eq_true p180
       replace q180 := eq_true q180
       obtain ⟨Ao19, co19, eo19⟩ := Kd.R_slice HO_179001.out
       (first | subst eo19 | (injection eo19 with f1_ f2_ f3_; have f4_ := f1_.symm; have f5_ := f3_.symm; clear f1_ f2_ f3_; subst f4_; subst f5_))
       have p181 : 0 ≤ ((rd l1 x8_1) : Int) := od
       have q181 : (rd l1 x8_1) < (x179001_1.length : Int) := od
       obtain ⟨ad181, e181, hx181_0, hx181_1, hx181_2, hx181_3, hx181_4, hx181_5⟩ := at_T75 (Kd.R_reads' HO_179001.out).2.2 (rd l1 x8_1) p181 q181
       cases e181
       replace p181 := eq_true p181
       replace q181 := eq_true q181
       refine start_ (n := 20) (S := fun w' => w'.cell? ⟨gb178, 0, none⟩ = some (.slice Ao8 t172.length co8) ∧ w'.cell? ⟨gb178, 1, none⟩ = some (.slice (some ad181) x179001_1.length co19) ∧ w'.cell? (ad179.add (x8_1).toNat) = some (.int .i64 (rd l1 x8_1)) ∧ w'.cell? (ad179.add (x8_1).toNat) = some (.int .i64 (rd l1 x8_1)) ∧ w'.cell? (ad181.add (((rd l1 x8_1)).toNat * 6)) = some (.string ((rd_T75 x179001_1 (rd l1 x8_1)).f0)) ∧ w'.cell? ⟨(ad181.add (((rd l1 x8_1)).toNat * 6)).block, (ad181.add (((rd l1 x8_1)).toNat * 6)).off + 1, none⟩ = some (.int .i64 ((rd_T75 x179001_1 (rd l1 x8_1)).f1)) ∧ w'.cell? ⟨(ad181.add (((rd l1 x8_1)).toNat * 6)).block, (ad181.add (((rd l1 x8_1)).toNat * 6)).off + 2, none⟩ = some (.int .i64 ((rd_T75 x179001_1 (rd l1 x8_1)).f2)) ∧ w'.cell? ⟨(ad181.add (((rd l1 x8_1)).toNat * 6)).block, (ad181.add (((rd l1 x8_1)).toNat * 6)).off + 3, none⟩ = some (.int .i64 ((rd_T75 x179001_1 (rd l1 x8_1)).f3)) ∧ w'.cell? ⟨(ad181.add (((rd l1 x8_1)).toNat * 6)).block, (ad181.add (((rd l1 x8_1)).toNat * 6)).off + 4, none⟩ = some (.int .i64 ((rd_T75 x179001_1 (rd l1 x8_1)).f4)) ∧ w'.cell? ⟨(ad181.add (((rd l1 x8_1)).toNat * 6)).block, (ad181.add (((rd l1 x8_1)).toNat * 6)).off + 5, none⟩ = some (.int .i64 ((rd_T75 x179001_1 (rd l1 x8_1)).f5))) (ds := [19]) #[false, false, false, false, false, false, false, false, false, false, false, false, false, false, false, false, false, false, false, false] (by kernel_rfl) rfl rfl ⟨(blk_cell BK178.out 0).trans rfl, (blk_cell BK178.out 1).trans rfl, ((HB.out.cell (World.block_lt_of_cell? w _ hw179_0)).trans hw179_0), ((HB.out.cell (World.block_lt_of_cell? w _ hw180_0)).trans hw180_0), hx181_0, hx181_1, hx181_2, hx181_3, hx181_4, hx181_5⟩ (fun hHeld => ?_); refine with_tabW spec_l10Renew.tab5 spec_l10Renew.bits5 (fun HT_ HW_ => ?_)
       generalize wr.drew = w18 at HO_179000 HO_179001 BK171 BK178 HB hx179_0 hx180_0 hx181_0 hx181_1 hx181_2 hx181_3 hx181_4 hx181_5 hHeld ⊢
       refine pure_ (i := 0) (N := some 17) (v := ?_) (a' := ?_) #[true, false, false, false, false, false, false, false, false, false, false, false, false, false, false, false, false, false, false, false] rfl rfl (any_of HT_.out (by kernel_rfl)) (fun _ _ _ h => h) (Or.inl ⟨by rfl, ?_⟩) ?_ ?_
       rotate_left
       ·
        intro w'
        go_simp
        with_reducible rfl
       rotate_left
       ·
        simp only [Act.put, List.setIfInBounds_toArray, List.set_cons_zero, List.set_cons_succ, i64_w, i32_w]
        rfl
       refine pure_ (i := 2) (N := some 19) (v := ?_) (a' := ?_) #[true, false, true, false, false, false, false, false, false, false, false, false, false, false, false, false, false, false, false, false] rfl rfl (any_of HT_.out (by kernel_rfl)) (fun _ _ _ h => h) (Or.inl ⟨by rfl, ?_⟩) ?_ ?_
       rotate_left
       ·
        intro w'
        go_simp
        with_reducible rfl
       rotate_left
       ·
        simp only [Act.put, List.setIfInBounds_toArray, List.set_cons_zero, List.set_cons_succ, i64_w, i32_w]
        rfl
       refine pure_ (i := 3) (N := some 20) (v := ?_) (a' := ?_) #[true, false, true, true, false, false, false, false, false, false, false, false, false, false, false, false, false, false, false, false] rfl rfl (any_of HT_.out (by kernel_rfl)) (fun _ _ _ h => h) (Or.inl ⟨by rfl, ?_⟩) ?_ ?_
       rotate_left
       ·
        intro w'
        go_simp
        with_reducible rfl
       rotate_left
       ·
        simp only [Act.put, List.setIfInBounds_toArray, List.set_cons_zero, List.set_cons_succ, i64_w, i32_w]
        rfl
       refine pure_ (i := 4) (N := some 21) (v := ?_) (a' := ?_) #[true, false, true, true, true, false, false, false, false, false, false, false, false, false, false, false, false, false, false, false] rfl rfl (any_of HT_.out (by kernel_rfl)) (fun _ _ _ h => h) (Or.inl ⟨by rfl, ?_⟩) ?_ ?_
       rotate_left
       ·
        intro w'
        go_simp
        with_reducible rfl
       rotate_left
       ·
        simp only [Act.put, List.setIfInBounds_toArray, List.set_cons_zero, List.set_cons_succ, i64_w, i32_w]
        rfl
       refine pure_ (i := 6) (N := some 23) (v := ?_) (a' := ?_) #[true, false, true, true, true, false, true, false, false, false, false, false, false, false, false, false, false, false, false, false] rfl rfl (any_of HT_.out (by kernel_rfl)) (fun _ _ _ h => h) (Or.inl ⟨by rfl, ?_⟩) ?_ ?_
       rotate_left
       ·
        intro w'
        go_simp
        with_reducible rfl
       rotate_left
       ·
        simp only [Act.put, List.setIfInBounds_toArray, List.set_cons_zero, List.set_cons_succ, i64_w, i32_w]
        rfl
       refine pure_ (i := 8) (N := some 25) (v := ?_) (a' := ?_) #[true, false, true, true, true, false, true, false, true, false, false, false, false, false, false, false, false, false, false, false] rfl rfl (any_of HT_.out (by kernel_rfl)) (fun _ _ _ h => h) (Or.inl ⟨by rfl, ?_⟩) ?_ ?_
       rotate_left
       ·
        intro w'
        go_simp
        with_reducible rfl
       rotate_left
       ·
        simp only [Act.put, List.setIfInBounds_toArray, List.set_cons_zero, List.set_cons_succ, i64_w, i32_w]
        rfl
       refine pure_ (i := 9) (N := some 26) (v := ?_) (a' := ?_) #[true, false, true, true, true, false, true, false, true, true, false, false, false, false, false, false, false, false, false, false] rfl rfl (any_of HT_.out (by kernel_rfl)) (fun _ _ _ h => h) (Or.inl ⟨by rfl, ?_⟩) ?_ ?_
       rotate_left
       ·
        intro w'
        go_simp
        with_reducible rfl
       rotate_left
       ·
        simp only [Act.put, List.setIfInBounds_toArray, List.set_cons_zero, List.set_cons_succ, i64_w, i32_w]
        rfl
       refine pure_ (i := 10) (N := some 27) (v := ?_) (a' := ?_) #[true, false, true, true, true, false, true, false, true, true, true, false, false, false, false, false, false, false, false, false] rfl rfl (any_of HT_.out (by kernel_rfl)) (fun _ _ _ h => h) (Or.inl ⟨by rfl, ?_⟩) ?_ ?_
       rotate_left
       ·
        intro w'
        go_simp
        with_reducible rfl
       rotate_left
       ·
        simp only [Act.put, List.setIfInBounds_toArray, List.set_cons_zero, List.set_cons_succ, i64_w, i32_w]
        rfl
       refine pure_ (i := 15) (N := some 32) (v := ?_) (a' := ?_) #[true, false, true, true, true, false, true, false, true, true, true, false, false, false, false, true, false, false, false, false] rfl rfl (any_of HT_.out (by kernel_rfl)) (fun _ _ _ h => h) (Or.inl ⟨by rfl, ?_⟩) ?_ ?_
       rotate_left
       ·
        intro w'
        go_simp
        with_reducible rfl
       rotate_left
       ·
        simp only [Act.put, List.setIfInBounds_toArray, List.set_cons_zero, List.set_cons_succ, i64_w, i32_w]
        rfl
       refine take_ (i := 1) (N := some 18) (v := ?_) (a' := ?_) #[true, true, true, true, true, false, true, false, true, true, true, false, false, false, false, true, false, false, false, false] rfl rfl (take_ofW HT_.out HW_.out (by kernel_rfl)) (fun _ _ _ h => h) (Or.inl ⟨by rfl, ?_⟩) hHeld ?_ ?_
       rotate_left
       ·
        rintro w' ⟨s0, s1, s2, s3, s4, s5, s6, s7, s8, s9⟩
        go_simp
        with_reducible rfl
       rotate_left
       ·
        simp only [Act.put, List.setIfInBounds_toArray, List.set_cons_zero, List.set_cons_succ, i64_w, i32_w]
        rfl
       refine take_ (i := 5) (N := some 22) (v := ?_) (a' := ?_) #[true, true, true, true, true, true, true, false, true, true, true, false, false, false, false, true, false, false, false, false] rfl rfl (take_ofW HT_.out HW_.out (by kernel_rfl)) (fun _ _ _ h => h) (Or.inl ⟨by rfl, ?_⟩) hHeld ?_ ?_
       rotate_left
       ·
        rintro w' ⟨s0, s1, s2, s3, s4, s5, s6, s7, s8, s9⟩
        go_simp
        with_reducible rfl
       rotate_left
       ·
        simp only [Act.put, List.setIfInBounds_toArray, List.set_cons_zero, List.set_cons_succ, i64_w, i32_w]
        rfl
       refine take_ (i := 7) (N := some 24) (v := ?_) (a' := ?_) #[true, true, true, true, true, true, true, true, true, true, true, false, false, false, false, true, false, false, false, false] rfl rfl (take_ofW HT_.out HW_.out (by kernel_rfl)) (fun _ _ _ h => h) (Or.inl ⟨by rfl, ?_⟩) hHeld ?_ ?_
       rotate_left
       ·
        rintro w' ⟨s0, s1, s2, s3, s4, s5, s6, s7, s8, s9⟩
        go_simp
        with_reducible rfl
       rotate_left
       ·
        simp only [Act.put, List.setIfInBounds_toArray, List.set_cons_zero, List.set_cons_succ, i64_w, i32_w]
        rfl
       refine take_ (i := 11) (N := some 28) (v := ?_) (a' := ?_) #[true, true, true, true, true, true, true, true, true, true, true, true, false, false, false, true, false, false, false, false] rfl rfl (take_ofW HT_.out HW_.out (by kernel_rfl)) (fun _ _ _ h => h) (Or.inl ⟨by rfl, ?_⟩) hHeld ?_ ?_
       rotate_left
       ·
        rintro w' ⟨s0, s1, s2, s3, s4, s5, s6, s7, s8, s9⟩
        go_simp
        with_reducible rfl
       rotate_left
       ·
        simp only [Act.put, List.setIfInBounds_toArray, List.set_cons_zero, List.set_cons_succ, i64_w, i32_w]
        rfl
       refine pure_ (i := 12) (N := some 29) (v := ?_) (a' := ?_) #[true, true, true, true, true, true, true, true, true, true, true, true, true, false, false, true, false, false, false, false] rfl rfl (any_of HT_.out (by kernel_rfl)) (fun _ _ _ h => h) (Or.inl ⟨by rfl, ?_⟩) ?_ ?_
       rotate_left
       ·
        intro w'
        go_simp
        with_reducible rfl
       rotate_left
       ·
        simp only [Act.put, List.setIfInBounds_toArray, List.set_cons_zero, List.set_cons_succ, i64_w, i32_w]
        rfl
       refine pure_ (i := 13) (N := some 30) (v := ?_) (a' := ?_) #[true, true, true, true, true, true, true, true, true, true, true, true, true, true, false, true, false, false, false, false] rfl rfl (any_of HT_.out (by kernel_rfl)) (fun _ _ _ h => h) (Or.inl ⟨by rfl, ?_⟩) ?_ ?_
       rotate_left
       ·
        intro w'
        go_simp
        with_reducible rfl
       rotate_left
       ·
        simp only [Act.put, List.setIfInBounds_toArray, List.set_cons_zero, List.set_cons_succ, i64_w, i32_w]
        rfl
       refine take_ (i := 14) (N := some 31) (v := ?_) (a' := ?_) #[true, true, true, true, true, true, true, true, true, true, true, true, true, true, true, true, false, false, false, false] rfl rfl (take_ofW HT_.out HW_.out (by kernel_rfl)) (fun _ _ _ h => h) (Or.inl ⟨by rfl, ?_⟩) hHeld ?_ ?_
       rotate_left
       ·
        rintro w' ⟨s0, s1, s2, s3, s4, s5, s6, s7, s8, s9⟩
        go_simp
        with_reducible rfl
       rotate_left
       ·
        simp only [Act.put, List.setIfInBounds_toArray, List.set_cons_zero, List.set_cons_succ, i64_w, i32_w]
        rfl
       refine one_ (i := 16) (N := some 33) #[true, true, true, true, true, true, true, true, true, true, true, true, true, true, true, true, true, false, false, false] rfl rfl (one_of HT_.out (by kernel_rfl)) (by decide) (fun K hK => ?_)
       refine goes_ Try.func141 (by kernel_rfl) rfl #[.int .i64 ((rd_T75 x179001_1 (rd l1 x8_1)).f5), .int .i64 a2] (by rfl) rfl rfl (by (try simp only [List.map_toArray, List.map_cons, List.map_nil]); first | done | rfl | (simp only [List.length_drop, List.length_take]; rfl)) ?_
       with_reducible refine (spec_l00Min.calls ((rd_T75 x179001_1 (rd l1 x8_1)).f5) a2 t182 _ A16.out).mono ?_
       rintro e w' ⟨rfl, ⟨nd, rfl⟩⟩
       refine ⟨_, rfl, ?_⟩
       have p17 : 0 ≤ ((rd l1 x8_1) : Int) := od
       have q17 : ((rd l1 x8_1) : Int) < ((x179001_1.length : Int) : Int) := od
       obtain ⟨go17, co17, eo17, gb17, gl17, cl17, HG17⟩ := Kd.R_form HO_179001.out (by omega)
       (first | cases eo17 | (injection eo17 with ea_ en_ ec_; (first | subst ea_ | (injection ea_ with ea_; subst ea_)); subst ec_; clear en_))
       have GB17 := Aside0.mk gb17
       have GG17 := Aside0.mk HG17
       clear gb17 gl17 HG17
       (first | simp only [add_plain] at hx181_0 | skip)
       (first | simp only [add_plain] at hx181_1 | skip)
       (first | simp only [add_plain] at hx181_2 | skip)
       (first | simp only [add_plain] at hx181_3 | skip)
       (first | simp only [add_plain] at hx181_4 | skip)
       (first | simp only [add_plain] at hx181_5 | skip)
       obtain ⟨ce17, hcl17, hM17, hcc17, hfr17⟩ := Kd.R_elem HO_179001.out z75 ((rd l1 x8_1) : Int) p17 q17
       obtain rfl := k75_openM hM17
       have hx17_0 : World.cell? _ ⟨go17, ((rd l1 x8_1) : Int).toNat * 6, none⟩ = some (.string ((rd_T75 x179001_1 (rd l1 x8_1)).f0)) := hcc17 0 _ rfl
       have hx17_1 : World.cell? _ ⟨go17, ((rd l1 x8_1) : Int).toNat * 6 + 1, none⟩ = some (.int .i64 ((rd_T75 x179001_1 (rd l1 x8_1)).f1)) := hcc17 1 _ rfl
       have hx17_2 : World.cell? _ ⟨go17, ((rd l1 x8_1) : Int).toNat * 6 + 2, none⟩ = some (.int .i64 ((rd_T75 x179001_1 (rd l1 x8_1)).f2)) := hcc17 2 _ rfl
       have hx17_3 : World.cell? _ ⟨go17, ((rd l1 x8_1) : Int).toNat * 6 + 3, none⟩ = some (.int .i64 ((rd_T75 x179001_1 (rd l1 x8_1)).f3)) := hcc17 3 _ rfl
       have hx17_4 : World.cell? _ ⟨go17, ((rd l1 x8_1) : Int).toNat * 6 + 4, none⟩ = some (.int .i64 ((rd_T75 x179001_1 (rd l1 x8_1)).f4)) := hcc17 4 _ rfl
       have hx17_5 : World.cell? _ ⟨go17, ((rd l1 x8_1) : Int).toNat * 6 + 5, none⟩ = some (.int .i64 ((rd_T75 x179001_1 (rd l1 x8_1)).f5)) := hcc17 5 _ rfl
       have hf17_0 : World.frozen? _ ⟨go17, ((rd l1 x8_1) : Int).toNat * 6, none⟩ = false := hfr17 0
       have hf17_1 : World.frozen? _ ⟨go17, ((rd l1 x8_1) : Int).toNat * 6 + 1, none⟩ = false := hfr17 1
       have hf17_2 : World.frozen? _ ⟨go17, ((rd l1 x8_1) : Int).toNat * 6 + 2, none⟩ = false := hfr17 2
       have hf17_3 : World.frozen? _ ⟨go17, ((rd l1 x8_1) : Int).toNat * 6 + 3, none⟩ = false := hfr17 3
       have hf17_4 : World.frozen? _ ⟨go17, ((rd l1 x8_1) : Int).toNat * 6 + 4, none⟩ = false := hfr17 4
       have hf17_5 : World.frozen? _ ⟨go17, ((rd l1 x8_1) : Int).toNat * 6 + 5, none⟩ = false := hfr17 5
       (try clear hM17); clear hcl17 hcc17 hfr17
       replace p17 := eq_true p17
       replace q17 := eq_true q17
       obtain ⟨ce20, hcl20, hM20, hcc20, hfr20⟩ := Kd.R_elem HO_179001.out z75 ((rd l1 x8_1) : Int) (od) (by have h_ : ((rd l1 x8_1) : Int) < ((x179001_1.length : Int) : Int) := od; first | exact h_ | (have e_ := (Kd.R_reads' HO_179001.out).1; omega) | simpa using h_)
       obtain rfl := k75_openM hM20
       have HP20 := (Kd.R_seg HO_179001.out ((rd l1 x8_1) : Int) (od) (by have h_ : ((rd l1 x8_1) : Int) < ((x179001_1.length : Int) : Int) := od; first | exact h_ | (have e_ := (Kd.R_reads' HO_179001.out).1; omega) | simpa using h_) (seg := [.int .i64 t182]) (j := 5) hcl20 hcc20 (show 6 ≤ 6 from by decide) (x' := (⟨(rd_T75 x179001_1 (rd l1 x8_1)).f0, (rd_T75 x179001_1 (rd l1 x8_1)).f1, (rd_T75 x179001_1 (rd l1 x8_1)).f2, (rd_T75 x179001_1 (rd l1 x8_1)).f3, (rd_T75 x179001_1 (rd l1 x8_1)).f4, t182⟩ : S75)) (k75_mkM _ _ _ (⟨(rd_T75 x179001_1 (rd l1 x8_1)).f0, (rd_T75 x179001_1 (rd l1 x8_1)).f1, (rd_T75 x179001_1 (rd l1 x8_1)).f2, (rd_T75 x179001_1 (rd l1 x8_1)).f3, (rd_T75 x179001_1 (rd l1 x8_1)).f4, t182⟩ : S75) ) (fun _ hk => hk)).1
       rw [← Ny183.out] at HP20
       have HQ20 := Aside0.mk HP20
       (try clear hM20); clear hcl20 hcc20 hfr20 HP20
       refine hK.out _ _ ⟨(blk_cell BK178.out 0).trans rfl, (blk_cell BK178.out 1).trans rfl, ((HB.out.cell (World.block_lt_of_cell? w _ hw179_0)).trans hw179_0), ((HB.out.cell (World.block_lt_of_cell? w _ hw180_0)).trans hw180_0), hHeld.2.2.2.2.1, hHeld.2.2.2.2.2.1, hHeld.2.2.2.2.2.2.1, hHeld.2.2.2.2.2.2.2.1, hHeld.2.2.2.2.2.2.2.2.1, hHeld.2.2.2.2.2.2.2.2.2⟩ (fun hHeld => ?_)
       clear hK K
       refine norm_ (a' := ?_) ?_ ?_
       rotate_left
       ·
        show Act.put _ (some 33) _ = _
        simp only [Act.put, List.setIfInBounds_toArray, List.set_cons_zero, List.set_cons_succ, i64_w, i32_w]
        rfl
       refine pure_ (i := 17) (N := some 34) (v := ?_) (a' := ?_) #[true, true, true, true, true, true, true, true, true, true, true, true, true, true, true, true, true, true, false, false] rfl rfl (any_of HT_.out (by kernel_rfl)) (fun _ _ _ h => h) (Or.inl ⟨by rfl, ?_⟩) ?_ ?_
       rotate_left
       ·
        intro w'
        go_simp
        with_reducible rfl
       rotate_left
       ·
        simp only [Act.put, List.setIfInBounds_toArray, List.set_cons_zero, List.set_cons_succ, i64_w, i32_w]
        rfl
       refine pure_ (i := 18) (N := some 35) (v := ?_) (a' := ?_) #[true, true, true, true, true, true, true, true, true, true, true, true, true, true, true, true, true, true, true, false] rfl rfl (any_of HT_.out (by kernel_rfl)) (fun _ _ _ h => h) (Or.inl ⟨by rfl, ?_⟩) ?_ ?_
       rotate_left
       ·
        intro w'
        go_simp
        with_reducible rfl
       rotate_left
       ·
        simp only [Act.put, List.setIfInBounds_toArray, List.set_cons_zero, List.set_cons_succ, i64_w, i32_w]
        rfl
       refine last_ (i := 19) (N := none) #[true, true, true, true, true, true, true, true, true, true, true, true, true, true, true, true, true, true, true, true] rfl rfl (one_of HT_.out (by kernel_rfl)) (by decide) (fun K hK => ?_)
       refine skip_ (w1 := ?_) (by rfl) rfl ?_ ?_
       rotate_left
       ·
        go_simp
        rfl
       refine hK.out _ _ ?_
       clear hK K
       refine done_ (done_of HT_.out (by kernel_rfl)) ?_
       try go_wp2
       go_roundg k1
       case measure => have := HK1.out; omega
       case rel => exact ⟨(wrap64 (x8_1 + 1)), (y183), (.slice (some ⟨go17, 0, none⟩) x179001_1.length co19), rs, H', ⟨by have := HK1.out; omega⟩, ⟨by (with_reducible repeat (first | apply Kd.R_alloc | apply Kd.R_drewN | apply Kd.R_drew)); exact Kd.R_mono (Kd.R_far (p := ⟨go17, ((rd l1 x8_1) : Int).toNat * 6 + 5, none⟩) (Kd.R_types HO_179000.out GG17.out (by decide)) (fun _ hk => hk.2) (.int .i64 t182)) (fun _ hk => trivial)⟩, ⟨mv HQ20.out⟩, ⟨by (with_reducible repeat (first | refine blk_drewN ?_ _ | refine blk_drew ?_ | refine blk_alloc ?_ _)); refine blk_far ?_ (by have h_ := Kd.R_ne HO_179001.out BK171.out (by decide); intro e_; exact h_ (by rw [e_]; rfl)) _; (with_reducible repeat (first | refine blk_drewN ?_ _ | refine blk_drew ?_ | refine blk_alloc ?_ _)); exact BK171.out⟩, ⟨by (with_reducible repeat (first | refine blk_drewN ?_ _ | refine blk_drew ?_ | refine blk_alloc ?_ _)); refine blk_far ?_ (by have h_ := Kd.R_ne HO_179001.out BK178.out (by decide); intro e_; exact h_ (by rw [e_]; rfl)) _; (with_reducible repeat (first | refine blk_drewN ?_ _ | refine blk_drew ?_ | refine blk_alloc ?_ _)); exact BK178.out⟩, ⟨by repeat (first | (with_reducible first | exact HB.out | apply below_alloc | apply pw_below_drewN | apply below_drew1 | refine below_set ?_ GB17.out | refine below_set ?_ GE171.out | refine below_set ?_ GE178.out) | exact HB.out)⟩⟩
      ·
       rw [if_neg c15] at H
       exact absurd H (by simp)
     ·
      rw [if_neg c14] at H
      exact absurd H (by simp)
    ·
     rw [if_neg c13] at H
     exact absurd H (by simp)
   ·
    rw [if_neg c12] at H
    have c12b0 : decide (x8_1 < (l1.length : Int)) = false := decide_eq_false c12
    clear c12
    simp only [Option.some.injEq, Prod.mk.injEq] at H
    obtain ⟨rfl, rfl⟩ := H
    have hnb21 := NB178_171.out
    have hnc21 := NB171_178.out
    have hcz22_0 : wr.cell? ⟨gb178, 0, none⟩ = some (.slice Ao8 t172.length co8) := (blk_cell BK178.out 0).trans rfl
    have hcz22_1 : wr.cell? ⟨gb178, 1, none⟩ = some (u179001) := (blk_cell BK178.out 1).trans rfl
    have hfz22_0 := blk_frozen BK178.out 0
    have hfz22_1 := blk_frozen BK178.out 1
    have hcz23_0 : wr.cell? ⟨gb171, 0, none⟩ = some (.slice none 0 0) := (blk_cell BK171.out 0).trans rfl
    have hcz23_1 : wr.cell? ⟨gb171, 1, none⟩ = some (.slice none 0 0) := (blk_cell BK171.out 1).trans rfl
    have hfz23_0 := blk_frozen BK171.out 0
    have hfz23_1 := blk_frozen BK171.out 1
    obtain ⟨Ao24, co24, eo24⟩ := Kd.R_slice HO_179001.out
    subst eo24
    go_wp2
    refine bodyPost_ret (results_cell_row rfl _ _ gb171 59 #[.slice Ao8 t172.length co8, .slice Ao24 x179001_1.length co24] (0, 0) _ rfl (by (with_reducible repeat (first | refine blk_drewN ?_ _ | refine blk_drew ?_ | refine blk_alloc ?_ _)); refine blk_put (cs := #[.slice Ao8 t172.length co8, .slice none 0 0]) ?_ 1 _ rfl; (with_reducible repeat (first | refine blk_drewN ?_ _ | refine blk_drew ?_ | refine blk_alloc ?_ _)); refine blk_put (cs := #[.slice none 0 0, .slice none 0 0]) ?_ 0 _ rfl; (with_reducible repeat (first | refine blk_drewN ?_ _ | refine blk_drew ?_ | refine blk_alloc ?_ _)); exact BK171.out) Try.underlying59 rfl (by kernel_rfl)) rfl ?_
    exact ⟨_, _, by first | rfl | (simp [errW_none, errW_some] <;> rfl) | (simp [*, errW_none, errW_some] <;> rfl), by (with_reducible repeat (first | apply Kd.R_alloc | apply Kd.R_drewN | apply Kd.R_drew)); exact Kd.R_mono (Kd.R_far (p := ⟨gb171, 1, none⟩) (Kd.R_far (p := ⟨gb171, 0, none⟩) (Kd.R_types HO_179000.out BK171.out (by decide)) (fun _ hk => hk.2) (.slice Ao8 t172.length co8)) (fun _ hk => hk.2) (.slice Ao24 x179001_1.length co24)) (fun _ hk => trivial), by (with_reducible repeat (first | apply Kd.R_alloc | apply Kd.R_drewN | apply Kd.R_drew)); exact Kd.R_mono (Kd.R_far (p := ⟨gb171, 1, none⟩) (Kd.R_far (p := ⟨gb171, 0, none⟩) (Kd.R_types HO_179001.out BK171.out (by decide)) (fun _ hk => hk.2) (.slice Ao8 t172.length co8)) (fun _ hk => hk.2) (.slice Ao24 x179001_1.length co24)) (fun _ hk => trivial), by repeat (first | (with_reducible first | exact HB.out | apply below_alloc | apply pw_below_drewN | apply below_drew1 | refine below_set ?_ GE171.out | refine below_set ?_ GE178.out) | exact HB.out)⟩

/-! ### spec_l01Div: function 98 -/
def spec_l01Div.f (a0 : Int) (a1 : Int) : Option (Int) := if a1 < 0 then (if (wrap64 (-a0)) < 0 then (if (wrap64 (2 * (wrap64 (-a1)))) = 0 then (none) else (some (wrap64 (-(wrap64 (Int.tdiv (wrap64 ((wrap64 (-a1)) - (wrap64 (2 * (wrap64 (-a0)))))) (wrap64 (2 * (wrap64 (-a1)))))))))) else (if (wrap64 (2 * (wrap64 (-a1)))) = 0 then (none) else (some (wrap64 (Int.tdiv (wrap64 ((wrap64 (2 * (wrap64 (-a0)))) + (wrap64 (-a1)))) (wrap64 (2 * (wrap64 (-a1))))))))) else (if a0 < 0 then (if (wrap64 (2 * a1)) = 0 then (none) else (some (wrap64 (-(wrap64 (Int.tdiv (wrap64 (a1 - (wrap64 (2 * a0)))) (wrap64 (2 * a1)))))))) else (if (wrap64 (2 * a1)) = 0 then (none) else (some (wrap64 (Int.tdiv (wrap64 ((wrap64 (2 * a0)) + a1)) (wrap64 (2 * a1)))))))
set_option maxHeartbeats 8000000 in
set_option maxRecDepth 100000 in
theorem spec_l01Div.calls (a0 : Int) (a1 : Int) (r : Int) (w : World) (h : spec_l01Div.f a0 a1 = some r) :
  Calls Try.prog 98 #[.int .i64 a0, .int .i64 a1] w fun e w' => e = .returned (.int .i64 r) ∧ Drawn0 w w' := by
 have H : (if a1 < 0 then (if (wrap64 (-a0)) < 0 then (if (wrap64 (2 * (wrap64 (-a1)))) = 0 then (none) else (some (wrap64 (-(wrap64 (Int.tdiv (wrap64 ((wrap64 (-a1)) - (wrap64 (2 * (wrap64 (-a0)))))) (wrap64 (2 * (wrap64 (-a1)))))))))) else (if (wrap64 (2 * (wrap64 (-a1)))) = 0 then (none) else (some (wrap64 (Int.tdiv (wrap64 ((wrap64 (2 * (wrap64 (-a0)))) + (wrap64 (-a1)))) (wrap64 (2 * (wrap64 (-a1))))))))) else (if a0 < 0 then (if (wrap64 (2 * a1)) = 0 then (none) else (some (wrap64 (-(wrap64 (Int.tdiv (wrap64 (a1 - (wrap64 (2 * a0)))) (wrap64 (2 * a1)))))))) else (if (wrap64 (2 * a1)) = 0 then (none) else (some (wrap64 (Int.tdiv (wrap64 ((wrap64 (2 * a0)) + a1)) (wrap64 (2 * a1)))))))) = some r := h
 clear h
 by_cases c3 : a1 < 0
 ·
  rw [if_pos c3] at H
  have c3b0 : decide (a1 < 0) = true := decide_eq_true c3
  clear c3
  by_cases c4 : (wrap64 (-a0)) < 0
  ·
   rw [if_pos c4] at H
   have c4b0 : decide ((wrap64 (-a0)) < 0) = true := decide_eq_true c4
   clear c4
   by_cases c5 : (wrap64 (2 * (wrap64 (-a1)))) = 0
   ·
    rw [if_pos c5] at H
    exact absurd H (by simp)
   ·
    rw [if_neg c5] at H
    have c5b0 : ((wrap64 (2 * (wrap64 (-a1)))) == 0) = false := beq_eq_false_iff_ne.mpr c5
    have c5b1 : ((wrap64 (2 * (wrap64 (-a1)))) != 0) = true := bne_iff_ne.mpr c5
    obtain rfl := Option.some.inj H
    go_enter Try.func98, Try.ntmps98
    go_wp2
    go_ret
    exact ⟨rs, dr0⟩
  ·
   rw [if_neg c4] at H
   have c4b0 : decide ((wrap64 (-a0)) < 0) = false := decide_eq_false c4
   clear c4
   by_cases c6 : (wrap64 (2 * (wrap64 (-a1)))) = 0
   ·
    rw [if_pos c6] at H
    exact absurd H (by simp)
   ·
    rw [if_neg c6] at H
    have c6b0 : ((wrap64 (2 * (wrap64 (-a1)))) == 0) = false := beq_eq_false_iff_ne.mpr c6
    have c6b1 : ((wrap64 (2 * (wrap64 (-a1)))) != 0) = true := bne_iff_ne.mpr c6
    obtain rfl := Option.some.inj H
    go_enter Try.func98, Try.ntmps98
    go_wp2
    go_ret
    exact ⟨rs, dr0⟩
 ·
  rw [if_neg c3] at H
  have c3b0 : decide (a1 < 0) = false := decide_eq_false c3
  clear c3
  by_cases c7 : a0 < 0
  ·
   rw [if_pos c7] at H
   have c7b0 : decide (a0 < 0) = true := decide_eq_true c7
   clear c7
   by_cases c8 : (wrap64 (2 * a1)) = 0
   ·
    rw [if_pos c8] at H
    exact absurd H (by simp)
   ·
    rw [if_neg c8] at H
    have c8b0 : ((wrap64 (2 * a1)) == 0) = false := beq_eq_false_iff_ne.mpr c8
    have c8b1 : ((wrap64 (2 * a1)) != 0) = true := bne_iff_ne.mpr c8
    obtain rfl := Option.some.inj H
    go_enter Try.func98, Try.ntmps98
    go_wp2
    go_ret
    exact ⟨rs, dr0⟩
  ·
   rw [if_neg c7] at H
   have c7b0 : decide (a0 < 0) = false := decide_eq_false c7
   clear c7
   by_cases c9 : (wrap64 (2 * a1)) = 0
   ·
    rw [if_pos c9] at H
    exact absurd H (by simp)
   ·
    rw [if_neg c9] at H
    have c9b0 : ((wrap64 (2 * a1)) == 0) = false := beq_eq_false_iff_ne.mpr c9
    have c9b1 : ((wrap64 (2 * a1)) != 0) = true := bne_iff_ne.mpr c9
    obtain rfl := Option.some.inj H
    go_enter Try.func98, Try.ntmps98
    go_wp2
    go_ret
    exact ⟨rs, dr0⟩

/-! ### spec_l10Loses: function 142 -/
def spec_l10Loses.f (a0 : Int) (a1 : Int) (a2 : Int) (a3 : Int) : Option (Int) := (spec_l01Div.f (wrap64 ((wrap64 (a0 * a1)) * (wrap64 (a2 - a3)))) 100000).bind fun t184 => (some t184)
set_option maxHeartbeats 8000000 in
set_option maxRecDepth 100000 in
theorem spec_l10Loses.calls (a0 : Int) (a1 : Int) (a2 : Int) (a3 : Int) (r : Int) (w : World) (h : spec_l10Loses.f a0 a1 a2 a3 = some r) :
  Calls Try.prog 142 #[.int .i64 a0, .int .i64 a1, .int .i64 a2, .int .i64 a3] w fun e w' => e = .returned (.int .i64 r) ∧ Drawn0 w w' := by
 have H : ((spec_l01Div.f (wrap64 ((wrap64 (a0 * a1)) * (wrap64 (a2 - a3)))) 100000).bind fun t184 => (some t184)) = some r := h
 clear h
 replace H := Option.bind_eq_some_iff.mp H
 obtain ⟨t184, A50, H⟩ := H
 replace H : (some t184) = some r := H
 have A5 := Aside0.mk A50
 clear A50
 obtain rfl := Option.some.inj H
 go_enter Try.func142, Try.ntmps142
 go_wp2_with (first | ((with_reducible refine gate_callee (f := 98) rfl ?_); refine goesA_ (some 16) Try.func98 #[.int .i64 (wrap64 ((wrap64 (a0 * a1)) * (wrap64 (a2 - a3)))), .int .i64 100000] ?_; (with_reducible refine (spec_l01Div.calls (wrap64 ((wrap64 (a0 * a1)) * (wrap64 (a2 - a3)))) 100000 t184 _ A5.out).mono ?_); rintro e w' ⟨rfl, ⟨nd, rfl⟩⟩; refine ⟨_, rfl, ?_⟩))
 go_ret
 exact ⟨rs, dr0⟩

/-! ### spec_l10Sum: function 118 -/
def spec_l10Sum.l0 : Nat → List (S59) → Int → Int → Int → Int → Option (Int)
 | 0, _, _, _, _, _ => none
 | k + 1, x0, x1, x2, x7, x8 => if 0 < (x0.length : Int) then (if x8 < (((rd_T59 x0 0).f1).length : Int) then (if 0 ≤ x8 then ((spec_l10Loses.f ((rd_T75 ((rd_T59 x0 0).f1) x8).f5) ((rd_T75 ((rd_T59 x0 0).f1) x8).f3) x1 x2).bind fun t190 => (spec_l10Sum.l0 k x0 x1 x2 (wrap64 (x7 + t190)) (wrap64 (x8 + 1)))) else (none)) else (some x7)) else (none)
def spec_l10Sum.f (k : Nat) (l0 : List (S59)) (a1 : Int) (a2 : Int) : Option (Int) := spec_l10Sum.l0 k l0 a1 a2 0 0
theorem spec_l10Sum.mono_l : ∀ k, (∀ y0 y1 y2 y3 y4, LeO (spec_l10Sum.l0 k y0 y1 y2 y3 y4) (spec_l10Sum.l0 (k + 1) y0 y1 y2 y3 y4))
 | 0 => fun _ _ _ _ _ r h => by simp [spec_l10Sum.l0] at h
 | k + 1 => by
  have ih0 := spec_l10Sum.mono_l k
  ·
   intro y0 y1 y2 y3 y4
   unfold spec_l10Sum.l0
   repeat' first
   | (with_reducible exact ih0 _ _ _ _ _)
   | (with_reducible exact LeO.refl _)
   | (with_reducible exact LeO.none _)
   | (with_reducible refine LeO.ite ?_ ?_)
   | (with_reducible refine LeO.bind ?_ (fun _ => ?_))
   | exact ih0 _ _ _ _ _
   | exact LeO.none _
   | refine LeO.ite ?_ ?_
   | refine LeO.bind ?_ (fun _ => ?_)
theorem spec_l10Sum.mono : ∀ a0 a1 a2 k, LeO (spec_l10Sum.f k a0 a1 a2) (spec_l10Sum.f (k + 1) a0 a1 a2) := by
 intro a0 a1 a2 k
 have ih0 := spec_l10Sum.mono_l k
 unfold spec_l10Sum.f
 repeat' first
  | (with_reducible exact ih0 _ _ _ _ _)
  | (with_reducible exact LeO.refl _)
  | (with_reducible exact LeO.none _)
  | (with_reducible refine LeO.ite ?_ ?_)
  | (with_reducible refine LeO.bind ?_ (fun _ => ?_))
  | exact ih0 _ _ _ _ _
  | exact LeO.none _
  | refine LeO.ite ?_ ?_
  | refine LeO.bind ?_ (fun _ => ?_)
set_option maxHeartbeats 8000000 in
set_option maxRecDepth 100000 in
theorem spec_l10Sum.calls (k : Nat) (A0 : Option Addr) (l0 : List (S59)) (a1 : Int) (a2 : Int) (r : Int) (w : World) (hr0 : Kd.C k59 w A0 l0.length l0) (h : spec_l10Sum.f k l0 a1 a2 = some r) :
  Calls Try.prog 118 #[.pointer A0, .int .i64 a1, .int .i64 a2] w fun e w' => e = .returned (.int .i64 r) ∧ Drawn0 w w' := by
 have HR0 := Aside0.mk hr0
 clear hr0
 have H : (spec_l10Sum.l0 k l0 a1 a2 0 0) = some r := h
 clear h
 have H' := Aside0.mk H
 clear H
 go_enter Try.func118, Try.ntmps118
 go_wp2
 repeat (go_quiet (fail); try go_wp2)
 go_loopg [7, 8] k (fun kq v7 v8 w' => ∃ (x7_1 : Int) (x8_1 : Int), v7 = .int .i64 x7_1 ∧ v8 = .int .i64 x8_1 ∧ Aside0 (spec_l10Sum.l0 kq l0 a1 a2 x7_1 x8_1 = some r) ∧ Aside0 (kq ≤ k) ∧ Drawn0 w w')
 case atStart => exact ⟨(0), (0), rs, rs, H', ⟨Nat.le_refl _⟩, dr0⟩
 case round =>
  clear H'
  obtain ⟨x7_1, x8_1, rfl, rfl, HA, HK1, ⟨m1, rfl⟩⟩ := hrel
  cases gk with
  | zero => exact absurd HA.out (by simp [spec_l10Sum.l0])
  | succ k1 =>
   have H := HA.out
   clear HA
   simp only [spec_l10Sum.l0] at H
   by_cases c4 : 0 < (l0.length : Int)
   ·
    rw [if_pos c4] at H
    have c4b0 : decide (0 < (l0.length : Int)) = true := decide_eq_true c4
    have c4b1 : decide (0 < l0.length) = true := decide_eq_true (by omega)
    clear c4
    by_cases c5 : x8_1 < (((rd_T59 l0 0).f1).length : Int)
    ·
     rw [if_pos c5] at H
     have c5b0 : decide (x8_1 < (((rd_T59 l0 0).f1).length : Int)) = true := decide_eq_true c5
     clear c5
     by_cases c6 : 0 ≤ x8_1
     ·
      rw [if_pos c6] at H
      have c6b0 : decide (0 ≤ x8_1) = true := decide_eq_true c6
      clear c6
      replace H := Option.bind_eq_some_iff.mp H
      obtain ⟨t190, A70, H⟩ := H
      replace H : (spec_l10Sum.l0 k1 l0 a1 a2 (wrap64 (x7_1 + t190)) (wrap64 (x8_1 + 1))) = some r := H
      have A7 := Aside0.mk A70
      clear A70
      have H' := Aside0.mk H
      clear H
      have p185 : 0 ≤ (0 : Int) := (by omega)
      have q185 : 0 < (l0.length : Int) := od
      obtain ⟨ad185, A185_0, c185_0, A185_1, c185_1, e185, hx185_0, hx185_1, hl185_0, hi185_0, hl185_1, hi185_1⟩ := at_T59 HR0.out 0 p185 q185
      cases e185
      have qi185 : (0 < l0.length) = True := eq_true (by omega)
      (try rw [show ((0 : Int)).toNat = 0 from rfl] at hx185_0)
      (try rw [show 0 * 2 = 0 from rfl] at hx185_0)
      (try rw [Addr.add_zero'] at hx185_0)
      (try rw [show ((0 : Int)).toNat = 0 from rfl] at hx185_1)
      (try rw [show 0 * 2 = 0 from rfl] at hx185_1)
      (try rw [Addr.add_zero'] at hx185_1)
      have HR185_0 := Aside0.mk hi185_0
      have HC185_0 := Aside0.mk hl185_0
      clear hi185_0 hl185_0
      have HR185_1 := Aside0.mk hi185_1
      have HC185_1 := Aside0.mk hl185_1
      clear hi185_1 hl185_1
      replace p185 := eq_true p185
      replace q185 := eq_true q185
      have p186 : 0 ≤ (0 : Int) := (by omega)
      have q186 : 0 < (l0.length : Int) := od
      obtain ⟨ad186, A186_0, c186_0, A186_1, c186_1, e186, hx186_0, hx186_1, hl186_0, hi186_0, hl186_1, hi186_1⟩ := at_T59 HR0.out 0 p186 q186
      obtain rfl : ad185 = ad186 := (by injection e186)
      have qi186 : (0 < l0.length) = True := eq_true (by omega)
      (try rw [show ((0 : Int)).toNat = 0 from rfl] at hx186_0)
      (try rw [show 0 * 2 = 0 from rfl] at hx186_0)
      (try rw [Addr.add_zero'] at hx186_0)
      (try rw [show ((0 : Int)).toNat = 0 from rfl] at hx186_1)
      (try rw [show 0 * 2 = 0 from rfl] at hx186_1)
      (try rw [Addr.add_zero'] at hx186_1)
      have HR186_0 := Aside0.mk hi186_0
      have HC186_0 := Aside0.mk hl186_0
      clear hi186_0 hl186_0
      have HR186_1 := Aside0.mk hi186_1
      have HC186_1 := Aside0.mk hl186_1
      clear hi186_1 hl186_1
      replace p186 := eq_true p186
      replace q186 := eq_true q186
      have ea_ := Option.some.inj (hx185_0.symm.trans hx186_0)
      injection ea_ with ea_ en_ ec_
      subst ea_
      subst ec_
      clear en_
      have ea_ := Option.some.inj (hx185_1.symm.trans hx186_1)
      injection ea_ with ea_ en_ ec_
      subst ea_
      subst ec_
      clear en_
      have p187 : 0 ≤ (x8_1 : Int) := od
      have q187 : x8_1 < (((rd_T59 l0 0).f1).length : Int) := od
      obtain ⟨ad187, e187, hx187_0, hx187_1, hx187_2, hx187_3, hx187_4, hx187_5⟩ := at_T75 HR186_1.out x8_1 p187 q187
      cases e187
      replace p187 := eq_true p187
      replace q187 := eq_true q187
      have p188 : 0 ≤ (0 : Int) := (by omega)
      have q188 : 0 < (l0.length : Int) := od
      obtain ⟨ad188, A188_0, c188_0, A188_1, c188_1, e188, hx188_0, hx188_1, hl188_0, hi188_0, hl188_1, hi188_1⟩ := at_T59 HR0.out 0 p188 q188
      obtain rfl : ad185 = ad188 := (by injection e188)
      have qi188 : (0 < l0.length) = True := eq_true (by omega)
      (try rw [show ((0 : Int)).toNat = 0 from rfl] at hx188_0)
      (try rw [show 0 * 2 = 0 from rfl] at hx188_0)
      (try rw [Addr.add_zero'] at hx188_0)
      (try rw [show ((0 : Int)).toNat = 0 from rfl] at hx188_1)
      (try rw [show 0 * 2 = 0 from rfl] at hx188_1)
      (try rw [Addr.add_zero'] at hx188_1)
      have HR188_0 := Aside0.mk hi188_0
      have HC188_0 := Aside0.mk hl188_0
      clear hi188_0 hl188_0
      have HR188_1 := Aside0.mk hi188_1
      have HC188_1 := Aside0.mk hl188_1
      clear hi188_1 hl188_1
      replace p188 := eq_true p188
      replace q188 := eq_true q188
      have ea_ := Option.some.inj (hx185_0.symm.trans hx188_0)
      injection ea_ with ea_ en_ ec_
      subst ea_
      subst ec_
      clear en_
      have ea_ := Option.some.inj (hx185_1.symm.trans hx188_1)
      injection ea_ with ea_ en_ ec_
      subst ea_
      subst ec_
      clear en_
      have p189 : 0 ≤ (x8_1 : Int) := od
      have q189 : x8_1 < (((rd_T59 l0 0).f1).length : Int) := od
      obtain ⟨ad189, e189, hx189_0, hx189_1, hx189_2, hx189_3, hx189_4, hx189_5⟩ := at_T75 HR188_1.out x8_1 p189 q189
      cases e189
      replace p189 := eq_true p189
      replace q189 := eq_true q189
      go_wp2_with (first | (go_at_call 142; (with_reducible refine (spec_l10Loses.calls ((rd_T75 ((rd_T59 l0 0).f1) x8_1).f5) ((rd_T75 ((rd_T59 l0 0).f1) x8_1).f3) a1 a2 t190 _ A7.out).mono ?_); rintro e w' ⟨rfl, ⟨nd, rfl⟩⟩; (try first | exact ⟨rfl, _, World.drewN_drewN _ _ _⟩ | exact ⟨rfl, _, Eq.trans (World.drewN_drewN _ _ _) (congrArg (World.drewN _) (Nat.add_assoc _ _ _))⟩)))
      repeat (go_quiet (first | (go_at_call 142; (with_reducible refine (spec_l10Loses.calls ((rd_T75 ((rd_T59 l0 0).f1) x8_1).f5) ((rd_T75 ((rd_T59 l0 0).f1) x8_1).f3) a1 a2 t190 _ A7.out).mono ?_); rintro e w' ⟨rfl, ⟨nd, rfl⟩⟩; (try first | exact ⟨rfl, _, World.drewN_drewN _ _ _⟩ | exact ⟨rfl, _, Eq.trans (World.drewN_drewN _ _ _) (congrArg (World.drewN _) (Nat.add_assoc _ _ _))⟩))); try go_wp2_with (first | (go_at_call 142; (with_reducible refine (spec_l10Loses.calls ((rd_T75 ((rd_T59 l0 0).f1) x8_1).f5) ((rd_T75 ((rd_T59 l0 0).f1) x8_1).f3) a1 a2 t190 _ A7.out).mono ?_); rintro e w' ⟨rfl, ⟨nd, rfl⟩⟩; (try first | exact ⟨rfl, _, World.drewN_drewN _ _ _⟩ | exact ⟨rfl, _, Eq.trans (World.drewN_drewN _ _ _) (congrArg (World.drewN _) (Nat.add_assoc _ _ _))⟩))))
      go_roundg k1
      case measure => have := HK1.out; omega
      case rel => exact ⟨(wrap64 (x7_1 + t190)), (wrap64 (x8_1 + 1)), rs, rs, H', ⟨by have := HK1.out; omega⟩, dr0⟩
     ·
      rw [if_neg c6] at H
      exact absurd H (by simp)
    ·
     rw [if_neg c5] at H
     have c5b0 : decide (x8_1 < (((rd_T59 l0 0).f1).length : Int)) = false := decide_eq_false c5
     clear c5
     obtain rfl := Option.some.inj H
     have p185 : 0 ≤ (0 : Int) := (by omega)
     have q185 : 0 < (l0.length : Int) := od
     obtain ⟨ad185, A185_0, c185_0, A185_1, c185_1, e185, hx185_0, hx185_1, hl185_0, hi185_0, hl185_1, hi185_1⟩ := at_T59 HR0.out 0 p185 q185
     cases e185
     have qi185 : (0 < l0.length) = True := eq_true (by omega)
     (try rw [show ((0 : Int)).toNat = 0 from rfl] at hx185_0)
     (try rw [show 0 * 2 = 0 from rfl] at hx185_0)
     (try rw [Addr.add_zero'] at hx185_0)
     (try rw [show ((0 : Int)).toNat = 0 from rfl] at hx185_1)
     (try rw [show 0 * 2 = 0 from rfl] at hx185_1)
     (try rw [Addr.add_zero'] at hx185_1)
     have HR185_0 := Aside0.mk hi185_0
     have HC185_0 := Aside0.mk hl185_0
     clear hi185_0 hl185_0
     have HR185_1 := Aside0.mk hi185_1
     have HC185_1 := Aside0.mk hl185_1
     clear hi185_1 hl185_1
     replace p185 := eq_true p185
     replace q185 := eq_true q185
     go_wp2
     repeat (go_quiet (fail); try go_wp2)
     go_ret
     exact ⟨rs, dr0⟩
   ·
    rw [if_neg c4] at H
    exact absurd H (by simp)

-- NOT PRINTED: function 119 (spec_l10Search_node)

-- NOT PRINTED: function 78 (spec_l10Search_run)

end Go.Proofs.Ytndbgkcjccejdaa.PFnExactBestRenewal
