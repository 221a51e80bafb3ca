-- written by a program of this session (mkp.py) out of the translation; Lean checks it. -- squeezed
import Derived.Deep.RegionHeld3
import Derived.Test.YtmbiapefigcgnaaPFnStagesx0
import Derived.Test.YtmbiapefigcgnaaPFnStagesx1
import Derived.Test.YtmbiapefigcgnaaPFnStagesx3
import Derived.Test.YtmbiapefigcgnaaPFnStagesx4
namespace Go.Proofs.Ytmbiapefigcgnaa.PFnStages
open Go.RowKit Go.Proofs.YtmbiapefigcgnaaW.PrintWords Go.Proofs.YtmbiapefigcgnaaW.PrintLast Go.Proofs.YtmbiapefigcgnaaW.PrintMore
attribute [local go_sem] bin_leq bin_gtr bin_geq max2_int min2_int max_two min_two max_three min_three max_four min_four   -- for this text's walks alone
set_option linter.unusedVariables false
set_option linter.unusedSimpArgs false

/-! ### slices_Compare_int64_int64: function 117 -/
def slices_Compare_int64_int64.l0 : Nat → List Int → List Int → List Int → Int → Int → Option (Int)
 | 0, _, _, _, _, _ => none
 | k + 1, x0, x1, x9, x10, x11 => if x11 < x10 then (if 0 ≤ x11 then (if x11 < (x9.length : Int) then (if x11 ≥ (x1.length : Int) then (some 1) else (if x11 < (x1.length : Int) then ((cmp_Compare_int64.f (rd x9 x11) (rd x1 x11)).bind fun t150 => (if t150 = 0 then (slices_Compare_int64_int64.l0 k x0 x1 x9 x10 (wrap64 (x11 + 1))) else (some t150))) else (none))) else (none)) else (none)) else (if (x0.length : Int) < (x1.length : Int) then (some (-1)) else (some 0))
def slices_Compare_int64_int64.f (k : Nat) (l0 : List Int) (l1 : List Int) : Option (Int) := slices_Compare_int64_int64.l0 k l0 l1 l0 (l0.length : Int) 0
theorem slices_Compare_int64_int64.mono_l : ∀ k, (∀ y0 y1 y2 y3 y4, LeO (slices_Compare_int64_int64.l0 k y0 y1 y2 y3 y4) (slices_Compare_int64_int64.l0 (k + 1) y0 y1 y2 y3 y4))
 | 0 => fun _ _ _ _ _ r h => by simp [slices_Compare_int64_int64.l0] at h
 | k + 1 => by
  have ih0 := slices_Compare_int64_int64.mono_l k
  ·
   intro y0 y1 y2 y3 y4
   unfold slices_Compare_int64_int64.l0
   repeat' first
   | (with_reducible exact ih0 _ _ _ _ _)
   | (with_reducible exact LeO.refl _)
   | (with_reducible exact LeO.none _)
   | (with_reducible refine LeO.ite ?_ ?_)
   | (with_reducible refine LeO.bind ?_ (fun _ => ?_))
   | exact ih0 _ _ _ _ _
   | exact LeO.none _
   | refine LeO.ite ?_ ?_
   | refine LeO.bind ?_ (fun _ => ?_)
theorem slices_Compare_int64_int64.mono : ∀ a0 a1 k, LeO (slices_Compare_int64_int64.f k a0 a1) (slices_Compare_int64_int64.f (k + 1) a0 a1) := by
 intro a0 a1 k
 have ih0 := slices_Compare_int64_int64.mono_l k
 unfold slices_Compare_int64_int64.f
 repeat' first
  | (with_reducible exact ih0 _ _ _ _ _)
  | (with_reducible exact LeO.refl _)
  | (with_reducible exact LeO.none _)
  | (with_reducible refine LeO.ite ?_ ?_)
  | (with_reducible refine LeO.bind ?_ (fun _ => ?_))
  | exact ih0 _ _ _ _ _
  | exact LeO.none _
  | refine LeO.ite ?_ ?_
  | refine LeO.bind ?_ (fun _ => ?_)
set_option maxHeartbeats 8000000 in
set_option maxRecDepth 100000 in
theorem slices_Compare_int64_int64.calls (k : Nat) (A0 : Option Addr) (c0 : Nat) (l0 : List Int) (A1 : Option Addr) (c1 : Nat) (l1 : List Int) (r : Int) (w : World) (hr0 : Kd.C (Kd.int .i64) w A0 l0.length l0) (hc0 : l0.length ≤ c0) (hr1 : Kd.C (Kd.int .i64) w A1 l1.length l1) (hc1 : l1.length ≤ c1) (h : slices_Compare_int64_int64.f k l0 l1 = some r) :
  Calls Try.prog 117 #[.slice A0 l0.length c0, .slice A1 l1.length c1] w fun e w' => e = .returned (.int .i64 r) ∧ Drawn0 w w' := by
 have HR0 := Aside0.mk hr0
 have HC0 := Aside0.mk hc0
 clear hr0 hc0
 have HR1 := Aside0.mk hr1
 have HC1 := Aside0.mk hc1
 clear hr1 hc1
 have H : (slices_Compare_int64_int64.l0 k l0 l1 l0 (l0.length : Int) 0) = some r := h
 clear h
 have H' := Aside0.mk H
 clear H
 go_enter Try.func117, Try.ntmps117
 go_wp2
 go_loopg [11] k (fun kq v11 w' => ∃ (x11_1 : Int), v11 = .int .i64 x11_1 ∧ Aside0 (slices_Compare_int64_int64.l0 kq l0 l1 l0 (l0.length : Int) x11_1 = some r) ∧ Aside0 (kq ≤ k) ∧ Drawn0 w w')
 case atStart => exact ⟨(0), rs, H', ⟨Nat.le_refl _⟩, dr0⟩
 case round =>
  clear H'
  obtain ⟨x11_1, rfl, HA, HK1, ⟨m1, rfl⟩⟩ := hrel
  cases gk with
  | zero => exact absurd HA.out (by simp [slices_Compare_int64_int64.l0])
  | succ k1 =>
   have H := HA.out
   clear HA
   simp only [slices_Compare_int64_int64.l0] at H
   by_cases c3 : x11_1 < (l0.length : Int)
   ·
    rw [if_pos c3] at H
    have c3b0 : decide (x11_1 < (l0.length : Int)) = true := decide_eq_true c3
    clear c3
    by_cases c4 : 0 ≤ x11_1
    ·
     rw [if_pos c4] at H
     have c4b0 : decide (0 ≤ x11_1) = true := decide_eq_true c4
     clear c4
     by_cases c5 : x11_1 < (l0.length : Int)
     ·
      rw [if_pos c5] at H
      have c5b0 : decide (x11_1 < (l0.length : Int)) = true := decide_eq_true c5
      clear c5
      by_cases c6 : x11_1 ≥ (l1.length : Int)
      ·
       rw [if_pos c6] at H
       have c6b0 : decide ((l1.length : Int) ≤ x11_1) = true := decide_eq_true c6
       clear c6
       obtain rfl := Option.some.inj H
       have p148 : 0 ≤ (x11_1 : Int) := od
       have q148 : x11_1 < (l0.length : Int) := od
       obtain ⟨ad148, e148, hx148_0⟩ := Kd.at_int HR0.out x11_1 p148 q148
       cases e148
       replace p148 := eq_true p148
       replace q148 := eq_true q148
       go_wp2
       go_ret
       exact ⟨rs, dr0⟩
      ·
       rw [if_neg c6] at H
       have c6b0 : decide ((l1.length : Int) ≤ x11_1) = false := decide_eq_false c6
       clear c6
       by_cases c7 : x11_1 < (l1.length : Int)
       ·
        rw [if_pos c7] at H
        have c7b0 : decide (x11_1 < (l1.length : Int)) = true := decide_eq_true c7
        clear c7
        replace H := Option.bind_eq_some_iff.mp H
        obtain ⟨t150, A80, H⟩ := H
        replace H : (if t150 = 0 then (slices_Compare_int64_int64.l0 k1 l0 l1 l0 (l0.length : Int) (wrap64 (x11_1 + 1))) else (some t150)) = some r := H
        have A8 := Aside0.mk A80
        clear A80
        by_cases c9 : t150 = 0
        ·
         rw [if_pos c9] at H
         have c9b0 : (t150 == 0) = true := beq_iff_eq.mpr c9
         have c9b1 : (t150 != 0) = false := bne_eq_false_iff_eq.mpr c9
         clear c9
         have H' := Aside0.mk H
         clear H
         have p148 : 0 ≤ (x11_1 : Int) := od
         have q148 : x11_1 < (l0.length : Int) := od
         obtain ⟨ad148, e148, hx148_0⟩ := Kd.at_int HR0.out x11_1 p148 q148
         cases e148
         replace p148 := eq_true p148
         replace q148 := eq_true q148
         have p149 : 0 ≤ (x11_1 : Int) := od
         have q149 : x11_1 < (l1.length : Int) := od
         obtain ⟨ad149, e149, hx149_0⟩ := Kd.at_int HR1.out x11_1 p149 q149
         cases e149
         replace p149 := eq_true p149
         replace q149 := eq_true q149
         go_wp2_with (first | ((with_reducible refine gate_callee (f := 122) rfl ?_); refine goesA_ (some 26) Try.func122 #[.int .i64 (rd l0 x11_1), .int .i64 (rd l1 x11_1)] ?_; (with_reducible refine (cmp_Compare_int64.calls (rd l0 x11_1) (rd l1 x11_1) t150 _ A8.out).mono ?_); rintro e w' ⟨rfl, ⟨nd, rfl⟩⟩; refine ⟨_, rfl, ?_⟩))
         go_roundg k1
         case measure => have := HK1.out; omega
         case rel => exact ⟨(wrap64 (x11_1 + 1)), rs, H', ⟨by have := HK1.out; omega⟩, dr0⟩
        ·
         rw [if_neg c9] at H
         have c9b0 : (t150 == 0) = false := beq_eq_false_iff_ne.mpr c9
         have c9b1 : (t150 != 0) = true := bne_iff_ne.mpr c9
         obtain rfl := Option.some.inj H
         have p148 : 0 ≤ (x11_1 : Int) := od
         have q148 : x11_1 < (l0.length : Int) := od
         obtain ⟨ad148, e148, hx148_0⟩ := Kd.at_int HR0.out x11_1 p148 q148
         cases e148
         replace p148 := eq_true p148
         replace q148 := eq_true q148
         have p149 : 0 ≤ (x11_1 : Int) := od
         have q149 : x11_1 < (l1.length : Int) := od
         obtain ⟨ad149, e149, hx149_0⟩ := Kd.at_int HR1.out x11_1 p149 q149
         cases e149
         replace p149 := eq_true p149
         replace q149 := eq_true q149
         go_wp2_with (first | ((with_reducible refine gate_callee (f := 122) rfl ?_); refine goesA_ (some 26) Try.func122 #[.int .i64 (rd l0 x11_1), .int .i64 (rd l1 x11_1)] ?_; (with_reducible refine (cmp_Compare_int64.calls (rd l0 x11_1) (rd l1 x11_1) t150 _ A8.out).mono ?_); rintro e w' ⟨rfl, ⟨nd, rfl⟩⟩; refine ⟨_, rfl, ?_⟩))
         go_ret
         exact ⟨rs, dr0⟩
       ·
        rw [if_neg c7] at H
        exact absurd H (by simp)
     ·
      rw [if_neg c5] at H
      exact absurd H (by simp)
    ·
     rw [if_neg c4] at H
     exact absurd H (by simp)
   ·
    rw [if_neg c3] at H
    have c3b0 : decide (x11_1 < (l0.length : Int)) = false := decide_eq_false c3
    clear c3
    by_cases c10 : (l0.length : Int) < (l1.length : Int)
    ·
     rw [if_pos c10] at H
     have c10b0 : decide ((l0.length : Int) < (l1.length : Int)) = true := decide_eq_true c10
     have c10b1 : decide (l0.length < l1.length) = true := decide_eq_true (Int.ofNat_lt.mp c10)
     clear c10
     obtain rfl := Option.some.inj H
     go_wp2
     go_ret
     exact ⟨rs, dr0⟩
    ·
     rw [if_neg c10] at H
     have c10b0 : decide ((l0.length : Int) < (l1.length : Int)) = false := decide_eq_false c10
     have c10b1 : decide (l0.length < l1.length) = false := decide_eq_false (fun h => c10 (Int.ofNat_lt.mpr h))
     clear c10
     obtain rfl := Option.some.inj H
     go_wp2
     go_ret
     exact ⟨rs, dr0⟩

-- NOT PRINTED: function 96 (impl_stageSearch_visit)

-- NOT PRINTED: function 60 (impl_stagesOf)

/-! ### impl_CountBuildable: function 23 -/
theorem sput {b : Nat} {w W : World} (h : Below b w W) {g : Nat} (hg : b ≤ g) (i : Nat) (u : Value) : Below b w (W.setCell ⟨g, i, none⟩ u) := h.setCell (p := ⟨g, i, none⟩) hg u
/-- Two rows of whole numbers of one's own, apart from each other. -/
def Rows2 (w : World) (base : Nat) (v2 v3 : Value) (bu be : List Int) : Prop :=
 Kd.R (Kd.int .i64) 2 w base (fun k => some k ≠ v3.ownBlock) v2 bu ∧ Kd.R (Kd.int .i64) 2 w base (fun k => some k ≠ v2.ownBlock) v3 be
theorem Rows2.below {w w' : World} {base : Nat} {v2 v3 : Value} {bu be : List Int} (h : Rows2 w base v2 v3 bu be) (hb : Below w.heap.size w w') : Rows2 w' base v2 v3 bu be := ⟨Kd.R_below h.1 hb, Kd.R_below h.2 hb⟩
theorem ne_int {t : Nat} (h : t ≠ 2) : ∀ q, q ∈ 2 :: (Kd.int .i64).E → q ≠ t := fun q hq => by
 rcases List.mem_cons.1 hq with h1 | h1
 ·
  subst h1; exact fun e => h e.symm
 ·
  cases h1
theorem Rows2.set {w : World} {base g t : Nat} {cells : Array Value} {v2 v3 : Value} {bu be : List Int} (h : Rows2 w base v2 v3 bu be) (hb : w.heap[g]? = some (.cells cells t (0, 0))) (ht : t ≠ 2) (j : Nat) (u : Value) : Rows2 (w.setCell ⟨g, j, none⟩ u) base v2 v3 bu be := ⟨Kd.R_set h.1 hb (ne_int ht) j u, Kd.R_set h.2 hb (ne_int ht) j u⟩
theorem Rows2.clone {W w2 : World} {base : Nat} {v2 v3 v : Value} {bu be xs : List Int} (h : Rows2 W base v2 v3 bu be) (hR : Kd.R (Kd.int .i64) 2 w2 W.heap.size (fun _ => True) v xs) (hb : Below W.heap.size W w2) (hs : base ≤ W.heap.size) : Rows2 w2 base v2 v bu xs :=
 ⟨Kd.R_mono (Kd.R_elder' h.1 (fun k hk => Kd.R_base hR k hk) hb) (fun _ hk => hk.2), Kd.R_mono (Kd.R_lower (Kd.R_new' hR (fun k hk => Kd.R_lt h.1 k hk)) hs) (fun _ hk => hk.2)⟩
theorem Rows2.append {W w1 : World} {base : Nat} {v2 v3 v1 : Value} {bu be xs : List Int} (h : Rows2 W base v2 v3 bu be) (hR : Kd.R (Kd.int .i64) 2 w1 base (fun k => some k ≠ v3.ownBlock) v1 xs) (hg : W.grownBy w1 v2.ownBlock) (hat : v1.ownBlock = v2.ownBlock ∨ ∃ b, v1.ownBlock = some b ∧ W.heap.size ≤ b) : Rows2 w1 base v1 v3 xs be :=
 ⟨hR, Kd.R_mono (Kd.R_grown (Kd.R_bound h.2) hg (fun k hk => hk.1)) (fun k hk => by
  rcases hat with e | ⟨b, e, hb⟩
  ·
   rw [e]; exact hk.1
  ·
   rw [e]
   intro e2
   injection e2 with e2
   have := hk.2.2.1
   omega)⟩
theorem Rows2.cut {w : World} {base n c : Nat} {A : Option Addr} {v3 : Value} {bu be : List Int} (h : Rows2 w base (.slice A n c) v3 bu be) {m : Nat} (hm : m ≤ bu.length) : Rows2 w base (.slice A m c) v3 (bu.take m) be := by
 have e : (Value.slice A m c).ownBlock = (Value.slice A n c).ownBlock := by cases A <;> rfl
 refine ⟨Kd.R_take h.1 hm, ?_⟩
 rw [e]
 exact h.2
theorem Rows2.drewN {w : World} {base : Nat} {v2 v3 : Value} {bu be : List Int} (h : Rows2 w base v2 v3 bu be) (n : Nat) : Rows2 (w.drewN n) base v2 v3 bu be := h.below (pw_below_drewN (Below.refl _ _) n)
/-- The search leaves the list as it was. -/
theorem cell_al {W : World} {a : Addr} {v : Value} (h : W.cell? a = some v) (o : Obj) : (W.alloc o).cell? a = some v := pw_cell_below (below_alloc (Below.refl _ _) o) h
theorem Rows2.some {w : World} {base n c : Nat} {A : Option Addr} {v3 : Value} {bu be : List Int} (h : Rows2 w base (.slice A n c) v3 bu be) (hn : 0 < n) : ∃ g, A = Option.some ⟨g, 0, none⟩ := by
 have ho := Kd.own_of_R (enc := Value.int .i64) (h1 := fun _ => rfl) h.1
 rcases ho.2 with ⟨hv, h0⟩ | ⟨g, cap, cur, hv, _⟩
 ·
  injection hv with h1 h2 _; omega
 ·
  injection hv with h1 _ _; exact ⟨g, h1⟩
theorem Rows2.lower {w : World} {base b2 : Nat} {v2 v3 : Value} {bu be : List Int} (h : Rows2 w base v2 v3 bu be) (hb : b2 ≤ base) : Rows2 w b2 v2 v3 bu be := ⟨Kd.R_lower h.1 hb, Kd.R_lower h.2 hb⟩
theorem cells6 {w : World} {p t : Nat} {x0 x1 x2 x3 x4 x5 : Value} (h : w.heap[p]? = some (.cells #[x0, x1, x2, x3, x4, x5] t (0, 0))) :
  w.cell? ⟨p, 0, none⟩ = some x0 ∧ w.cell? ⟨p, 1, none⟩ = some x1 ∧ w.cell? ⟨p, 2, none⟩ = some x2 ∧ w.cell? ⟨p, 3, none⟩ = some x3 ∧ w.cell? ⟨p, 4, none⟩ = some x4 ∧ w.cell? ⟨p, 5, none⟩ = some x5 ∧ ∀ i, w.frozen? ⟨p, i, none⟩ = false :=
 ⟨(blk_cell h 0).trans rfl, (blk_cell h 1).trans rfl, (blk_cell h 2).trans rfl, (blk_cell h 3).trans rfl, (blk_cell h 4).trans rfl, (blk_cell h 5).trans rfl, fun i => blk_frozen h i⟩
def sets6 (w : World) (g : Nat) (y0 y1 y2 y3 y4 y5 : Value) : World := ((((((w.setCell ⟨g, 0, none⟩ y0).setCell ⟨g, 1, none⟩ y1).setCell ⟨g, 2, none⟩ y2).setCell ⟨g, 3, none⟩ y3).setCell ⟨g, 4, none⟩ y4).setCell ⟨g, 5, none⟩ y5)
theorem sets6_blk {w : World} {g t : Nat} {x0 x1 x2 x3 x4 x5 : Value} (hb : w.heap[g]? = some (.cells #[x0, x1, x2, x3, x4, x5] t (0, 0))) (y0 y1 y2 y3 y4 y5 : Value) : (sets6 w g y0 y1 y2 y3 y4 y5).heap[g]? = some (.cells #[y0, y1, y2, y3, y4, y5] t (0, 0)) := by
 have h1 : (w.setCell ⟨g, 0, none⟩ y0).heap[g]? = some (.cells #[y0, x1, x2, x3, x4, x5] t (0, 0)) := blk_set hb 0 y0
 have h2 : ((w.setCell ⟨g, 0, none⟩ y0).setCell ⟨g, 1, none⟩ y1).heap[g]? = some (.cells #[y0, y1, x2, x3, x4, x5] t (0, 0)) := blk_set h1 1 y1
 have h3 : (((w.setCell ⟨g, 0, none⟩ y0).setCell ⟨g, 1, none⟩ y1).setCell ⟨g, 2, none⟩ y2).heap[g]? = some (.cells #[y0, y1, y2, x3, x4, x5] t (0, 0)) := blk_set h2 2 y2
 have h4 : ((((w.setCell ⟨g, 0, none⟩ y0).setCell ⟨g, 1, none⟩ y1).setCell ⟨g, 2, none⟩ y2).setCell ⟨g, 3, none⟩ y3).heap[g]? = some (.cells #[y0, y1, y2, y3, x4, x5] t (0, 0)) := blk_set h3 3 y3
 have h5 : (((((w.setCell ⟨g, 0, none⟩ y0).setCell ⟨g, 1, none⟩ y1).setCell ⟨g, 2, none⟩ y2).setCell ⟨g, 3, none⟩ y3).setCell ⟨g, 4, none⟩ y4).heap[g]? = some (.cells #[y0, y1, y2, y3, y4, x5] t (0, 0)) := blk_set h4 4 y4
 have h6 : ((((((w.setCell ⟨g, 0, none⟩ y0).setCell ⟨g, 1, none⟩ y1).setCell ⟨g, 2, none⟩ y2).setCell ⟨g, 3, none⟩ y3).setCell ⟨g, 4, none⟩ y4).setCell ⟨g, 5, none⟩ y5).heap[g]? = some (.cells #[y0, y1, y2, y3, y4, y5] t (0, 0)) := blk_set h5 5 y5
 exact h6
theorem sets6_below {b : Nat} {w W : World} (h : Below b w W) {g : Nat} (hg : b ≤ g) (y0 y1 y2 y3 y4 y5 : Value) : Below b w (sets6 W g y0 y1 y2 y3 y4 y5) := (sput (sput (sput (sput (sput (sput h hg 0 y0) hg 1 y1) hg 2 y2) hg 3 y3) hg 4 y4) hg 5 y5)
theorem rows2_sets6 {w : World} {base g t : Nat} {x0 x1 x2 x3 x4 x5 v2 v3 : Value} {bu be : List Int} (h : Rows2 w base v2 v3 bu be) (hb : w.heap[g]? = some (.cells #[x0, x1, x2, x3, x4, x5] t (0, 0))) (ht : t ≠ 2) (y0 y1 y2 y3 y4 y5 : Value) : Rows2 (sets6 w g y0 y1 y2 y3 y4 y5) base v2 v3 bu be := by
 have h1 : (w.setCell ⟨g, 0, none⟩ y0).heap[g]? = some (.cells #[y0, x1, x2, x3, x4, x5] t (0, 0)) := blk_set hb 0 y0
 have h2 : ((w.setCell ⟨g, 0, none⟩ y0).setCell ⟨g, 1, none⟩ y1).heap[g]? = some (.cells #[y0, y1, x2, x3, x4, x5] t (0, 0)) := blk_set h1 1 y1
 have h3 : (((w.setCell ⟨g, 0, none⟩ y0).setCell ⟨g, 1, none⟩ y1).setCell ⟨g, 2, none⟩ y2).heap[g]? = some (.cells #[y0, y1, y2, x3, x4, x5] t (0, 0)) := blk_set h2 2 y2
 have h4 : ((((w.setCell ⟨g, 0, none⟩ y0).setCell ⟨g, 1, none⟩ y1).setCell ⟨g, 2, none⟩ y2).setCell ⟨g, 3, none⟩ y3).heap[g]? = some (.cells #[y0, y1, y2, y3, x4, x5] t (0, 0)) := blk_set h3 3 y3
 have h5 : (((((w.setCell ⟨g, 0, none⟩ y0).setCell ⟨g, 1, none⟩ y1).setCell ⟨g, 2, none⟩ y2).setCell ⟨g, 3, none⟩ y3).setCell ⟨g, 4, none⟩ y4).heap[g]? = some (.cells #[y0, y1, y2, y3, y4, x5] t (0, 0)) := blk_set h4 4 y4
 have h6 : ((((((w.setCell ⟨g, 0, none⟩ y0).setCell ⟨g, 1, none⟩ y1).setCell ⟨g, 2, none⟩ y2).setCell ⟨g, 3, none⟩ y3).setCell ⟨g, 4, none⟩ y4).setCell ⟨g, 5, none⟩ y5).heap[g]? = some (.cells #[y0, y1, y2, y3, y4, y5] t (0, 0)) := blk_set h5 5 y5
 exact (Rows2.set (Rows2.set (Rows2.set (Rows2.set (Rows2.set (Rows2.set h hb ht 0 y0) h1 ht 1 y1) h2 ht 2 y2) h3 ht 3 y3) h4 ht 4 y4) h5 ht 5 y5)
/-- What a search for stages holds. -/
structure SV where
 b : Int
 bu : List Int
 be : List Int
 mo : Int
 fo : Int
/-- The search, from a place on. -/
def visitF (k : Nat) (l0 : List S34) : Nat → Int → Int → SV → Option SV
  | 0, _, g, s => if inB0 l0 s.bu = true then (if s.bu.all (needsB l0 s.bu) = true then
      (if wrap64 (s.fo + 1) = 1 ∨ g > s.mo then some ⟨s.b, s.bu, s.bu, g, wrap64 (s.fo + 1)⟩
       else if g = s.mo then (slices_Compare_int64_int64.f k s.bu s.be).bind fun c => if c < 0 then some ⟨s.b, s.bu, s.bu, g, wrap64 (s.fo + 1)⟩ else some ⟨s.b, s.bu, s.be, s.mo, wrap64 (s.fo + 1)⟩
       else some ⟨s.b, s.bu, s.be, s.mo, wrap64 (s.fo + 1)⟩)
      else some s) else none
  | d + 1, m, g, s =>
    let x := rd_T34 l0 ((l0.length - (d + 1) : Nat) : Int)
    (if x.f1 ≤ m then
      (if wrap64 (s.b - 1) < 0 then some (⟨wrap64 (s.b - 1), s.bu, s.be, s.mo, s.fo⟩, true)
       else (visitF k l0 d (wrap64 (m - x.f1)) (wrap64 (g + x.f2)) ⟨wrap64 (s.b - 1), s.bu ++ [((l0.length - (d + 1) : Nat) : Int)], s.be, s.mo, s.fo⟩).bind fun s2 => some (⟨s2.b, s2.bu.take (s2.bu.length - 1), s2.be, s2.mo, s2.fo⟩, false))
     else some (s, false)).bind fun q =>
    if q.2 = true then some q.1 else
    if wrap64 (q.1.b - 1) < 0 then some ⟨wrap64 (q.1.b - 1), q.1.bu, q.1.be, q.1.mo, q.1.fo⟩ else
    visitF k l0 d m g ⟨wrap64 (q.1.b - 1), q.1.bu, q.1.be, q.1.mo, q.1.fo⟩
theorem visitF_mono (k : Nat) (l0 : List S34) : ∀ d m g s, LeO (visitF k l0 d m g s) (visitF (k + 1) l0 d m g s)
 | 0, m, g, s => by
  unfold visitF
  refine LeO.ite (LeO.ite (LeO.ite (LeO.refl _) (LeO.ite (LeO.bind (slices_Compare_int64_int64.mono _ _ k) (fun _ => LeO.refl _)) (LeO.refl _))) (LeO.refl _)) (LeO.refl _)
 | d + 1, m, g, s => by
  unfold visitF
  refine LeO.bind (LeO.ite (LeO.ite (LeO.refl _) (LeO.bind (visitF_mono k l0 d _ _ _) (fun _ => LeO.refl _))) (LeO.refl _)) (fun q => LeO.ite (LeO.refl _) (LeO.ite (LeO.refl _) (visitF_mono k l0 d _ _ _)))
/-- What a search holds lies in one block, and its two rows are its own. -/
def StV (w : World) (base p : Nat) (A0 : Option Addr) (n0 c0 : Nat) (s : SV) : Prop := ∃ A2 c2 A3 c3,
 w.heap[p]? = some (.cells #[.slice A0 n0 c0, .int .i64 s.b, .slice A2 s.bu.length c2, .slice A3 s.be.length c3, .int .i64 s.mo, .int .i64 s.fo] 90 (0, 0)) ∧
 Rows2 w base (.slice A2 s.bu.length c2) (.slice A3 s.be.length c3) s.bu s.be
theorem StV.below {w w' : World} {base p n0 c0 : Nat} {A0 : Option Addr} {s : SV} (h : StV w base p A0 n0 c0 s) (hb : Below w.heap.size w w') : StV w' base p A0 n0 c0 s := by
 obtain ⟨A2, c2, A3, c3, hP, hR⟩ := h
 exact ⟨A2, c2, A3, c3, blk_below hP hb, hR.below hb⟩
theorem StV.b {w : World} {base p n0 c0 : Nat} {A0 : Option Addr} {s : SV} (h : StV w base p A0 n0 c0 s) (x : Int) : StV (w.setCell ⟨p, 1, none⟩ (.int .i64 x)) base p A0 n0 c0 ⟨x, s.bu, s.be, s.mo, s.fo⟩ := by
 obtain ⟨A2, c2, A3, c3, hP, hR⟩ := h
 exact ⟨A2, c2, A3, c3, blk_set hP 1 _, hR.set hP (by decide) 1 _⟩
theorem StV.mo {w : World} {base p n0 c0 : Nat} {A0 : Option Addr} {s : SV} (h : StV w base p A0 n0 c0 s) (x : Int) : StV (w.setCell ⟨p, 4, none⟩ (.int .i64 x)) base p A0 n0 c0 ⟨s.b, s.bu, s.be, x, s.fo⟩ := by
 obtain ⟨A2, c2, A3, c3, hP, hR⟩ := h
 exact ⟨A2, c2, A3, c3, blk_set hP 4 _, hR.set hP (by decide) 4 _⟩
theorem StV.fo {w : World} {base p n0 c0 : Nat} {A0 : Option Addr} {s : SV} (h : StV w base p A0 n0 c0 s) (x : Int) : StV (w.setCell ⟨p, 5, none⟩ (.int .i64 x)) base p A0 n0 c0 ⟨s.b, s.bu, s.be, s.mo, x⟩ := by
 obtain ⟨A2, c2, A3, c3, hP, hR⟩ := h
 exact ⟨A2, c2, A3, c3, blk_set hP 5 _, hR.set hP (by decide) 5 _⟩
theorem StV.best {W w2 : World} {base p n0 c0 : Nat} {A0 A9 : Option Addr} {c9 : Nat} {s : SV} {xs : List Int} (h : StV W base p A0 n0 c0 s) (hR : Kd.R (Kd.int .i64) 2 w2 W.heap.size (fun _ => True) (.slice A9 xs.length c9) xs) (hb : Below W.heap.size W w2) (hs : base ≤ W.heap.size) : StV (w2.setCell ⟨p, 3, none⟩ (.slice A9 xs.length c9)) base p A0 n0 c0 ⟨s.b, s.bu, xs, s.mo, s.fo⟩ := by
 obtain ⟨A2, c2, A3, c3, hP, hR2⟩ := h
 exact ⟨A2, c2, A9, c9, blk_set (blk_below hP hb) 3 _, (hR2.clone hR hb hs).set (blk_below hP hb) (by decide) 3 _⟩
theorem StV.size {w : World} {base p n0 c0 : Nat} {A0 : Option Addr} {s : SV} (h : StV w base p A0 n0 c0 s) : p < w.heap.size := by
 obtain ⟨A2, c2, A3, c3, hP, hR⟩ := h
 exact blk_lt hP
/-- The cells, and what can be read. -/
theorem StV.open {w : World} {base p n0 c0 : Nat} {A0 : Option Addr} {s : SV} (h : StV w base p A0 n0 c0 s) : ∃ A2 c2 A3 c3,
  (w.cell? ⟨p, 0, none⟩ = some (.slice A0 n0 c0) ∧ w.cell? ⟨p, 1, none⟩ = some (.int .i64 s.b) ∧ w.cell? ⟨p, 2, none⟩ = some (.slice A2 s.bu.length c2) ∧ w.cell? ⟨p, 3, none⟩ = some (.slice A3 s.be.length c3) ∧ w.cell? ⟨p, 4, none⟩ = some (.int .i64 s.mo) ∧ w.cell? ⟨p, 5, none⟩ = some (.int .i64 s.fo) ∧ ∀ i, w.frozen? ⟨p, i, none⟩ = false) ∧
  (s.bu.length ≤ c2 ∧ Kd.C (Kd.int .i64) w A2 s.bu.length s.bu) ∧ (s.be.length ≤ c3 ∧ Kd.C (Kd.int .i64) w A3 s.be.length s.be) ∧
  w.heap[p]? = some (.cells #[.slice A0 n0 c0, .int .i64 s.b, .slice A2 s.bu.length c2, .slice A3 s.be.length c3, .int .i64 s.mo, .int .i64 s.fo] 90 (0, 0)) ∧
  Rows2 w base (.slice A2 s.bu.length c2) (.slice A3 s.be.length c3) s.bu s.be := by
 obtain ⟨A2, c2, A3, c3, hP, hR⟩ := h
 exact ⟨A2, c2, A3, c3, cells6 hP, (Kd.R_reads' hR.1).2, (Kd.R_reads' hR.2).2, hP, hR⟩
set_option maxHeartbeats 4000000 in
set_option maxRecDepth 100000 in
/-- The search at its end, no stages being left. -/
theorem visit_0.calls (k : Nat) (A0 : Option Addr) (c0 : Nat) (l0 : List S34) (w0 : World) (hr0 : Kd.C k34 w0 A0 l0.length l0) (hc0 : l0.length ≤ c0) (m g : Int) (s s' : SV) (w : World) (p : Nat) (h : visitF k l0 0 m g s = some s') (hb : Below w0.heap.size w0 w) (hp : w0.heap.size ≤ p) (hs : StV w w0.heap.size p A0 l0.length c0 s) (hl : s.bu.length ≤ 8) :
  Calls Try.prog 96 #[.pointer (some ⟨p, 0, none⟩), .int .i64 (l0.length : Int), .int .i64 m, .int .i64 g] w fun e w' => e = .returned (.tuple #[]) ∧ Below w0.heap.size w0 w' ∧ StV w' w0.heap.size p A0 l0.length c0 s' := by
 unfold visitF at h
 obtain ⟨A2, c2, A3, c3, ⟨x0, x1, x2, x3, x4, x5, xf⟩, ⟨hc2, hC2⟩, ⟨hc3, hC3⟩, hP, hR⟩ := hs.open
 by_cases hin : inB0 l0 s.bu = true
 ·
  rw [if_pos hin] at h
  obtain ⟨B, hB⟩ : ∃ B, s.bu.all (needsB l0 s.bu) = B := ⟨_, rfl⟩
  rw [hB] at h
  have HBU := Aside0.mk (fun W (hW : Below w.heap.size w W ∧ W.cell? ⟨p, 0, none⟩ = some (.slice A0 l0.length c0) ∧ W.cell? ⟨p, 2, none⟩ = some (.slice A2 s.bu.length c2)) =>
   (impl_buildable.calls A0 c0 l0 A2 c2 s.bu B W (Kd.C_below hr0 (below_then hb hb.size hW.1)) hc0 (Kd.C_below hC2 hW.1) hc2 (by unfold impl_buildable.f; rw [if_pos hin, hB])).mono fun e w' he => (⟨he.1, below_then hW.1 hW.1.size he.2, pw_cell_below he.2 hW.2.1, pw_cell_below he.2 hW.2.2⟩ : e = .returned (.bool B) ∧ Below w.heap.size w w' ∧ w'.cell? ⟨p, 0, none⟩ = some (.slice A0 l0.length c0) ∧ w'.cell? ⟨p, 2, none⟩ = some (.slice A2 s.bu.length c2)))
  have HB := Aside0.mk hb
  have HS := Aside0.mk hs
  have HP := Aside0.mk hP
  have HR := Aside0.mk hR
  have HC2 := Aside0.mk hc2
  have HC3 := Aside0.mk hc3
  have HPP := Aside0.mk hp
  have HCL := Aside0.mk (show slices_Clone_int64_int64.f s.bu = some s.bu by unfold slices_Clone_int64_int64.f; rw [if_pos (by omega)])
  clear hr0 hc0 hin hB hb hs hP hR hc2 hC2 hc3 hC3 hl hp
  cases B with
  | false =>
   rw [if_neg (by decide)] at h
   obtain rfl := Option.some.inj h
   go_enter Try.func96, Try.ntmps96
   go_wp2
   go_region_held3 (fun W => Below w.heap.size w W ∧ W.cell? ⟨p, 0, none⟩ = some (.slice A0 l0.length c0) ∧ W.cell? ⟨p, 2, none⟩ = some (.slice A2 s.bu.length c2)) (first | assumption | exact ⟨below_drew (Below.refl _ _), x0, x2⟩) (first | (go_at_call 69; refine (HBU.out _ (by assumption)).mono ?_; rintro e w1 ⟨rfl, hS_⟩))
   go_wp2
   refine bodyPost_ret (results_none rfl _ _ _) rfl ?_
   exact ⟨rfl, below_then HB.out HB.out.size hS_.1, HS.out.below hS_.1⟩
  | true =>
   rw [if_pos rfl] at h
   by_cases q2 : wrap64 (s.fo + 1) = 1
   ·
    rw [if_pos (.inl q2)] at h
    have z2 : (wrap64 (s.fo + 1) == 1) = true := by simpa using q2
    clear q2
    obtain rfl := Option.some.inj h
    go_enter Try.func96, Try.ntmps96
    go_wp2
    go_region_held3 (fun W => Below w.heap.size w W ∧ W.cell? ⟨p, 0, none⟩ = some (.slice A0 l0.length c0) ∧ W.cell? ⟨p, 2, none⟩ = some (.slice A2 s.bu.length c2)) (first | assumption | exact ⟨below_drew (Below.refl _ _), x0, x2⟩) (first | (go_at_call 69; refine (HBU.out _ (by assumption)).mono ?_; rintro e w1 ⟨rfl, hS_⟩))
    have hP1 := blk_below HP.out hS_.1
    obtain ⟨y0, y1, y2, y3, y4, y5, yf⟩ := cells6 hP1
    have HS1 := Aside0.mk (HS.out.below hS_.1)
    have HB1 := Aside0.mk (below_then HB.out HB.out.size hS_.1)
    have HR5 := Aside0.mk ((HR.out.below hS_.1).set hP1 (by decide) 5 (.int .i64 (wrap64 (s.fo + 1))))
    clear hP1 hS_ x0 x1 x2 x3 x4 x5 xf
    go_wp2
    go_quiet (fail)
    go_wp2_with (go_at_call 83; refine (slices_Clone_int64_int64.calls A2 c2 s.bu s.bu _ (Kd.R_reads' (HR5.out.drewN _).1).2.2 HC2.out HCL.out).mono ?_; rintro e w2 ⟨v, rfl, hRn, hb2⟩; obtain ⟨A9, c9, e9⟩ := Kd.R_slice hRn; subst e9; obtain ⟨_, _, _, _, ⟨t0, t1, t2, t3, t4, t5, tf⟩, _⟩ := (StV.below (StV.below (HS1.out.fo (wrap64 (s.fo + 1))) (pw_below_drewN (Below.refl _ _) _)) hb2).open; have HRn := Aside0.mk hRn; have Hb2 := Aside0.mk hb2; clear hRn hb2)
    refine bodyPost_ret (results_none rfl _ _ _) rfl ?_
    have hW := pw_below_drewN (sput HB1.out HPP.out 5 (.int .i64 (wrap64 (s.fo + 1)))) nq
    exact ⟨rfl, sput (sput (below_then hW hW.size Hb2.out) HPP.out _ _) HPP.out _ _, StV.mo (StV.best (StV.below (HS1.out.fo (wrap64 (s.fo + 1))) (pw_below_drewN (Below.refl _ _) _)) HRn.out Hb2.out hW.size) g⟩
   ·
    have z2 : (wrap64 (s.fo + 1) == 1) = false := by simpa using q2
    by_cases q3 : g > s.mo
    ·
     rw [if_pos (.inr q3)] at h
     have z3 : decide (s.mo < g) = true := decide_eq_true q3
     clear q2 q3
     obtain rfl := Option.some.inj h
     go_enter Try.func96, Try.ntmps96
     go_wp2
     go_region_held3 (fun W => Below w.heap.size w W ∧ W.cell? ⟨p, 0, none⟩ = some (.slice A0 l0.length c0) ∧ W.cell? ⟨p, 2, none⟩ = some (.slice A2 s.bu.length c2)) (first | assumption | exact ⟨below_drew (Below.refl _ _), x0, x2⟩) (first | (go_at_call 69; refine (HBU.out _ (by assumption)).mono ?_; rintro e w1 ⟨rfl, hS_⟩))
     have hP1 := blk_below HP.out hS_.1
     obtain ⟨y0, y1, y2, y3, y4, y5, yf⟩ := cells6 hP1
     have HS1 := Aside0.mk (HS.out.below hS_.1)
     have HB1 := Aside0.mk (below_then HB.out HB.out.size hS_.1)
     have HR5 := Aside0.mk ((HR.out.below hS_.1).set hP1 (by decide) 5 (.int .i64 (wrap64 (s.fo + 1))))
     clear hP1 hS_ x0 x1 x2 x3 x4 x5 xf
     go_wp2
     go_quiet (fail)
     go_wp2_with (go_at_call 83; refine (slices_Clone_int64_int64.calls A2 c2 s.bu s.bu _ (Kd.R_reads' (HR5.out.drewN _).1).2.2 HC2.out HCL.out).mono ?_; rintro e w2 ⟨v, rfl, hRn, hb2⟩; obtain ⟨A9, c9, e9⟩ := Kd.R_slice hRn; subst e9; obtain ⟨_, _, _, _, ⟨t0, t1, t2, t3, t4, t5, tf⟩, _⟩ := (StV.below (StV.below (HS1.out.fo (wrap64 (s.fo + 1))) (pw_below_drewN (Below.refl _ _) _)) hb2).open; have HRn := Aside0.mk hRn; have Hb2 := Aside0.mk hb2; clear hRn hb2)
     refine bodyPost_ret (results_none rfl _ _ _) rfl ?_
     have hW := pw_below_drewN (sput HB1.out HPP.out 5 (.int .i64 (wrap64 (s.fo + 1)))) nq
     exact ⟨rfl, sput (sput (below_then hW hW.size Hb2.out) HPP.out _ _) HPP.out _ _, StV.mo (StV.best (StV.below (HS1.out.fo (wrap64 (s.fo + 1))) (pw_below_drewN (Below.refl _ _) _)) HRn.out Hb2.out hW.size) g⟩
    ·
     rw [if_neg (by rintro (e | e); exact q2 e; exact q3 e)] at h
     have z3 : decide (s.mo < g) = false := decide_eq_false q3
     by_cases q4 : g = s.mo
     ·
      rw [if_pos q4] at h
      have z4 : (g == s.mo) = true := by simpa using q4
      obtain ⟨c, hcmp0, h⟩ := Option.bind_eq_some_iff.1 h
      have hcmp := Aside0.mk hcmp0
      clear hcmp0 q2 q3 q4
      by_cases q5 : c < 0
      ·
       rw [if_pos q5] at h
       have z5 : decide (c < 0) = true := decide_eq_true q5
       clear q5
       obtain rfl := Option.some.inj h
       go_enter Try.func96, Try.ntmps96
       go_wp2
       go_region_held3 (fun W => Below w.heap.size w W ∧ W.cell? ⟨p, 0, none⟩ = some (.slice A0 l0.length c0) ∧ W.cell? ⟨p, 2, none⟩ = some (.slice A2 s.bu.length c2)) (first | assumption | exact ⟨below_drew (Below.refl _ _), x0, x2⟩) (first | (go_at_call 69; refine (HBU.out _ (by assumption)).mono ?_; rintro e w1 ⟨rfl, hS_⟩))
       have hP1 := blk_below HP.out hS_.1
       obtain ⟨y0, y1, y2, y3, y4, y5, yf⟩ := cells6 hP1
       have HS1 := Aside0.mk (HS.out.below hS_.1)
       have HB1 := Aside0.mk (below_then HB.out HB.out.size hS_.1)
       have HR5 := Aside0.mk ((HR.out.below hS_.1).set hP1 (by decide) 5 (.int .i64 (wrap64 (s.fo + 1))))
       have HCm := Aside0.mk (fun n => slices_Compare_int64_int64.calls k A2 c2 s.bu A3 c3 s.be c ((w1.setCell ⟨p, 5, none⟩ (.int .i64 (wrap64 (s.fo + 1)))).drewN n) (Kd.R_reads' (HR5.out.drewN n).1).2.2 HC2.out (Kd.R_reads' (HR5.out.drewN n).2).2.2 HC3.out hcmp.out)
       clear hP1 hS_ x0 x1 x2 x3 x4 x5 xf
       go_wp2
       go_quiet (first | (go_at_call 117; refine (HCm.out _).mono ?_; rintro e w' ⟨rfl, ⟨nd, rfl⟩⟩; (first | (with_reducible exact ⟨rfl, _, World.drewN_drewN _ _ _⟩) | exact ⟨rfl, _, rfl⟩)))
       go_wp2_with (go_at_call 83; refine (slices_Clone_int64_int64.calls A2 c2 s.bu s.bu _ (Kd.R_reads' (HR5.out.drewN _).1).2.2 HC2.out HCL.out).mono ?_; rintro e w2 ⟨v, rfl, hRn, hb2⟩; obtain ⟨A9, c9, e9⟩ := Kd.R_slice hRn; subst e9; obtain ⟨_, _, _, _, ⟨t0, t1, t2, t3, t4, t5, tf⟩, _⟩ := (StV.below (StV.below (HS1.out.fo (wrap64 (s.fo + 1))) (pw_below_drewN (Below.refl _ _) _)) hb2).open; have HRn := Aside0.mk hRn; have Hb2 := Aside0.mk hb2; clear hRn hb2)
       refine bodyPost_ret (results_none rfl _ _ _) rfl ?_
       have hW := pw_below_drewN (sput HB1.out HPP.out 5 (.int .i64 (wrap64 (s.fo + 1)))) nq
       exact ⟨rfl, sput (sput (below_then hW hW.size Hb2.out) HPP.out _ _) HPP.out _ _, StV.mo (StV.best (StV.below (HS1.out.fo (wrap64 (s.fo + 1))) (pw_below_drewN (Below.refl _ _) _)) HRn.out Hb2.out hW.size) g⟩
      ·
       rw [if_neg q5] at h
       have z5 : decide (c < 0) = false := decide_eq_false q5
       clear q5
       obtain rfl := Option.some.inj h
       go_enter Try.func96, Try.ntmps96
       go_wp2
       go_region_held3 (fun W => Below w.heap.size w W ∧ W.cell? ⟨p, 0, none⟩ = some (.slice A0 l0.length c0) ∧ W.cell? ⟨p, 2, none⟩ = some (.slice A2 s.bu.length c2)) (first | assumption | exact ⟨below_drew (Below.refl _ _), x0, x2⟩) (first | (go_at_call 69; refine (HBU.out _ (by assumption)).mono ?_; rintro e w1 ⟨rfl, hS_⟩))
       have hP1 := blk_below HP.out hS_.1
       obtain ⟨y0, y1, y2, y3, y4, y5, yf⟩ := cells6 hP1
       have HS1 := Aside0.mk (HS.out.below hS_.1)
       have HB1 := Aside0.mk (below_then HB.out HB.out.size hS_.1)
       have HR5 := Aside0.mk ((HR.out.below hS_.1).set hP1 (by decide) 5 (.int .i64 (wrap64 (s.fo + 1))))
       have HCm := Aside0.mk (fun n => slices_Compare_int64_int64.calls k A2 c2 s.bu A3 c3 s.be c ((w1.setCell ⟨p, 5, none⟩ (.int .i64 (wrap64 (s.fo + 1)))).drewN n) (Kd.R_reads' (HR5.out.drewN n).1).2.2 HC2.out (Kd.R_reads' (HR5.out.drewN n).2).2.2 HC3.out hcmp.out)
       clear hP1 hS_ x0 x1 x2 x3 x4 x5 xf
       go_wp2
       go_quiet (first | (go_at_call 117; refine (HCm.out _).mono ?_; rintro e w' ⟨rfl, ⟨nd, rfl⟩⟩; (first | (with_reducible exact ⟨rfl, _, World.drewN_drewN _ _ _⟩) | exact ⟨rfl, _, rfl⟩)))
       go_wp2
       refine bodyPost_ret (results_none rfl _ _ _) rfl ?_
       exact ⟨rfl, pw_below_drewN (sput HB1.out HPP.out 5 _) _, StV.below (HS1.out.fo (wrap64 (s.fo + 1))) (pw_below_drewN (Below.refl _ _) _)⟩
     ·
      rw [if_neg q4] at h
      have z4 : (g == s.mo) = false := by simpa using q4
      clear q2 q3 q4
      obtain rfl := Option.some.inj h
      go_enter Try.func96, Try.ntmps96
      go_wp2
      go_region_held3 (fun W => Below w.heap.size w W ∧ W.cell? ⟨p, 0, none⟩ = some (.slice A0 l0.length c0) ∧ W.cell? ⟨p, 2, none⟩ = some (.slice A2 s.bu.length c2)) (first | assumption | exact ⟨below_drew (Below.refl _ _), x0, x2⟩) (first | (go_at_call 69; refine (HBU.out _ (by assumption)).mono ?_; rintro e w1 ⟨rfl, hS_⟩))
      have hP1 := blk_below HP.out hS_.1
      obtain ⟨y0, y1, y2, y3, y4, y5, yf⟩ := cells6 hP1
      have HS1 := Aside0.mk (HS.out.below hS_.1)
      have HB1 := Aside0.mk (below_then HB.out HB.out.size hS_.1)
      have HR5 := Aside0.mk ((HR.out.below hS_.1).set hP1 (by decide) 5 (.int .i64 (wrap64 (s.fo + 1))))
      clear hP1 hS_ x0 x1 x2 x3 x4 x5 xf
      go_wp2
      go_quiet (fail)
      go_wp2
      refine bodyPost_ret (results_none rfl _ _ _) rfl ?_
      exact ⟨rfl, pw_below_drewN (sput HB1.out HPP.out 5 _) _, StV.below (HS1.out.fo (wrap64 (s.fo + 1))) (pw_below_drewN (Below.refl _ _) _)⟩
 ·
  rw [if_neg hin] at h; cases h
theorem visitF_bu (k : Nat) (l0 : List S34) : ∀ d m g s s', visitF k l0 d m g s = some s' → s'.bu = s.bu := by
 intro d
 induction d with
 | zero =>
  intro m g s s' h
  unfold visitF at h
  split at h
  ·
   split at h
   ·
    split at h
    ·
     obtain rfl := Option.some.inj h; rfl
    ·
     split at h
     ·
      obtain ⟨c, _, h⟩ := Option.bind_eq_some_iff.1 h
      split at h
      ·
       obtain rfl := Option.some.inj h; rfl
      ·
       obtain rfl := Option.some.inj h; rfl
     ·
      obtain rfl := Option.some.inj h; rfl
   ·
    obtain rfl := Option.some.inj h; rfl
  ·
   cases h
 | succ d ih =>
  intro m g s s' h
  unfold visitF at h
  obtain ⟨q, hq, h⟩ := Option.bind_eq_some_iff.1 h
  have hqb : q.1.bu = s.bu := by
   split at hq
   ·
    split at hq
    ·
     obtain rfl := Option.some.inj hq; rfl
    ·
     obtain ⟨s2, h2, hq⟩ := Option.bind_eq_some_iff.1 hq
     obtain rfl := Option.some.inj hq
     have := ih _ _ _ _ h2
     simp only [this, List.length_append, List.length_cons, List.length_nil, Nat.add_sub_cancel]
     simp
   ·
    obtain rfl := Option.some.inj hq; rfl
  split at h
  ·
   obtain rfl := Option.some.inj h; exact hqb
  ·
   split at h
   ·
    obtain rfl := Option.some.inj h; exact hqb
   ·
    exact (ih _ _ _ _ h).trans hqb
theorem StV.cut {w : World} {base p n0 c0 : Nat} {A0 : Option Addr} {s : SV} {A2 A3 : Option Addr} {c2 c3 : Nat}
  (hP : w.heap[p]? = some (.cells #[.slice A0 n0 c0, .int .i64 s.b, .slice A2 s.bu.length c2, .slice A3 s.be.length c3, .int .i64 s.mo, .int .i64 s.fo] 90 (0, 0))) (hR : Rows2 w base (.slice A2 s.bu.length c2) (.slice A3 s.be.length c3) s.bu s.be) {n : Nat} (hn : n = s.bu.length - 1) :
  StV (w.setCell ⟨p, 2, none⟩ (.slice A2 n c2)) base p A0 n0 c0 ⟨s.b, s.bu.take (s.bu.length - 1), s.be, s.mo, s.fo⟩ := by
 subst hn
 have e : (s.bu.take (s.bu.length - 1)).length = s.bu.length - 1 := by rw [List.length_take]; omega
 refine ⟨A2, c2, A3, c3, ?_, ?_⟩
 ·
  have := blk_set hP 2 (.slice A2 (s.bu.length - 1) c2)
  rw [e]; exact this
 ·
  rw [e]; exact (hR.cut (m := s.bu.length - 1) (by omega)).set hP (by decide) 2 _
theorem StV.append {W w1 : World} {base p n0 c0 : Nat} {A0 : Option Addr} {s : SV} {A2 A3 A9 : Option Addr} {c2 c3 c9 n9 : Nat} {xs : List Int} (hn9 : n9 = xs.length)
  (hP : W.heap[p]? = some (.cells #[.slice A0 n0 c0, .int .i64 s.b, .slice A2 s.bu.length c2, .slice A3 s.be.length c3, .int .i64 s.mo, .int .i64 s.fo] 90 (0, 0))) (hR : Rows2 W base (.slice A2 s.bu.length c2) (.slice A3 s.be.length c3) s.bu s.be)
  (ho : Kd.R (Kd.int .i64) 2 w1 base (fun k => Option.some k ≠ (Value.slice A3 s.be.length c3).ownBlock) (.slice A9 n9 c9) xs) (hg : W.grownBy w1 (Value.slice A2 s.bu.length c2).ownBlock) (hat : (Value.slice A9 n9 c9).ownBlock = (Value.slice A2 s.bu.length c2).ownBlock ∨ ∃ b, (Value.slice A9 n9 c9).ownBlock = Option.some b ∧ W.heap.size ≤ b) :
  StV (w1.setCell ⟨p, 2, none⟩ (.slice A9 n9 c9)) base p A0 n0 c0 ⟨s.b, xs, s.be, s.mo, s.fo⟩ := by
 subst hn9
 have hP1 := blk_grown hP hg (Kd.R_ne hR.1 hP (by decide))
 exact ⟨A9, c9, A3, c3, blk_set hP1 2 _, (hR.append ho hg hat).set hP1 (by decide) 2 _⟩
set_option maxHeartbeats 8000000 in
set_option maxRecDepth 100000 in
/-- The search with stages left, given what it does with one stage less. -/
theorem visit_s.calls (k : Nat) (A0 : Option Addr) (c0 : Nat) (l0 : List S34) (w0 : World) (hr0 : Kd.C k34 w0 A0 l0.length l0) (hc0 : l0.length ≤ c0) (h8 : l0.length ≤ 8) (p : Nat) (hp : w0.heap.size ≤ p) (d i : Nat) (hi : i + (d + 1) = l0.length)
  (ih : ∀ (m g : Int) (s s' : SV) (w : World), visitF k l0 d m g s = some s' → Below w0.heap.size w0 w → StV w w0.heap.size p A0 l0.length c0 s → s.bu.length + d ≤ l0.length → Calls Try.prog 96 #[.pointer (some ⟨p, 0, none⟩), .int .i64 ((i : Int) + 1), .int .i64 m, .int .i64 g] w fun e w' => e = .returned (.tuple #[]) ∧ Below w0.heap.size w0 w' ∧ StV w' w0.heap.size p A0 l0.length c0 s')
  (m g : Int) (s s' : SV) (w : World) (h : visitF k l0 (d + 1) m g s = some s') (hb : Below w0.heap.size w0 w) (hs : StV w w0.heap.size p A0 l0.length c0 s) (hl : s.bu.length + (d + 1) ≤ l0.length) :
  Calls Try.prog 96 #[.pointer (some ⟨p, 0, none⟩), .int .i64 (i : Int), .int .i64 m, .int .i64 g] w fun e w' => e = .returned (.tuple #[]) ∧ Below w0.heap.size w0 w' ∧ StV w' w0.heap.size p A0 l0.length c0 s' := by
 unfold visitF at h
 rw [show l0.length - (d + 1) = i by omega] at h
 obtain ⟨q, hq, h⟩ := Option.bind_eq_some_iff.1 h
 obtain ⟨ad, A8, c8, e8, hx0, hx1, hx2, hx3, _, _⟩ := at_T34 (Kd.C_below hr0 hb) (i : Int) (by omega) (by omega)
 cases e8
 generalize rd_T34 l0 (i : Int) = x at hq hx0 hx1 hx2 hx3
 rw [Int.toNat_natCast] at hx0 hx1 hx2 hx3
 obtain ⟨A2, c2, A3, c3, ⟨x0, x1, x2, x3, x4, x5, xf⟩, ⟨hc2, hC2⟩, ⟨hc3, hC3⟩, hP, hR⟩ := hs.open
 have z0 : ((i : Int) == (l0.length : Int)) = false := by simp; omega
 have z1 : decide ((i : Int) < (l0.length : Int)) = true := decide_eq_true (by omega)
 have z2 := eq_true (show (0 : Int) ≤ (i : Int) by omega)
 have z3 := eq_true (show (i : Int) < (l0.length : Int) by omega)
 have X0 := fun o => cell_al x0 o
 have X1 := fun o => cell_al x1 o
 have X2 := fun o => cell_al x2 o
 have X3 := fun o => cell_al x3 o
 have X4 := fun o => cell_al x4 o
 have X5 := fun o => cell_al x5 o
 have XF := fun (j : Nat) (o : Obj) => blk_frozen (blk_alloc hP o) j
 have HB := Aside0.mk hb
 have HS := Aside0.mk hs
 have HP := Aside0.mk hP
 have HR := Aside0.mk hR
 have HC2 := Aside0.mk hc2
 have HPP := Aside0.mk hp
 have HI := Aside0.mk hi
 have H8 := Aside0.mk h8
 have HL := Aside0.mk hl
 have IH := Aside0.mk ih
 have hw1 : IntKind.i64.wrap ((i : Int) + 1) = (i : Int) + 1 := IntWalk.i64_in _ (by omega)
 have hw2 : wrap64 ((i : Int) + 1) = (i : Int) + 1 := by unfold wrap64; omega
 clear hr0 hc0 hb hs hP hR hc2 hC2 hc3 hC3 hl hp hi h8 ih
 by_cases qc : x.f1 ≤ m
 ·
  rw [if_pos qc] at hq
  have zc : decide (x.f1 ≤ m) = true := decide_eq_true qc
  clear qc
  by_cases qb : wrap64 (s.b - 1) < 0
  ·
   rw [if_pos qb] at hq
   have zb : decide (wrap64 (s.b - 1) < 0) = true := decide_eq_true qb
   obtain rfl := Option.some.inj hq
   rw [if_pos rfl] at h
   obtain rfl := Option.some.inj h
   clear qb h hq
   go_enter Try.func96, Try.ntmps96
   go_wp2
   ((try simp only [Exit.inBlock, Exit.then]); first | (refine bodyPost_ret (results_none rfl _ _ _) rfl ?_) | (refine bodyPost_end (results_none rfl _ _ _) rfl ?_))
   exact ⟨rfl, sput (below_alloc HB.out _) HPP.out 1 _, StV.b (StV.below HS.out (below_alloc (Below.refl _ _) _)) _⟩
  ·
   rw [if_neg qb] at hq
   have zb : decide (wrap64 (s.b - 1) < 0) = false := decide_eq_false qb
   obtain ⟨s2, hrec, hq⟩ := Option.bind_eq_some_iff.1 hq
   obtain rfl := Option.some.inj hq
   rw [if_neg (show ¬ (false = true) by decide)] at h
   have hbu := visitF_bu k l0 _ _ _ _ _ hrec
   simp only at hbu
   have HREC := Aside0.mk hrec
   have hlen : s2.bu.length = s.bu.length + 1 := by rw [hbu, List.length_append]; rfl
   have HLEN := Aside0.mk hlen
   have HP7 := Aside0.mk (blk_alloc (blk_set HP.out 1 (.int .i64 (wrap64 (s.b - 1)))) (.cells #[.string x.f0, .int .i64 x.f1, .int .i64 x.f2, .slice A8 x.f3.length c8] 34))
   have hpw : p < w.heap.size := blk_lt HP.out
   have hpn : ¬ p = w.heap.size := by omega
   have hpm : ¬ w.heap.size = p := by omega
   have hX7 := blk_new (w.setCell ⟨p, 1, none⟩ (.int .i64 (wrap64 (s.b - 1)))) (.cells #[.string x.f0, .int .i64 x.f1, .int .i64 x.f2, .slice A8 x.f3.length c8] 34)
   rw [show (w.setCell ⟨p, 1, none⟩ (.int .i64 (wrap64 (s.b - 1)))).heap.size = w.heap.size by simp] at hX7
   have HX7 := Aside0.mk hX7
   have HR7 := Aside0.mk ((HR.out.set HP.out (by decide) 1 (.int .i64 (wrap64 (s.b - 1)))).below (below_alloc (Below.refl _ _) (.cells #[.string x.f0, .int .i64 x.f1, .int .i64 x.f2, .slice A8 x.f3.length c8] 34)))
   have HB7 := Aside0.mk (below_alloc (sput HB.out HPP.out 1 (.int .i64 (wrap64 (s.b - 1)))) (.cells #[.string x.f0, .int .i64 x.f1, .int .i64 x.f2, .slice A8 x.f3.length c8] 34))
   have HSZ := Aside0.mk (show w.heap.size + 1 = ((w.setCell ⟨p, 1, none⟩ (.int .i64 (wrap64 (s.b - 1)))).alloc (.cells #[.string x.f0, .int .i64 x.f1, .int .i64 x.f2, .slice A8 x.f3.length c8] 34)).heap.size by simp)
   clear hX7
   have HBU := Aside0.mk hbu
   clear qb hq hrec hbu hlen
   have HH := Aside0.mk h
   clear h
   go_enter Try.func96, Try.ntmps96
   go_wp2_with (first | (at_builtin; refine Kd.R_append (Kd.int .i64) (w0 := w0) w0.heap.size rfl (.tmp 105) (.tmp 107) 27 2 (.int .i64 0) 8 rfl Try.underlying27 info2 rfl (by decide) (by omega) (.slice A2 s.bu.length c2) s.bu (i : Int) [.int .i64 (i : Int)] (fun k => some k ≠ (Value.slice A3 s.be.length c3).ownBlock) (fun _ => False) rfl (congrArg (fun n => Value.slice (some ⟨n, 0, none⟩) 1 1) HSZ.out) rfl (fun _ hk => hk.elim) (fun k hk e => (by have := Kd.R_lt HR7.out.2 k e.symm; omega)) HR7.out.1 HB7.out HB7.out.size (by have := HL.out; have := H8.out; omega) ?_; intro v1 w1 ho hb1 hg hat; obtain ⟨A9, c9, e9⟩ := Kd.R_slice ho; rw [List.length_append, List.length_singleton] at e9; subst e9; obtain ⟨t0, t1, t2, t3, t4, t5, tf⟩ := cells6 (blk_grown HP7.out hg (Kd.R_ne HR7.out.1 HP7.out (by decide))); have hX9 := blk_grown HX7.out hg (Kd.R_ne HR7.out.1 HX7.out (by decide)); have y1 := (blk_cell hX9 1).trans rfl; have y2 := (blk_cell hX9 2).trans rfl; have HO := Aside0.mk ho; have HB1 := Aside0.mk hb1; have HG := Aside0.mk hg; have HA := Aside0.mk hat; clear ho hb1 hg hat hX9) | (go_at_call 96; refine (IH.out _ _ _ s2 _ HREC.out (sput HB1.out HPP.out 2 _) (StV.append (s := ⟨wrap64 (s.b - 1), s.bu, s.be, s.mo, s.fo⟩) (show s.bu.length + 1 = (s.bu ++ [(i : Int)]).length from by simp) HP7.out HR7.out HO.out HG.out HA.out) (by have := HL.out; simp only [List.length_append, List.length_cons, List.length_nil]; omega)).mono ?_; rintro e w2 ⟨rfl, hB2, hS2⟩; obtain ⟨A5, c5, A6, c6, ⟨u0, u1, u2, u3, u4, u5, uf⟩, ⟨hc5, hC5⟩, _, hP5, hR5⟩ := hS2.open; have HS2 := Aside0.mk hS2; have HB2 := Aside0.mk hB2; have HP5 := Aside0.mk hP5; have HR5 := Aside0.mk hR5; have HC5 := Aside0.mk hc5; clear hS2 hB2 hP5 hR5 hc5 hC5))
   have hk0 : (0 : Int) ≤ (s2.bu.length : Int) - 1 := by have := HLEN.out; omega
   have hk1 : (s2.bu.length : Int) - 1 ≤ (s2.bu.length : Int) := by omega
   have hk2 : (s2.bu.length : Int) - 1 ≤ (c5 : Int) := by have := HC5.out; omega
   obtain ⟨g5, rfl⟩ := HR5.out.some (by have := HLEN.out; omega)
   have hw3 : IntKind.i64.wrap ((s2.bu.length : Int) - 1) = (s2.bu.length : Int) - 1 := IntWalk.i64_in _ (by have := HLEN.out; have := HL.out; have := H8.out; omega)
   go_region
   have hS3 := (StV.cut HP5.out HR5.out (n := s2.bu.length - 1) rfl).below (below_drew (Below.refl _ _))
   have hB3 := below_drew (sput HB2.out HPP.out 2 (.slice (some ⟨g5, 0, none⟩) (s2.bu.length - 1) c5))
   clear u0 u1 u2 u3 u4 u5 uf
   generalize (w2.setCell ⟨p, 2, none⟩ (.slice (some ⟨g5, 0, none⟩) (s2.bu.length - 1) c5)).drew = w3 at hS3 hB3 ⊢
   obtain ⟨_, _, _, _, ⟨u0, u1, u2, u3, u4, u5, uf⟩, _⟩ := hS3.open
   have HS3 := Aside0.mk hS3
   have HB3 := Aside0.mk hB3
   clear hS3 hB3
   by_cases qb2 : wrap64 (s2.b - 1) < 0
   ·
    have hh := HH.out
    rw [if_pos qb2] at hh
    obtain rfl := Option.some.inj hh
    have zb2 : decide (wrap64 (s2.b - 1) < 0) = true := decide_eq_true qb2
    clear qb2 hh HH
    go_wp2
    ((try simp only [Exit.inBlock, Exit.then]); first | (refine bodyPost_ret (results_none rfl _ _ _) rfl ?_) | (refine bodyPost_end (results_none rfl _ _ _) rfl ?_))
    exact ⟨rfl, sput HB3.out HPP.out 1 _, StV.b HS3.out _⟩
   ·
    have hh := HH.out
    rw [if_neg qb2] at hh
    have HH2 := Aside0.mk hh
    have zb2 : decide (wrap64 (s2.b - 1) < 0) = false := decide_eq_false qb2
    clear qb2 hh HH
    go_wp2_with (go_at_call 96; refine (IH.out m g _ s' _ HH2.out (sput HB3.out HPP.out 1 _) (StV.b HS3.out _) (by have := HL.out; have := HLEN.out; simp only [List.length_take]; omega)).mono ?_; rintro e w' ⟨rfl, hB', hS'⟩)
    ((try simp only [Exit.inBlock, Exit.then]); first | (refine bodyPost_ret (results_none rfl _ _ _) rfl ?_) | (refine bodyPost_end (results_none rfl _ _ _) rfl ?_))
    exact ⟨rfl, hB', hS'⟩
 ·
  rw [if_neg qc] at hq
  obtain rfl := Option.some.inj hq
  have zc : decide (x.f1 ≤ m) = false := decide_eq_false qc
  rw [if_neg (show ¬ (false = true) by decide)] at h
  clear qc hq
  by_cases qb : wrap64 (s.b - 1) < 0
  ·
   rw [if_pos qb] at h
   have zb : decide (wrap64 (s.b - 1) < 0) = true := decide_eq_true qb
   obtain rfl := Option.some.inj h
   clear qb h
   go_enter Try.func96, Try.ntmps96
   go_wp2
   ((try simp only [Exit.inBlock, Exit.then]); first | (refine bodyPost_ret (results_none rfl _ _ _) rfl ?_) | (refine bodyPost_end (results_none rfl _ _ _) rfl ?_))
   exact ⟨rfl, sput (below_alloc HB.out _) HPP.out 1 _, StV.b (StV.below HS.out (below_alloc (Below.refl _ _) _)) _⟩
  ·
   rw [if_neg qb] at h
   have zb : decide (wrap64 (s.b - 1) < 0) = false := decide_eq_false qb
   have HH := Aside0.mk h
   clear qb h
   go_enter Try.func96, Try.ntmps96
   go_wp2_with (go_at_call 96; refine (IH.out m g _ s' _ HH.out (sput (below_alloc HB.out _) HPP.out 1 _) (StV.b (StV.below HS.out (below_alloc (Below.refl _ _) _)) _) (by have := HL.out; simp only; omega)).mono ?_; rintro e w' ⟨rfl, hB', hS'⟩)
   ((try simp only [Exit.inBlock, Exit.then]); first | (refine bodyPost_ret (results_none rfl _ _ _) rfl ?_) | (refine bodyPost_end (results_none rfl _ _ _) rfl ?_))
   exact ⟨rfl, hB', hS'⟩
/-- The search from a place on, whatever is left. -/
theorem visit.calls (k : Nat) (A0 : Option Addr) (c0 : Nat) (l0 : List S34) (w0 : World) (hr0 : Kd.C k34 w0 A0 l0.length l0) (hc0 : l0.length ≤ c0) (h8 : l0.length ≤ 8) (p : Nat) (hp : w0.heap.size ≤ p) : ∀ (d i : Nat), i + d = l0.length → ∀ (m g : Int) (s s' : SV) (w : World), visitF k l0 d m g s = some s' → Below w0.heap.size w0 w → StV w w0.heap.size p A0 l0.length c0 s → s.bu.length + d ≤ l0.length → Calls Try.prog 96 #[.pointer (some ⟨p, 0, none⟩), .int .i64 (i : Int), .int .i64 m, .int .i64 g] w fun e w' => e = .returned (.tuple #[]) ∧ Below w0.heap.size w0 w' ∧ StV w' w0.heap.size p A0 l0.length c0 s'
 | 0, i, hi, m, g, s, s', w, h, hb, hs, hl => by
  have e : i = l0.length := by omega
  subst e
  exact visit_0.calls k A0 c0 l0 w0 hr0 hc0 m g s s' w p h hb hp hs (by omega)
 | d + 1, i, hi, m, g, s, s', w, h, hb, hs, hl =>
  visit_s.calls k A0 c0 l0 w0 hr0 hc0 h8 p hp d i hi (fun m g s s' w h hb hs hl => by
   have := visit.calls k A0 c0 l0 w0 hr0 hc0 h8 p hp d (i + 1) (by omega) m g s s' w h hb hs hl
   rwa [show ((i + 1 : Nat) : Int) = (i : Int) + 1 by omega] at this) m g s s' w h hb hs hl
/-- The search for stages, and the error: the state is empty where there is one. -/
def stagesF (k : Nat) (l0 : List S34) (a1 a2 : Int) : Option (SV × Int) :=
 (impl_ValidStages.f k l0).bind fun v => if v = true then
  ((impl_moneyOk.f a1).bind fun m1 => if m1 = true then
   ((impl_budgetValid.f a2).bind fun b1 => if b1 = true then
    (if l0.length ≤ 8 then ((visitF k l0 l0.length a1 0 ⟨a2, [], [], 0, 0⟩).bind fun s => if s.b < 0 then some (⟨0, [], [], 0, 0⟩, 5) else some (s, 0)) else none)
   else some (⟨0, [], [], 0, 0⟩, 2))
  else some (⟨0, [], [], 0, 0⟩, 2))
 else some (⟨0, [], [], 0, 0⟩, 1)
theorem stagesF_mono (k : Nat) (l0 : List S34) (a1 a2 : Int) : LeO (stagesF k l0 a1 a2) (stagesF (k + 1) l0 a1 a2) := by
 unfold stagesF
 exact LeO.bind (impl_ValidStages.mono _ k) (fun _ => LeO.ite (LeO.bind (LeO.refl _) (fun _ => LeO.ite (LeO.bind (LeO.refl _) (fun _ => LeO.ite (LeO.ite (LeO.bind (visitF_mono k l0 _ _ _ _) (fun _ => LeO.refl _)) (LeO.refl _)) (LeO.refl _))) (LeO.refl _))) (LeO.refl _))
/-- What such a search holds, as a value. -/
def SvVal (w : World) (base : Nat) (s : SV) (v : Value) : Prop := ∃ A9 n9 c9 A2 c2 A3 c3, v = .agg #[.slice A9 n9 c9, .int .i64 s.b, .slice A2 s.bu.length c2, .slice A3 s.be.length c3, .int .i64 s.mo, .int .i64 s.fo] ∧ Rows2 w base (.slice A2 s.bu.length c2) (.slice A3 s.be.length c3) s.bu s.be
theorem SvVal.nil (w : World) (base : Nat) (A9 : Option Addr) (n9 c9 : Nat) : SvVal w base ⟨0, [], [], 0, 0⟩ (.agg #[.slice A9 n9 c9, .int .i64 0, .slice none 0 0, .slice none 0 0, .int .i64 0, .int .i64 0]) :=
 ⟨A9, n9, c9, none, 0, none, 0, rfl, Kd.R_nil _ _ _ _ _, Kd.R_nil _ _ _ _ _⟩
set_option maxHeartbeats 4000000 in
set_option maxRecDepth 100000 in
theorem stagesOf.calls (k : Nat) (A0 : Option Addr) (c0 : Nat) (l0 : List S34) (a1 a2 : Int) (s : SV) (c : Int) (w : World) (hr0 : Kd.C k34 w A0 l0.length l0) (hc0 : l0.length ≤ c0) (h : stagesF k l0 a1 a2 = some (s, c)) :
  Calls Try.prog 60 #[.slice A0 l0.length c0, .int .i64 a1, .int .i64 a2] w fun e w' => (∃ v, e = .returned (.tuple #[v, .int .i64 c]) ∧ SvVal w' w.heap.size s v) ∧ Below w.heap.size w w' := by
 unfold stagesF at h
 obtain ⟨v, hv, h1⟩ := Option.bind_eq_some_iff.1 h
 clear h
 have HV := Aside0.mk (fun W (hW : Below w.heap.size w W) => (impl_ValidStages.calls k A0 c0 l0 v W (Kd.C_below hr0 hW) hc0 hv).mono fun e w' he => (⟨he.1, he.2, below_then hW hW.size he.2⟩ : e = .returned (.bool v) ∧ Below W.heap.size W w' ∧ Below w.heap.size w w'))
 have HR0 := Aside0.mk hr0
 have HC0 := Aside0.mk hc0
 clear hv hr0 hc0
 cases v with
 | false =>
  rw [if_neg (by decide)] at h1
  obtain ⟨rfl, rfl⟩ := Prod.mk.inj (Option.some.inj h1)
  clear h1
  go_enter Try.func60, Try.ntmps60
  go_wp2_with (go_at_call 41; refine (HV.out _ (by repeat (first | exact Below.refl _ _ | apply below_alloc | apply pw_below_drewN))).mono ?_; rintro e w1 ⟨rfl, hB1, hB⟩; have RB := Aside0.mk (blk_below (blk_new w _) hB1); obtain ⟨r0, r1, r2, r3, r4, r5, rf⟩ := cells6 RB.out; have HB := Aside0.mk hB; clear hB hB1)
  have RB6 := Aside0.mk (sets6_blk RB.out (.slice none 0 0) (.int .i64 0) (.slice none 0 0) (.slice none 0 0) (.int .i64 0) (.int .i64 0))
  have HB6 := Aside0.mk (sets6_below HB.out (Nat.le_refl _) (.slice none 0 0) (.int .i64 0) (.slice none 0 0) (.slice none 0 0) (.int .i64 0) (.int .i64 0))
  change bodyPost _ _ _ _ _ (sets6 _ w.heap.size (.slice none 0 0) (.int .i64 0) (.slice none 0 0) (.slice none 0 0) (.int .i64 0) (.int .i64 0))
  generalize sets6 _ w.heap.size (.slice none 0 0) (.int .i64 0) (.slice none 0 0) (.slice none 0 0) (.int .i64 0) (.int .i64 0) = w6 at RB6 HB6 ⊢
  refine bodyPost_ret (results_ct rfl _ _ w.heap.size _ _ _ _ rfl RB6.out Try.underlying90 rfl (by kernel_rfl)) rfl ?_
  exact ⟨⟨_, rfl, SvVal.nil _ _ _ _ _⟩, HB6.out⟩
 | true =>
  rw [if_pos rfl] at h1
  obtain ⟨m1, hm, h2⟩ := Option.bind_eq_some_iff.1 h1
  clear h1
  have HM := Aside0.mk hm
  clear hm
  cases m1 with
  | false =>
   rw [if_neg (by decide)] at h2
   obtain ⟨rfl, rfl⟩ := Prod.mk.inj (Option.some.inj h2)
   clear h2
   go_enter Try.func60, Try.ntmps60
   go_wp2_with (first | (go_at_call 41; refine (HV.out _ (by repeat (first | exact Below.refl _ _ | apply below_alloc | apply pw_below_drewN))).mono ?_; rintro e w1 ⟨rfl, hB1, hB⟩; have RB := Aside0.mk (blk_below (blk_new w _) hB1); obtain ⟨r0, r1, r2, r3, r4, r5, rf⟩ := cells6 RB.out; have HB := Aside0.mk hB; clear hB hB1) | (go_at_call 95; refine (impl_moneyOk.calls _ _ _ HM.out).mono ?_; rintro e w2 ⟨rfl, hD⟩; have hD1 := hD.below; have RB := Aside0.mk (blk_below RB.out hD1); clear r0 r1 r2 r3 r4 r5 rf; obtain ⟨r0, r1, r2, r3, r4, r5, rf⟩ := cells6 RB.out; have HB := Aside0.mk (below_then HB.out HB.out.size hD1); clear hD hD1))
   have RB6 := Aside0.mk (sets6_blk RB.out (.slice none 0 0) (.int .i64 0) (.slice none 0 0) (.slice none 0 0) (.int .i64 0) (.int .i64 0))
   have HB6 := Aside0.mk (sets6_below HB.out (Nat.le_refl _) (.slice none 0 0) (.int .i64 0) (.slice none 0 0) (.slice none 0 0) (.int .i64 0) (.int .i64 0))
   change bodyPost _ _ _ _ _ (sets6 _ w.heap.size (.slice none 0 0) (.int .i64 0) (.slice none 0 0) (.slice none 0 0) (.int .i64 0) (.int .i64 0))
   generalize sets6 _ w.heap.size (.slice none 0 0) (.int .i64 0) (.slice none 0 0) (.slice none 0 0) (.int .i64 0) (.int .i64 0) = w6 at RB6 HB6 ⊢
   refine bodyPost_ret (results_ct rfl _ _ w.heap.size _ _ _ _ rfl RB6.out Try.underlying90 rfl (by kernel_rfl)) rfl ?_
   exact ⟨⟨_, rfl, SvVal.nil _ _ _ _ _⟩, HB6.out⟩
  | true =>
   rw [if_pos rfl] at h2
   obtain ⟨b1, hb, h3⟩ := Option.bind_eq_some_iff.1 h2
   clear h2
   have HBV := Aside0.mk hb
   clear hb
   cases b1 with
   | false =>
    rw [if_neg (by decide)] at h3
    obtain ⟨rfl, rfl⟩ := Prod.mk.inj (Option.some.inj h3)
    clear h3
    go_enter Try.func60, Try.ntmps60
    go_wp2_with (first | (go_at_call 41; refine (HV.out _ (by repeat (first | exact Below.refl _ _ | apply below_alloc | apply pw_below_drewN))).mono ?_; rintro e w1 ⟨rfl, hB1, hB⟩; have RB := Aside0.mk (blk_below (blk_new w _) hB1); obtain ⟨r0, r1, r2, r3, r4, r5, rf⟩ := cells6 RB.out; have HB := Aside0.mk hB; clear hB hB1) | (go_at_call 95; refine (impl_moneyOk.calls _ _ _ HM.out).mono ?_; rintro e w2 ⟨rfl, hD⟩; have hD1 := hD.below; have RB := Aside0.mk (blk_below RB.out hD1); clear r0 r1 r2 r3 r4 r5 rf; obtain ⟨r0, r1, r2, r3, r4, r5, rf⟩ := cells6 RB.out; have HB := Aside0.mk (below_then HB.out HB.out.size hD1); clear hD hD1) | (go_at_call 44; refine (impl_budgetValid.calls _ _ _ HBV.out).mono ?_; rintro e w2 ⟨rfl, hD⟩; have hD1 := hD.below; have RB := Aside0.mk (blk_below RB.out hD1); clear r0 r1 r2 r3 r4 r5 rf; obtain ⟨r0, r1, r2, r3, r4, r5, rf⟩ := cells6 RB.out; have HB := Aside0.mk (below_then HB.out HB.out.size hD1); clear hD hD1))
    have RB6 := Aside0.mk (sets6_blk RB.out (.slice none 0 0) (.int .i64 0) (.slice none 0 0) (.slice none 0 0) (.int .i64 0) (.int .i64 0))
    have HB6 := Aside0.mk (sets6_below HB.out (Nat.le_refl _) (.slice none 0 0) (.int .i64 0) (.slice none 0 0) (.slice none 0 0) (.int .i64 0) (.int .i64 0))
    change bodyPost _ _ _ _ _ (sets6 _ w.heap.size (.slice none 0 0) (.int .i64 0) (.slice none 0 0) (.slice none 0 0) (.int .i64 0) (.int .i64 0))
    generalize sets6 _ w.heap.size (.slice none 0 0) (.int .i64 0) (.slice none 0 0) (.slice none 0 0) (.int .i64 0) (.int .i64 0) = w6 at RB6 HB6 ⊢
    refine bodyPost_ret (results_ct rfl _ _ w.heap.size _ _ _ _ rfl RB6.out Try.underlying90 rfl (by kernel_rfl)) rfl ?_
    exact ⟨⟨_, rfl, SvVal.nil _ _ _ _ _⟩, HB6.out⟩
   | true =>
    rw [if_pos rfl] at h3
    by_cases h8 : l0.length ≤ 8
    ·
     rw [if_pos h8] at h3
     obtain ⟨s1, hvis, h4⟩ := Option.bind_eq_some_iff.1 h3
     clear h3
     have HVIS := Aside0.mk hvis
     have H8 := Aside0.mk h8
     have H4 := Aside0.mk h4
     clear hvis h8 h4
     go_enter Try.func60, Try.ntmps60
     go_wp2_with (first | (go_at_call 41; refine (HV.out _ (by repeat (first | exact Below.refl _ _ | apply below_alloc | apply pw_below_drewN))).mono ?_; rintro e w1 ⟨rfl, hB1, hB⟩; have RB := Aside0.mk (blk_below (blk_new w _) hB1); obtain ⟨r0, r1, r2, r3, r4, r5, rf⟩ := cells6 RB.out; have HB := Aside0.mk hB; clear hB hB1) | (go_at_call 95; refine (impl_moneyOk.calls _ _ _ HM.out).mono ?_; rintro e w2 ⟨rfl, hD⟩; have hD1 := hD.below; have RB := Aside0.mk (blk_below RB.out hD1); clear r0 r1 r2 r3 r4 r5 rf; obtain ⟨r0, r1, r2, r3, r4, r5, rf⟩ := cells6 RB.out; have HB := Aside0.mk (below_then HB.out HB.out.size hD1); clear hD hD1) | (go_at_call 44; refine (impl_budgetValid.calls _ _ _ HBV.out).mono ?_; rintro e w2 ⟨rfl, hD⟩; have hD1 := hD.below; have RB := Aside0.mk (blk_below RB.out hD1); clear r0 r1 r2 r3 r4 r5 rf; obtain ⟨r0, r1, r2, r3, r4, r5, rf⟩ := cells6 RB.out; have HB := Aside0.mk (below_then HB.out HB.out.size hD1); clear hD hD1) | (go_at_call 96; refine (visit.calls k A0 c0 l0 w2 (Kd.C_below HR0.out HB.out) HC0.out H8.out w2.heap.size (Nat.le_refl _) l0.length 0 (Nat.zero_add _) a1 0 ⟨a2, [], [], 0, 0⟩ s1 _ HVIS.out (below_alloc (Below.refl _ w2) _) ⟨none, 0, none, 0, blk_new w2 _, Kd.R_nil _ _ _ _ _, Kd.R_nil _ _ _ _ _⟩ (by simp)).mono ?_; rintro e w3 ⟨rfl, hB3, hS3⟩; have HL2 := Aside0.mk HB.out.size; have RB := Aside0.mk (blk_below RB.out hB3); clear r0 r1 r2 r3 r4 r5 rf; obtain ⟨r0, r1, r2, r3, r4, r5, rf⟩ := cells6 RB.out; have HB := Aside0.mk (below_then HB.out HB.out.size hB3); obtain ⟨A2, c2, A3, c3, ⟨p0, p1, p2, p3, p4, p5, pf⟩, _, _, _, hR3⟩ := hS3.open; have HR3 := Aside0.mk hR3; clear hR3 hS3 hB3; by_cases q5 : s1.b < 0))
     ·
      have h4 := H4.out
      rw [if_pos (by assumption)] at h4
      obtain ⟨rfl, rfl⟩ := Prod.mk.inj (Option.some.inj h4)
      clear h4
      have RB6 := Aside0.mk (sets6_blk RB.out (.slice none 0 0) (.int .i64 0) (.slice none 0 0) (.slice none 0 0) (.int .i64 0) (.int .i64 0))
      have HB6 := Aside0.mk (sets6_below HB.out (Nat.le_refl _) (.slice none 0 0) (.int .i64 0) (.slice none 0 0) (.slice none 0 0) (.int .i64 0) (.int .i64 0))
      have HR6 := Aside0.mk (rows2_sets6 HR3.out RB.out (by decide) (.slice none 0 0) (.int .i64 0) (.slice none 0 0) (.slice none 0 0) (.int .i64 0) (.int .i64 0))
      change bodyPost _ _ _ _ _ (sets6 _ w.heap.size (.slice none 0 0) (.int .i64 0) (.slice none 0 0) (.slice none 0 0) (.int .i64 0) (.int .i64 0))
      generalize sets6 _ w.heap.size (.slice none 0 0) (.int .i64 0) (.slice none 0 0) (.slice none 0 0) (.int .i64 0) (.int .i64 0) = w6 at RB6 HB6 HR6 ⊢
      refine bodyPost_ret (results_ct rfl _ _ w.heap.size _ _ _ _ rfl RB6.out Try.underlying90 rfl (by kernel_rfl)) rfl ?_
      exact ⟨⟨_, rfl, SvVal.nil _ _ _ _ _⟩, HB6.out⟩
     ·
      have h4 := H4.out
      rw [if_neg (by omega)] at h4
      obtain ⟨rfl, rfl⟩ := Prod.mk.inj (Option.some.inj h4)
      clear h4
      have RB6 := Aside0.mk (sets6_blk RB.out (.slice A0 l0.length c0) (.int .i64 s1.b) (.slice A2 s1.bu.length c2) (.slice A3 s1.be.length c3) (.int .i64 s1.mo) (.int .i64 s1.fo))
      have HB6 := Aside0.mk (sets6_below HB.out (Nat.le_refl _) (.slice A0 l0.length c0) (.int .i64 s1.b) (.slice A2 s1.bu.length c2) (.slice A3 s1.be.length c3) (.int .i64 s1.mo) (.int .i64 s1.fo))
      have HR6 := Aside0.mk (rows2_sets6 HR3.out RB.out (by decide) (.slice A0 l0.length c0) (.int .i64 s1.b) (.slice A2 s1.bu.length c2) (.slice A3 s1.be.length c3) (.int .i64 s1.mo) (.int .i64 s1.fo))
      change bodyPost _ _ _ _ _ (sets6 _ w.heap.size (.slice A0 l0.length c0) (.int .i64 s1.b) (.slice A2 s1.bu.length c2) (.slice A3 s1.be.length c3) (.int .i64 s1.mo) (.int .i64 s1.fo))
      generalize sets6 _ w.heap.size (.slice A0 l0.length c0) (.int .i64 s1.b) (.slice A2 s1.bu.length c2) (.slice A3 s1.be.length c3) (.int .i64 s1.mo) (.int .i64 s1.fo) = w6 at RB6 HB6 HR6 ⊢
      refine bodyPost_ret (results_ct rfl _ _ w.heap.size _ _ _ _ rfl RB6.out Try.underlying90 rfl (by kernel_rfl)) rfl ?_
      exact ⟨⟨_, rfl, ⟨_, _, _, A2, c2, A3, c3, rfl, HR6.out.lower HL2.out⟩⟩, HB6.out⟩
    ·
     rw [if_neg h8] at h3; cases h3

def impl_CountBuildable.f (k : Nat) (l0 : List (S34)) (a1 a2 : Int) : Option (Int × Int) := (stagesF k l0 a1 a2).bind fun q => if q.2 = 0 then some (q.1.fo, 0) else some (0, q.2)
theorem impl_CountBuildable.mono : ∀ a0 a1 a2 k, LeO (impl_CountBuildable.f k a0 a1 a2) (impl_CountBuildable.f (k + 1) a0 a1 a2) := fun a0 a1 a2 k => LeO.bind (stagesF_mono k a0 a1 a2) (fun _ => LeO.refl _)
set_option maxHeartbeats 4000000 in
set_option maxRecDepth 100000 in
theorem impl_CountBuildable.calls (k : Nat) (A0 : Option Addr) (c0 : Nat) (l0 : List (S34)) (a1 : Int) (a2 : Int) (r1 : Int) (r2 : Int) (w : World) (hr0 : Kd.C k34 w A0 l0.length l0) (hc0 : l0.length ≤ c0) (h : impl_CountBuildable.f k l0 a1 a2 = some (r1, r2)) :
  Calls Try.prog 23 #[.slice A0 l0.length c0, .int .i64 a1, .int .i64 a2] w fun e w' => e = .returned (.tuple #[.int .i64 r1, .int .i64 r2]) ∧ Below w.heap.size w w' := by
 unfold impl_CountBuildable.f at h
 obtain ⟨⟨s, c⟩, hq, h⟩ := Option.bind_eq_some_iff.1 h
 have HQ := Aside0.mk (fun W (hW : Below w.heap.size w W) => stagesOf.calls k A0 c0 l0 a1 a2 s c W (Kd.C_below hr0 hW) hc0 hq)
 clear hr0 hc0 hq
 by_cases q : c = 0
 ·
  subst q
  rw [if_pos rfl] at h
  obtain ⟨rfl, rfl⟩ := Prod.mk.inj (Option.some.inj h)
  clear h
  go_enter Try.func23, Try.ntmps23
  go_wp2_with (go_at_call 60; refine (HQ.out _ (by repeat (first | exact Below.refl _ _ | apply below_alloc | apply pw_below_drewN))).mono ?_; rintro e w1 ⟨⟨v, rfl, ⟨A9, n9, c9, A2, c2, A3, c3, rfl, hR⟩⟩, hB⟩; obtain ⟨n0, n1, n2, n3, n4, n5, nf⟩ := cells6 (blk_new w1 (.cells #[.slice none 0 0, .int .i64 0, .slice none 0 0, .slice none 0 0, .int .i64 0, .int .i64 0] 90)); have HB := Aside0.mk hB; clear hB hR)
  go_ret2
  refine ⟨rfl, ?_⟩
  exact below_alloc HB.out _
 ·
  rw [if_neg q] at h
  obtain ⟨rfl, rfl⟩ := Prod.mk.inj (Option.some.inj h)
  have z : (c == 0) = false := by simpa using q
  clear h q
  go_enter Try.func23, Try.ntmps23
  go_wp2_with (go_at_call 60; refine (HQ.out _ (by repeat (first | exact Below.refl _ _ | apply below_alloc | apply pw_below_drewN))).mono ?_; rintro e w1 ⟨⟨v, rfl, ⟨A9, n9, c9, A2, c2, A3, c3, rfl, hR⟩⟩, hB⟩; obtain ⟨n0, n1, n2, n3, n4, n5, nf⟩ := cells6 (blk_new w1 (.cells #[.slice none 0 0, .int .i64 0, .slice none 0 0, .slice none 0 0, .int .i64 0, .int .i64 0] 90)); have HB := Aside0.mk hB; clear hB hR)
  go_ret2
  refine ⟨rfl, ?_⟩
  exact below_alloc HB.out _

/-! ### impl_BestStages: function 29 -/

def impl_BestStages.f (k : Nat) (l0 : List (S34)) (a1 a2 : Int) : Option (List Int × Int × Int) := (stagesF k l0 a1 a2).bind fun q => if q.2 = 0 then some (q.1.be, q.1.mo, 0) else some ([], 0, q.2)
theorem impl_BestStages.mono : ∀ a0 a1 a2 k, LeO (impl_BestStages.f k a0 a1 a2) (impl_BestStages.f (k + 1) a0 a1 a2) := fun a0 a1 a2 k => LeO.bind (stagesF_mono k a0 a1 a2) (fun _ => LeO.refl _)
set_option maxHeartbeats 4000000 in
set_option maxRecDepth 100000 in
theorem impl_BestStages.calls (k : Nat) (A0 : Option Addr) (c0 : Nat) (l0 : List (S34)) (a1 : Int) (a2 : Int) (r1 : List Int) (r2 : Int) (r3 : Int) (w : World) (hr0 : Kd.C k34 w A0 l0.length l0) (hc0 : l0.length ≤ c0) (h : impl_BestStages.f k l0 a1 a2 = some (r1, r2, r3)) :
  Calls Try.prog 29 #[.slice A0 l0.length c0, .int .i64 a1, .int .i64 a2] w fun e w' => ∃ v0_ : Value, e = .returned (.tuple #[v0_, .int .i64 r2, .int .i64 r3]) ∧ Kd.R (Kd.int .i64) 2 w' w.heap.size (fun _ => True) v0_ r1 ∧ Below w.heap.size w w' := by
 unfold impl_BestStages.f at h
 obtain ⟨⟨s, c⟩, hq, h⟩ := Option.bind_eq_some_iff.1 h
 have HQ := Aside0.mk (fun W (hW : Below w.heap.size w W) => stagesOf.calls k A0 c0 l0 a1 a2 s c W (Kd.C_below hr0 hW) hc0 hq)
 clear hr0 hc0 hq
 by_cases q : c = 0
 ·
  subst q
  rw [if_pos rfl] at h
  obtain ⟨rfl, h5⟩ := Prod.mk.inj (Option.some.inj h)
  obtain ⟨rfl, rfl⟩ := Prod.mk.inj h5
  clear h h5
  go_enter Try.func29, Try.ntmps29
  go_wp2_with (go_at_call 60; refine (HQ.out _ (by repeat (first | exact Below.refl _ _ | apply below_alloc | apply pw_below_drewN))).mono ?_; rintro e w1 ⟨⟨v, rfl, ⟨A9, n9, c9, A2, c2, A3, c3, rfl, hR⟩⟩, hB⟩; obtain ⟨n0, n1, n2, n3, n4, n5, nf⟩ := cells6 (blk_new w1 (.cells #[.slice none 0 0, .int .i64 0, .slice none 0 0, .slice none 0 0, .int .i64 0, .int .i64 0] 90)); have HB := Aside0.mk hB; have HR := Aside0.mk hR; have HS := Aside0.mk hB.size; clear hB hR)
  obtain ⟨m0, m1, m2, m3, m4, m5, mf⟩ := cells6 (blk_new w1 (.cells #[.slice A9 n9 c9, .int .i64 s.b, .slice A2 s.bu.length c2, .slice A3 s.be.length c3, .int .i64 s.mo, .int .i64 s.fo] 90))
  go_quiet (fail)
  go_wp2
  refine bodyPost_ret (results_tmp3 rfl _ _ _) rfl ?_
  exact ⟨_, rfl, Kd.R_lower (Kd.R_mono (Kd.R_below HR.out.2 (by repeat (first | exact Below.refl _ _ | apply pw_below_drewN | apply below_alloc))) (fun _ _ => trivial)) (Nat.le_refl _), by repeat (first | exact HB.out | apply pw_below_drewN | apply below_alloc)⟩
 ·
  rw [if_neg q] at h
  obtain ⟨rfl, h5⟩ := Prod.mk.inj (Option.some.inj h)
  obtain ⟨rfl, rfl⟩ := Prod.mk.inj h5
  have z : (c == 0) = false := by simpa using q
  clear h h5 q
  go_enter Try.func29, Try.ntmps29
  go_wp2_with (go_at_call 60; refine (HQ.out _ (by repeat (first | exact Below.refl _ _ | apply below_alloc | apply pw_below_drewN))).mono ?_; rintro e w1 ⟨⟨v, rfl, ⟨A9, n9, c9, A2, c2, A3, c3, rfl, hR⟩⟩, hB⟩; obtain ⟨n0, n1, n2, n3, n4, n5, nf⟩ := cells6 (blk_new w1 (.cells #[.slice none 0 0, .int .i64 0, .slice none 0 0, .slice none 0 0, .int .i64 0, .int .i64 0] 90)); have HB := Aside0.mk hB; have HR := Aside0.mk hR; have HS := Aside0.mk hB.size; clear hB hR)
  refine bodyPost_ret (results_tmp3 rfl _ _ _) rfl ?_
  exact ⟨_, rfl, Kd.R_nil _ _ _ _ _, by repeat (first | exact HB.out | apply pw_below_drewN | apply below_alloc)⟩

/-- A state of type 103 at block g of W; what its slices lead to came in by w0. -/
def IsS103 (w0 W : World) (g : Nat) (f0 : List Int) (f1 : Int) (f2 : Int) : Prop := ∃ A0 c0, W.heap[g]? = some (.cells #[.slice A0 f0.length c0, .int .i64 f1, .int .u64 f2] 103 (0, 0)) ∧ w0.heap.size ≤ g ∧ Kd.C (Kd.int .u8) w0 A0 f0.length f0
theorem IsS103.grown {w0 W : World} {g : Nat} {f0 : List Int} {f1 : Int} {f2 : Int} {W1 : World} {row : Option Nat} (h : IsS103 w0 W g f0 f1 f2) (hw : W.grownBy W1 row) (hne : some g ≠ row) : IsS103 w0 W1 g f0 f1 f2 := by
 obtain ⟨A0, c0, hb, hg, hr0⟩ := h
 exact ⟨A0, c0, blk_grown hb hw hne, hg, hr0⟩
theorem IsS103.own_neN {w0 W : World} {g : Nat} {f0 : List Int} {f1 : Int} {f2 : Int} {α : Type} {d : Kd α} {e : Nat} {base : Nat} {ok : Nat → Prop} {v : Value} {xs : List α} (h : IsS103 w0 W g f0 f1 f2) (ho : Kd.N d e W base ok v xs) (ht : e ≠ 103) : some g ≠ v.ownBlock := by
 obtain ⟨A0, c0, hb, hg, hr0⟩ := h
 exact Kd.N_ne ho hb ht
theorem IsS103.fresh {w0 W : World} {g : Nat} {f0 : List Int} {f1 : Int} {f2 : Int} (h : IsS103 w0 W g f0 f1 f2) : ∀ k, W.heap.size ≤ k → k ≠ g := by
 obtain ⟨A0, c0, hb, hg, hr0⟩ := h
 exact Kd.freshB hb
theorem IsS103.kept {w0 W : World} {g : Nat} {f0 : List Int} {f1 : Int} {f2 : Int} {W1 : World} {S : Nat → Prop} (h : IsS103 w0 W g f0 f1 f2) (hk : Kept W W1 S) (hne : ¬ S g) : IsS103 w0 W1 g f0 f1 f2 := by
 obtain ⟨A0, c0, hb, hg, hr0⟩ := h
 exact ⟨A0, c0, blk_kept hb hk hne, hg, hr0⟩
theorem IsS103.below {w0 W : World} {g : Nat} {f0 : List Int} {f1 : Int} {f2 : Int} {W1 : World} (h : IsS103 w0 W g f0 f1 f2) (hw : Below W.heap.size W W1) : IsS103 w0 W1 g f0 f1 f2 := h.grown (grown_of_below hw none) (by simp)
theorem IsS103.alloc {w0 W : World} {g : Nat} {f0 : List Int} {f1 : Int} {f2 : Int} (h : IsS103 w0 W g f0 f1 f2) (o : Obj) : IsS103 w0 (W.alloc o) g f0 f1 f2 := h.below (below_alloc (Below.refl _ _) o)
theorem IsS103.drewN {w0 W : World} {g : Nat} {f0 : List Int} {f1 : Int} {f2 : Int} (h : IsS103 w0 W g f0 f1 f2) (m : Nat) : IsS103 w0 (W.drewN m) g f0 f1 f2 := h
theorem IsS103.drew {w0 W : World} {g : Nat} {f0 : List Int} {f1 : Int} {f2 : Int} (h : IsS103 w0 W g f0 f1 f2) : IsS103 w0 W.drew g f0 f1 f2 := h
theorem IsS103.at_ {w0 W : World} {g : Nat} {f0 : List Int} {f1 : Int} {f2 : Int} {w' : World} {m : Nat} (hq : W.drewN m = w') (h : IsS103 w0 W g f0 f1 f2) : IsS103 w0 w' g f0 f1 f2 := by subst hq; exact IsS103.drewN h m
theorem IsS103.apart {w0 W : World} {g : Nat} {f0 : List Int} {f1 : Int} {f2 : Int} {α : Type} {d : Kd α} {e : Nat} {base : Nat} {ok : Nat → Prop} {v : Value} {xs : List α} (h : IsS103 w0 W g f0 f1 f2) (ho : d.R e W base ok v xs) (ht : ∀ q, q ∈ e :: d.E → q ≠ 103) : d.R e W base (fun k => ok k ∧ k ≠ g) v xs := by
 obtain ⟨A0, c0, hb, hg, hr0⟩ := h
 exact Kd.R_types ho hb ht
theorem IsS103.own_ne {w0 W : World} {g : Nat} {f0 : List Int} {f1 : Int} {f2 : Int} {α : Type} {d : Kd α} {e : Nat} {base : Nat} {ok : Nat → Prop} {v : Value} {xs : List α} (h : IsS103 w0 W g f0 f1 f2) (ho : d.R e W base ok v xs) (ht : e ≠ 103) : some g ≠ v.ownBlock := by
 obtain ⟨A0, c0, hb, hg, hr0⟩ := h
 exact Kd.R_ne ho hb ht
theorem IsS103.apartQ {w0 W : World} {g : Nat} {f0 : List Int} {f1 : Int} {f2 : Int} {α : Type} {d : Kd α} {e : Nat} {base : Nat} {ok : Nat → Prop} {v : Value} {xs : List α} (h : IsS103 w0 W g f0 f1 f2) (ho : d.Q e W base ok v xs) (ht : ∀ q, q ∈ e :: d.E → q ≠ 103) : d.Q e W base (fun k => ok k ∧ k ≠ g) v xs := by
 obtain ⟨A0, c0, hb, hg, hr0⟩ := h
 exact Kd.Q_types ho hb ht
theorem IsS103.own_neQ {w0 W : World} {g : Nat} {f0 : List Int} {f1 : Int} {f2 : Int} {α : Type} {d : Kd α} {e : Nat} {base : Nat} {ok : Nat → Prop} {v : Value} {xs : List α} (h : IsS103 w0 W g f0 f1 f2) (ho : d.Q e W base ok v xs) (ht : e ≠ 103) : some g ≠ v.ownBlock := by
 obtain ⟨A0, c0, hb, hg, hr0⟩ := h
 exact Kd.Q_ne ho hb ht
theorem IsS103.apartS {w0 W : World} {g : Nat} {f0 : List Int} {f1 : Int} {f2 : Int} {α : Type} {d : Kd α} {e : Nat} {base : Nat} {ok : Nat → Prop} {v : Value} {xs : List α} (h : IsS103 w0 W g f0 f1 f2) (ho : d.S e W base ok v xs) (ht : ∀ q, q ∈ e :: d.E → q ≠ 103) : d.S e W base (fun k => ok k ∧ k ≠ g) v xs := by
 obtain ⟨A0, c0, hb, hg, hr0⟩ := h
 exact Kd.S_types ho hb ht
theorem IsS103.own_neS {w0 W : World} {g : Nat} {f0 : List Int} {f1 : Int} {f2 : Int} {α : Type} {d : Kd α} {e : Nat} {base : Nat} {ok : Nat → Prop} {v : Value} {xs : List α} (h : IsS103 w0 W g f0 f1 f2) (ho : d.S e W base ok v xs) (ht : e ≠ 103) : some g ≠ v.ownBlock := by
 obtain ⟨A0, c0, hb, hg, hr0⟩ := h
 exact Kd.S_ne ho hb ht
theorem IsS103.lt {w0 W : World} {g : Nat} {f0 : List Int} {f1 : Int} {f2 : Int} (h : IsS103 w0 W g f0 f1 f2) : g < W.heap.size := by
 obtain ⟨A0, c0, hb, hg, hr0⟩ := h
 exact blk_lt hb
theorem IsS103.ge {w0 W : World} {g : Nat} {f0 : List Int} {f1 : Int} {f2 : Int} (h : IsS103 w0 W g f0 f1 f2) : w0.heap.size ≤ g := by
 obtain ⟨A0, c0, hb, hg, hr0⟩ := h
 exact hg
theorem IsS103.ne_blk {w0 W : World} {g : Nat} {f0 : List Int} {f1 : Int} {f2 : Int} {a : Nat} {cs : Array Value} {t : TypeId} {fr : Nat × Nat} (h : IsS103 w0 W g f0 f1 f2) (hb2 : W.heap[a]? = some (.cells cs t fr)) (ht : t ≠ 103) : g ≠ a := by
 obtain ⟨A0, c0, hb, hg, hr0⟩ := h
 rintro rfl
 rw [hb] at hb2
 injection hb2 with hb2
 injection hb2 with _ ht2
 exact ht ht2.symm
theorem IsS103.far {w0 W : World} {g : Nat} {f0 : List Int} {f1 : Int} {f2 : Int} {p : Addr} (h : IsS103 w0 W g f0 f1 f2) (hne : g ≠ p.block) (u : Value) : IsS103 w0 (W.setCell p u) g f0 f1 f2 := by
 obtain ⟨A0, c0, hb, hg, hr0⟩ := h
 exact ⟨A0, c0, blk_far hb hne u, hg, hr0⟩
theorem cellS103_0 {W : World} {g : Nat} {A0 : Option Addr} {c0 : Nat} {f0 : List Int} {f1 : Int} {f2 : Int} (h : W.heap[g]? = some (.cells #[.slice A0 f0.length c0, .int .i64 f1, .int .u64 f2] 103 (0, 0))) : W.cell? ⟨g, 0, none⟩ = some (.slice A0 f0.length c0) := (blk_cell h 0).trans rfl
theorem cellS103_1 {W : World} {g : Nat} {A0 : Option Addr} {c0 : Nat} {f0 : List Int} {f1 : Int} {f2 : Int} (h : W.heap[g]? = some (.cells #[.slice A0 f0.length c0, .int .i64 f1, .int .u64 f2] 103 (0, 0))) : W.cell? ⟨g, 1, none⟩ = some (.int .i64 f1) := (blk_cell h 1).trans rfl
theorem IsS103.set_1 {w0 W : World} {g : Nat} {f0 : List Int} {f1 : Int} {f2 : Int} (h : IsS103 w0 W g f0 f1 f2) (x : Int) : IsS103 w0 (W.setCell ⟨g, 1, none⟩ (.int .i64 x)) g f0 x f2 := by
 obtain ⟨A0, c0, hb, hg, hr0⟩ := h
 exact ⟨A0, c0, by simpa using blk_set hb 1 (.int .i64 x), hg, hr0⟩
theorem cellS103_2 {W : World} {g : Nat} {A0 : Option Addr} {c0 : Nat} {f0 : List Int} {f1 : Int} {f2 : Int} (h : W.heap[g]? = some (.cells #[.slice A0 f0.length c0, .int .i64 f1, .int .u64 f2] 103 (0, 0))) : W.cell? ⟨g, 2, none⟩ = some (.int .u64 f2) := (blk_cell h 2).trans rfl
theorem IsS103.set_2 {w0 W : World} {g : Nat} {f0 : List Int} {f1 : Int} {f2 : Int} (h : IsS103 w0 W g f0 f1 f2) (x : Int) : IsS103 w0 (W.setCell ⟨g, 2, none⟩ (.int .u64 x)) g f0 f1 x := by
 obtain ⟨A0, c0, hb, hg, hr0⟩ := h
 exact ⟨A0, c0, by simpa using blk_set hb 2 (.int .u64 x), hg, hr0⟩
theorem IsS103.new (w0 W : World) (A0 : Option Addr) (c0 : Nat) (f0 : List Int) (f1 : Int) (f2 : Int) (hB : Below w0.heap.size w0 W) (hr0 : Kd.C (Kd.int .u8) w0 A0 f0.length f0) : IsS103 w0 (W.alloc (.cells #[.slice A0 f0.length c0, .int .i64 f1, .int .u64 f2] 103)) W.heap.size f0 f1 f2 := ⟨A0, c0, by simpa using heap_alloc_new W _, hB.size, hr0⟩

/-! ### spec_l00From: function 37 -/
theorem mvIIsS103 {p q : Prop} (h : p) (hm : p → q := by intro h_; repeat (first | (with_reducible first | exact h_ | apply IsS103.alloc | apply IsS103.drewN | apply IsS103.drew | apply IsS103.set_1 | apply IsS103.set_2) | exact h_)) : q := hm h
theorem mvJIsS103 {p q i : Prop} (h : p) (hi : i) (hm : i → p → q := by intro hi_ h_; repeat (first | (with_reducible first | exact h_ | apply below_alloc | apply pw_below_drewN | apply below_drew1 | refine below_set ?_ (IsS103.ge hi_)) | exact h_)) : q := hm hi h
def spec_l00From.f (l0 : List Int) : Option (List Int × Int × Int) := some (l0, 0, 0)
set_option maxHeartbeats 8000000 in
set_option maxRecDepth 100000 in
theorem spec_l00From.calls (A0 : Option Addr) (c0 : Nat) (l0 : List Int) (r1 : List Int) (r2 : Int) (r3 : Int) (w0 w : World) (hB : Below w0.heap.size w0 w) (hr0 : Kd.C (Kd.int .u8) w0 A0 l0.length l0) (hc0 : l0.length ≤ c0) (h : spec_l00From.f l0 = some (r1, r2, r3)) :
  Calls Try.prog 37 #[.slice A0 l0.length c0] w fun e w' => ∃ g_ : Nat, e = .returned (.pointer (some ⟨g_, 0, none⟩)) ∧ IsS103 w0 w' g_ r1 r2 r3 ∧ Below w0.heap.size w0 w' ∧ Below w.heap.size w w' := by
 have hu103 := Try.underlying103
 have HR0 := Aside0.mk hr0
 have HC0 := Aside0.mk hc0
 clear hr0 hc0
 have HBW := Aside0.mk (Below.refl w.heap.size w)
 have HW0 := Aside0.mk hB.size
 have HB := Aside0.mk hB
 clear hB
 have H : (some (l0, 0, 0)) = some (r1, r2, r3) := h
 clear h
 simp only [Option.some.injEq, Prod.mk.injEq] at H
 obtain ⟨rfl, rfl, rfl⟩ := H
 go_enter Try.func37, Try.ntmps37
 go_wp2_with (first | ((with_reducible refine gate_dst (N := 5) rfl ?_); refine box_event ?hg (N := 5) ?hd (cs := #[.slice A0 l0.length c0, .int .i64 0, .int .u64 0]) (t := 103) ?hr ?_; (case hd => rfl); (case hg => rfl); (case hr => first | (go_simp; done) | (go_simp; rfl)); intro gb160 hg w2 hbox hb; have n0_ := Aside0.mk (below_step HBW.out hb); have n1_ := Aside0.mk (below_step (mvB HB.out) hb); have n2_ := Aside0.mk (hbox); have n3_ := Aside0.mk ((by rw [hg]; exact (below_size (mvB HBW.out)) : w.heap.size ≤ gb160)); have n4_ := Aside0.mk ((Nat.le_trans HW0.out (by rw [hg]; exact (below_size (mvB HBW.out)) : w.heap.size ≤ gb160) : w0.heap.size ≤ gb160)); clear HBW HB; revert n0_ n1_ n2_ n3_ n4_; intro HBW HB BK160 GW160 GE160; clear hb hbox hg))
 go_ret
 exact ⟨_, rfl, (show IsS103 w0 _ gb160 l0 0 0 from ⟨_, _, mv BK160.out, GE160.out, HR0.out⟩), by repeat (first | (with_reducible first | exact HB.out | apply below_alloc | apply pw_below_drewN | apply below_drew1 | refine below_set ?_ GE160.out) | exact HB.out), by repeat (first | (with_reducible first | exact HBW.out | apply below_alloc | apply pw_below_drewN | apply below_drew1 | refine below_set ?_ GW160.out) | exact HBW.out)⟩

end Go.Proofs.Ytmbiapefigcgnaa.PFnStages
