/- A parameter of any plain kind (whole numbers, bools, strings, structs and slices of these, nested) is opened: what the row reads as data lies in memory as the kind says. Conditions: none of its own. -/
import Derived.Test.YtndbgkcjccejdaaVWords
import Derived.SizedLaws
import Derived.ChangeSlices
import Derived.ChangeArms
import Derived.Deep.Slices
set_option linter.unusedVariables false
namespace Go.Proofs.YtndbgkcjccejdaaW.KOpen
open Go.RowKit Go.Proofs.YtndbgkcjccejdaaW.PrintWords Go.ChangeShapes Go.WideShapes Go.Deep

/-- What is read at type t lies there as kind k says, and is as wf says. -/
def Opens {α : Type} (P : Program) (t : TypeId) (k : Kd α) (wf : α → Prop) : Prop :=
  ∀ (H : Type) (enc : TypeId × Value → H) (W : World) (base : Nat) (spare : Nat → Bool) (held : Bool) (fuel : Nat) (cs : List Value) (d : DataW H) (ps : List MemPlace),
    DataW.trod enc P W base spare held fuel t cs = some (d, ps) → (∀ n ∈ d.weights P t, n ≤ reachBytes) → ∃ x : α, k.K W x cs ∧ wf x

theorem opens_int {P : Program} {t : TypeId} {k : IntKind} (ht : P.underlying t = some (.int k)) : Opens P t (Kd.int k) (fun x => (Lit.int k x).wf = true) := by
  intro H enc W base spare held fuel cs d ps h _
  obtain ⟨n, rfl, _, hw⟩ := DataW.trod_int ht h
  exact ⟨n, rfl, hw⟩
theorem opens_bool {P : Program} {t : TypeId} (ht : P.underlying t = some .bool) : Opens P t Kd.bool (fun _ => True) := by
  intro H enc W base spare held fuel cs d ps h _
  obtain ⟨b, rfl, _⟩ := DataW.trod_bool ht h
  exact ⟨b, rfl, trivial⟩
theorem opens_string {P : Program} {t : TypeId} (ht : P.underlying t = some .string) : Opens P t Kd.string (fun x => x.size ≤ 140737488351232) := by
  intro H enc W base spare held fuel cs d ps h hw
  obtain ⟨s, rfl, hx, _⟩ := DataW.trod_string ht h
  obtain ⟨rfl, _⟩ := Prod.mk.inj hx
  refine ⟨s, rfl, ?_⟩
  have := hw s.data.toList.length (by simp [DataW.weights])
  rw [Array.length_toList] at this
  exact this
theorem weightsAll_mem {H : Type} {P : Program} {e : TypeId} : ∀ {l : List (DataW H)} {d : DataW H} {n : Nat}, d ∈ l → n ∈ d.weights P e → n ∈ DataW.weightsAll P e l
  | d0 :: l, d, n, hd, hn => by
    simp only [DataW.weightsAll, List.mem_append]
    rcases List.mem_cons.1 hd with rfl | hd
    · exact .inl hn
    · exact .inr (weightsAll_mem hd hn)
  | [], _, _, hd, _ => by simp at hd
theorem opens_slice {α : Type} {P : Program} {t e : TypeId} {k : Kd α} {wf : α → Prop} {B : Nat} (ht : P.underlying t = some (.slice e)) (he : Opens P e k wf) (hc : P.cellsOf e = k.sz) (hB : P.bytesOf e = B) :
    Opens P t (Kd.slice e k) (fun l => l.length ≤ maxLen ∧ l.length * B ≤ 140737488351232 ∧ ∀ x ∈ l, wf x) := by
  intro H enc W base spare held fuel cs d ps h hw
  rcases open_slice ht h with ⟨rfl, _⟩ | ⟨a, len, cap, m, n, D, Pl, rfl, _, hl, hm, hmm, hx, hi⟩
  · exact ⟨[], ⟨none, 0, rfl, Nat.le_refl _, Kd.C_nil k W⟩, by simp, by simp, by simp⟩
  · obtain ⟨rfl, _⟩ := Prod.mk.inj hx
    have hlm : len ≤ m := by rw [hmm]; split <;> omega
    have each : ∀ i, i < len → ∃ x : α, wf x ∧ ∃ c, c.length = k.sz ∧ k.K W x c ∧ ∀ j u, c[j]? = some u → W.cell? (a.add (i * k.sz + j)) = some u := by
      intro i hil
      obtain ⟨cs', hcs, ht'⟩ := hi i (by omega)
      obtain ⟨x, hK, hwf⟩ := he H enc W base spare held n cs' (D i) (Pl i) ht' (fun q hq => hw q (by
        simp only [DataW.weights, ht, List.mem_cons, List.mem_append]
        exact .inr (.inl (weightsAll_mem (List.mem_map.2 ⟨i, List.mem_range.2 hil, rfl⟩) hq))))
      obtain ⟨_, hlen, hat⟩ := World.cells?_some hcs
      refine ⟨x, hwf, cs', by rw [hlen, hc], hK, fun j u hu => ?_⟩
      have hj : j < P.cellsOf e := by rw [← hlen]; exact (List.getElem?_eq_some_iff.1 hu).1
      have := hat j hj
      rw [← Go.Deep.add_add, ← hc, this, hu]
    have hrow := hw _ (by simp only [DataW.weights, ht]; exact List.mem_cons_self)
    rw [hB] at hrow
    obtain ⟨l, hlen, hlx⟩ : ∃ l : List α, l.length = len ∧ ∀ i (h : i < l.length), wf l[i] ∧ ∃ c, c.length = k.sz ∧ k.K W l[i] c ∧ ∀ j u, c[j]? = some u → W.cell? (a.add (i * k.sz + j)) = some u := by
      clear hw hrow h hmm hi
      have : ∀ m', m' ≤ len → ∃ l : List α, l.length = m' ∧ ∀ i (h : i < l.length), wf l[i] ∧ ∃ c, c.length = k.sz ∧ k.K W l[i] c ∧ ∀ j u, c[j]? = some u → W.cell? (a.add (i * k.sz + j)) = some u := by
        intro m' hm'
        induction m' with
        | zero => exact ⟨[], rfl, fun i h => absurd h (Nat.not_lt_zero _)⟩
        | succ m' ih =>
          obtain ⟨l, hl1, hl2⟩ := ih (by omega)
          obtain ⟨x, hx1, hx2⟩ := each m' (by omega)
          refine ⟨l ++ [x], by simp [hl1], fun i hi => ?_⟩
          rcases Nat.lt_or_ge i l.length with h' | h'
          · rw [List.getElem_append_left h']; exact hl2 i h'
          · have : i = l.length := by simp at hi; omega
            subst this
            rw [List.getElem_concat_length (by rfl)]
            exact ⟨hx1, by rw [hl1]; exact hx2⟩
      exact this len (Nat.le_refl _)
    subst hlen
    refine ⟨l, ⟨some a, cap, rfl, hl, rfl, by have : maxLen = 9223372036854775807 := rfl; omega, fun hp => ⟨a, rfl, fun j p hj => ?_⟩⟩, by omega, ?_, ?_⟩
    · obtain ⟨hj1, rfl⟩ := List.getElem?_eq_some_iff.1 hj
      exact (hlx j hj1).2
    · simp only [List.length_map, List.length_range] at hrow
      exact Nat.le_trans (Nat.mul_le_mul_right _ (by omega)) hrow
    · intro x hx
      obtain ⟨i, hi', rfl⟩ := List.getElem_of_mem hx
      exact (hlx i hi').1

/-- The fields from the one at cell off on. -/
def OpensF {α : Type} (P : Program) (fs : List Field) (off total : Nat) (k : Kd α) (wf : α → Prop) : Prop :=
  off + k.sz = total ∧ ∀ (H : Type) (enc : TypeId × Value → H) (W : World) (base : Nat) (spare : Nat → Bool) (held : Bool) (fuel : Nat) (cs : List Value) (xs : List (DataW H × List MemPlace)),
    cs.length = total → xs.length = fs.length → (∀ (i : Nat) (f : Field), fs[i]? = some f → DataW.trod enc P W base spare held fuel f.type ((cs.drop f.offset).take (P.cellsOf f.type)) = xs[i]?) →
    (∀ n ∈ DataW.weightsEach P (fs.map (·.type)) (xs.map (·.1)), n ≤ reachBytes) → ∃ x : α, k.K W x (cs.drop off) ∧ wf x
theorem opensF_last {α : Type} {P : Program} {f : Field} {off total : Nat} {k : Kd α} {wf : α → Prop} (h : Opens P f.type k wf) (ho : f.offset = off) (hc : P.cellsOf f.type = k.sz) (ht : off + k.sz = total) : OpensF P [f] off total k wf := by
  refine ⟨ht, fun H enc W base spare held fuel cs xs hcs hxs hf hw => ?_⟩
  match xs, hxs with
  | [x], _ =>
    have h1 := hf 0 f rfl
    rw [ho, hc] at h1
    have hk : (cs.drop off).take k.sz = cs.drop off := List.take_of_length_le (by rw [List.length_drop]; omega)
    rw [hk] at h1
    exact h H enc W base spare held fuel _ x.1 x.2 h1 (fun n hn => hw n (by simp only [List.map_cons, List.map_nil, DataW.weightsEach, List.mem_append]; exact .inl hn))
theorem opensF_cons {α β : Type} {P : Program} {f : Field} {fs : List Field} {off total : Nat} {a : Kd α} {b : Kd β} {wa : α → Prop} {wb : β → Prop} (h : Opens P f.type a wa) (ho : f.offset = off) (hc : P.cellsOf f.type = a.sz) (hr : OpensF P fs (off + a.sz) total b wb) :
    OpensF P (f :: fs) off total (Kd.pair a b) (fun x => wa x.1 ∧ wb x.2) := by
  obtain ⟨ht, hr⟩ := hr
  refine ⟨by show off + (a.sz + b.sz) = total; omega, fun H enc W base spare held fuel cs xs hcs hxs hf hw => ?_⟩
  match xs, hxs with
  | x :: xs, hxs =>
    have h1 := hf 0 f rfl
    rw [ho, hc] at h1
    obtain ⟨u, hu, hwu⟩ := h H enc W base spare held fuel _ x.1 x.2 h1 (fun n hn => hw n (by simp only [List.map_cons, DataW.weightsEach, List.mem_append]; exact .inl hn))
    obtain ⟨v, hv, hwv⟩ := hr H enc W base spare held fuel cs xs hcs (by simpa using hxs) (fun i f' hf' => by have := hf (i + 1) f' (by simpa using hf'); simpa using this) (fun n hn => hw n (by simp only [List.map_cons, DataW.weightsEach, List.mem_append]; exact .inr hn))
    refine ⟨(u, v), ⟨(cs.drop off).take a.sz, cs.drop (off + a.sz), ?_, hu, hv⟩, hwu, hwv⟩
    rw [← List.drop_drop]
    exact (List.take_append_drop _ _).symm
theorem opens_struct {α β : Type} {P : Program} {t : TypeId} {fs : Array Field} {k : Kd α} {wf : α → Prop} (g : β → α) (gi : α → β) (hg : ∀ x, g (gi x) = x) (ht : P.underlying t = some (.struct fs)) (hc : P.cellsOf t = k.sz) (h : OpensF P fs.toList 0 k.sz k wf) :
    Opens P t (Kd.iso k g) (fun x => wf (g x)) := by
  intro H enc W base spare held fuel cs d ps htr hw
  obtain ⟨xs, n, _, hx, hcl, hxl, hf⟩ := DataW.trod_struct ht htr
  obtain ⟨rfl, _⟩ := Prod.mk.inj hx
  obtain ⟨x, hK, hwf⟩ := h.2 H enc W base spare held n cs xs (by rw [hcl, hc]) (by rw [hxl, Array.length_toList]) (fun i f hi => hf i f (by simpa using hi)) (fun m hm => hw m (by simp only [DataW.weights, ht]; exact hm))
  exact ⟨gi x, by show k.K W (g (gi x)) cs; rw [hg]; exact hK, by show wf (g (gi x)); rw [hg]; exact hwf⟩
/-- A parameter of the row. -/
theorem Opens.at_ {α : Type} {P : Program} {t : TypeId} {k : Kd α} {wf : α → Prop} (h : Opens P t k wf) {H : Type} {enc : TypeId × Value → H} {W : World} {base : Nat} {spare : Nat → Bool} {held : Bool} {v : Value} {d : DataW H} {ps : List MemPlace} (hd : DataW.Trod enc P W base spare held t v d ps)
    {ts : List TypeId} {ds : List (DataW H)} {j : Nat} (hsz : (DataW.weightsEach P ts ds).all (· ≤ reachBytes) = true) (hj : ts[j]? = some t) (hdj : ds[j]? = some d) : ∃ x : α, k.K W x v.cells.toList ∧ wf x := by
  obtain ⟨fuel, hf⟩ := hd
  exact h H enc W base spare held fuel _ d ps hf (fun n hn => by
    have := List.all_eq_true.1 hsz _ (DataW.weights_mem_each hj hdj n hn)
    simpa using this)
/-- A parameter that is a slice. -/
theorem slice_K {α : Type} {k : Kd α} {e : TypeId} {W : World} {l : List α} {A : Option Addr} {n c : Nat} (h : (Kd.slice e k).K W l (Value.slice A n c).cells.toList) : n = l.length ∧ l.length ≤ c ∧ k.C W A l.length l := by
  obtain ⟨A', c', hv, hl, hC⟩ := h
  simp only [Value.cells, List.cons.injEq, and_true] at hv
  injection hv with h1 h2 h3
  subst h1 h2 h3
  exact ⟨rfl, hl, hC⟩
end Go.Proofs.YtndbgkcjccejdaaW.KOpen
