/- Arguments opened: what a reading says of the cells, kind by kind. -/
import Derived.Test.YtlkimpjcgcacdaaGreatDoorWMore
import Derived.Deep.Slices
import Derived.Deep.Fields
import Derived.ChangeSame
import Derived.OpenShut
namespace Go.Proofs.YtlkimpjcgcacdaaGreatDoorW.Open
open Go.RowKit Go.Proofs.YtlkimpjcgcacdaaGreatDoorW.PrintWords Go.Proofs.YtlkimpjcgcacdaaGreatDoorW.PrintLast Go.Proofs.YtlkimpjcgcacdaaGreatDoorW.PrintMore Go.ChangeShapes Go.WideShapes Go.Deep

/-- Every reading of cells at a type says that they are those of a value of this kind, of which 'W' holds. -/
def Opens (P : Program) (t : TypeId) {α : Type} (d : Kd α) (W : α → Prop) : Prop :=
  ∀ {H : Type} (enc : TypeId × Value → H) (w : World) (spare : Nat → Bool) (held : Bool) (fuel : Nat) (cs : List Value) (y : DataW H × List MemPlace),
    DataW.trod enc P w 0 spare held fuel t cs = some y → ∃ x, d.K w x cs ∧ W x
def OpensF (P : Program) (tot : Nat) (fs : List Field) (o : Nat) {α : Type} (d : Kd α) (W : α → Prop) : Prop :=
  ∀ {H : Type} (enc : TypeId × Value → H) (w : World) (spare : Nat → Bool) (held : Bool) (cs : List Value), cs.length = tot →
    (∀ (j : Nat) (f : Field), fs[j]? = some f → ∃ n y, DataW.trod enc P w 0 spare held n f.type ((cs.drop f.offset).take (P.cellsOf f.type)) = some y) → ∃ x, d.K w x (cs.drop o) ∧ W x

section
variable {P : Program} {t e : TypeId} {α β : Type} {d : Kd α} {W : α → Prop}
theorem Opens.int {k : IntKind} (h : P.underlying t = some (.int k)) : Opens P t (Kd.int k) (fun n => (Lit.int k n).wf = true) := by
  intro H enc w spare held fuel cs y hy
  obtain ⟨n, rfl, _, hw⟩ := DataW.trod_int h hy
  exact ⟨n, rfl, hw⟩
theorem Opens.bool (h : P.underlying t = some .bool) : Opens P t Kd.bool (fun _ => True) := by
  intro H enc w spare held fuel cs y hy
  obtain ⟨b, rfl, _⟩ := DataW.trod_bool h hy
  exact ⟨b, rfl, trivial⟩
theorem Opens.string (h : P.underlying t = some .string) : Opens P t Kd.string (fun s => s.size ≤ maxLen) := by
  intro H enc w spare held fuel cs y hy
  obtain ⟨b, rfl, _, hs⟩ := DataW.trod_string h hy
  exact ⟨b, rfl, hs⟩
theorem OpensF.one {tot o : Nat} {f : Field} (ho : f.offset = o) (ht : o + P.cellsOf f.type = tot) (h : Opens P f.type d W) : OpensF P tot [f] o d W := by
  intro H enc w spare held cs hl hf
  obtain ⟨n, y, hy⟩ := hf 0 f rfl
  obtain ⟨x, hx, hw⟩ := h enc w spare held n _ y hy
  rw [ho, List.take_of_length_le (by rw [List.length_drop]; omega)] at hx
  exact ⟨x, hx, hw⟩
theorem OpensF.cons {tot o s : Nat} {f : Field} {fs : List Field} {d2 : Kd β} {W2 : β → Prop} (ho : f.offset = o) (hs : P.cellsOf f.type = s) (h : Opens P f.type d W) (h2 : OpensF P tot fs (o + s) d2 W2) :
    OpensF P tot (f :: fs) o (Kd.pair d d2) (fun x => W x.1 ∧ W2 x.2) := by
  intro H enc w spare held cs hl hf
  obtain ⟨n, y, hy⟩ := hf 0 f rfl
  obtain ⟨x, hx, hw⟩ := h enc w spare held n _ y hy
  obtain ⟨x2, hx2, hw2⟩ := h2 enc w spare held cs hl (fun j g hg => hf (j + 1) g hg)
  rw [ho, hs] at hx
  refine ⟨(x, x2), ⟨_, _, ?_, hx, hx2⟩, hw, hw2⟩
  rw [← List.drop_drop, List.take_append_drop]
theorem Opens.struct {tot : Nat} {fs : Array Field} (h : P.underlying t = some (.struct fs)) (ht : P.cellsOf t = tot) (hf : OpensF P tot fs.toList 0 d W) : Opens P t d W := by
  intro H enc w spare held fuel cs y hy
  obtain ⟨xs, n, _, _, hl, hlen, hg⟩ := DataW.trod_struct h hy
  obtain ⟨x, hx, hw⟩ := hf enc w spare held cs (hl.trans ht) (fun j f hj => by
    have hj' : fs[j]? = some f := by simpa using hj
    have hlt : j < xs.length := by
      have := (Array.getElem?_eq_some_iff.1 hj').1
      omega
    exact ⟨n, xs[j], by rw [hg j f hj']; exact List.getElem?_eq_getElem hlt⟩)
  exact ⟨x, by simpa using hx, hw⟩
theorem Opens.iso (f : β → α) (g : α → β) (hfg : ∀ x, f (g x) = x) (h : Opens P t d W) : Opens P t (Kd.iso d f) (fun b => W (f b)) := by
  intro H enc w spare held fuel cs y hy
  obtain ⟨x, hx, hw⟩ := h enc w spare held fuel cs y hy
  exact ⟨g x, by show d.K w (f (g x)) cs; rw [hfg]; exact hx, by show W (f (g x)); rw [hfg]; exact hw⟩
theorem choose_list {Q : Nat → α → Prop} : ∀ (n : Nat), (∀ i, i < n → ∃ x, Q i x) → ∃ l : List α, l.length = n ∧ ∀ i x, l[i]? = some x → Q i x
  | 0, _ => ⟨[], rfl, fun i x h => by simp at h⟩
  | n + 1, h => by
    obtain ⟨l, hl, hq⟩ := choose_list n (fun i hi => h i (by omega))
    obtain ⟨x, hx⟩ := h n (by omega)
    refine ⟨l ++ [x], by simp [hl], fun i z hz => ?_⟩
    rcases Nat.lt_or_ge i l.length with g | g
    · rw [List.getElem?_append_left g] at hz; exact hq i z hz
    · rw [List.getElem?_append_right g] at hz
      have : i - l.length = 0 := by
        rcases Nat.eq_zero_or_pos (i - l.length) with e | e
        · exact e
        · rw [List.getElem?_eq_none (by rw [List.length_singleton]; exact e)] at hz; cases hz
      rw [this] at hz
      simp at hz
      subst hz
      have : i = n := by omega
      rw [this]
      exact hx
theorem Opens.slice (h : P.underlying t = some (.slice e)) (hs : P.cellsOf e = d.sz) (ho : Opens P e d W) : Opens P t (Kd.slice e d) (fun l => l.length ≤ maxLen ∧ ∀ x ∈ l, W x) := by
  intro H enc w spare held fuel cs y hy
  rcases open_slice h hy with ⟨rfl, _⟩ | ⟨a, len, cap, m, n, D, Pl, rfl, _, hl, hm, hmm, _, hi⟩
  · exact ⟨[], ⟨none, 0, rfl, Nat.le_refl _, rfl, Nat.zero_le _, fun h => absurd h (Nat.lt_irrefl 0)⟩, Nat.zero_le _, fun x hx => by cases hx⟩
  · have hlm : len ≤ m := by rw [hmm]; split <;> omega
    obtain ⟨l, hll, hq⟩ := choose_list (α := α) (Q := fun i x => W x ∧ ∃ c, c.length = d.sz ∧ d.K w x c ∧ ∀ j u, c[j]? = some u → w.cell? (a.add (i * d.sz + j)) = some u) len (fun i hi0 => by
      obtain ⟨cs', hc, ht'⟩ := hi i (by omega)
      obtain ⟨x, hx, hw⟩ := ho enc w spare held n cs' _ ht'
      obtain ⟨_, hcl, hat⟩ := World.cells?_some hc
      refine ⟨x, hw, cs', by rw [hcl, hs], hx, fun j u hu => ?_⟩
      have hj : j < P.cellsOf e := by
        rw [← hcl]
        exact (List.getElem?_eq_some_iff.1 hu).1
      have := hat j hj
      rw [hs] at this
      rw [← Go.Deep.add_add, this, hu])
    subst hll
    refine ⟨l, ⟨some a, cap, rfl, hl, rfl, by unfold maxLen at hm; omega, fun _ => ⟨a, rfl, fun j p hp => (hq j p hp).2⟩⟩, by omega, fun x hx => ?_⟩
    obtain ⟨i, hi0, rfl⟩ := List.getElem_of_mem hx
    exact (hq i _ (List.getElem?_eq_getElem hi0)).1

/-- A slice that came in. -/
theorem Opens.arg_slice {H : Type} {enc : TypeId × Value → H} {w : World} {spare : Nat → Bool} {held : Bool} {a : Option Addr} {n c : Nat} {dd : DataW H} {p : List MemPlace} (ho : Opens P t (Kd.slice e d) (fun l => l.length ≤ maxLen ∧ ∀ x ∈ l, W x))
    (h : DataW.Trod enc P w 0 spare held t (.slice a n c) dd p) : ∃ l, n = l.length ∧ l.length ≤ c ∧ d.C w a l.length l ∧ l.length ≤ maxLen ∧ ∀ x ∈ l, W x := by
  obtain ⟨fuel, hf⟩ := h
  obtain ⟨l, ⟨A, c', h1, h2, h3⟩, h4, h5⟩ := ho enc w spare held fuel _ _ hf
  simp [Value.cells] at h1
  obtain ⟨rfl, rfl, rfl⟩ := h1
  exact ⟨l, rfl, h2, h3, h4, h5⟩
/-- A struct that came in. -/
theorem Opens.arg_agg {H : Type} {enc : TypeId × Value → H} {w : World} {spare : Nat → Bool} {held : Bool} {cs : Array Value} {dd : DataW H} {p : List MemPlace} (ho : Opens P t d W)
    (h : DataW.Trod enc P w 0 spare held t (.agg cs) dd p) : ∃ x, d.K w x cs.toList ∧ W x := by
  obtain ⟨fuel, hf⟩ := h
  exact ho enc w spare held fuel _ _ hf
end
end Go.Proofs.YtlkimpjcgcacdaaGreatDoorW.Open
