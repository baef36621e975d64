/- Plain laws on reading arguments: what is read as data at a type of whole numbers, bools, strings, structs and slices of these is of the print's own kind. -/
import Derived.ChangeArms
import Derived.Lib.SmallJoins
import Derived.Test.YtajnladoomkgaaaWWords
namespace Go.Proofs.Ytajnladoomkgaaa.Open
open Go.Proofs.YtajnladoomkgaaaW.PrintWords
/-- Whatever reads as data at type t is of kind d; g: what is known of it. -/
structure Opens (P : Program) (t : TypeId) {α : Type} (d : Kd α) (g : α → Prop) : Prop where
  size : P.cellsOf t = d.sz
  get : ∀ {H : Type} {enc : TypeId × Value → H} {w : World} {base : Nat} {spare : Nat → Bool} {held : Bool} {fuel : Nat} {cs : List Value} {x : DataW H × List MemPlace}, DataW.trod enc P w base spare held fuel t cs = some x → ∃ a : α, d.K w a cs ∧ g a
theorem Opens.int {P : Program} {t : TypeId} {k : IntKind} (ht : P.underlying t = some (.int k)) (hs : P.cellsOf t = 1) : Opens P t (Kd.int k) (fun n => (Lit.int k n).wf = true) where
  size := hs
  get := fun h => by
    obtain ⟨n, rfl, _, hw⟩ := DataW.trod_int ht h
    exact ⟨n, rfl, hw⟩
theorem Opens.bool {P : Program} {t : TypeId} (ht : P.underlying t = some .bool) (hs : P.cellsOf t = 1) : Opens P t Kd.bool (fun _ => True) where
  size := hs
  get := fun h => by
    obtain ⟨n, rfl, _⟩ := DataW.trod_bool ht h
    exact ⟨n, rfl, trivial⟩
theorem Opens.string {P : Program} {t : TypeId} (ht : P.underlying t = some .string) (hs : P.cellsOf t = 1) : Opens P t Kd.string (fun s => s.size ≤ maxLen) where
  size := hs
  get := fun h => by
    obtain ⟨n, rfl, _, hw⟩ := DataW.trod_string ht h
    exact ⟨n, rfl, hw⟩
theorem cells_at {w : World} {base : Nat} {a : Addr} {n : Nat} {cs : List Value} (h : w.cells? base a n = some cs) : cs.length = n ∧ ∀ (i : Nat) (u : Value), cs[i]? = some u → w.cell? (a.add i) = some u := by
  obtain ⟨_, hl, hc⟩ := World.cells?_some h
  exact ⟨hl, fun i u hu => by
    have hi : i < n := by rw [← hl]; exact (List.getElem?_eq_some_iff.1 hu).1
    rw [hc i hi, hu]⟩
theorem choose_list {α : Type} {n : Nat} {R : Nat → α → Prop} : (∀ i, i < n → ∃ a, R i a) → ∃ l : List α, l.length = n ∧ ∀ i a, l[i]? = some a → R i a := by
  induction n with
  | zero => intro _; exact ⟨[], rfl, fun i a h => by simp at h⟩
  | succ n ih =>
    intro h
    obtain ⟨l, hl, hr⟩ := ih (fun i hi => h i (by omega))
    obtain ⟨a, ha⟩ := h n (by omega)
    refine ⟨l ++ [a], by simp [hl], fun i b hb => ?_⟩
    by_cases hi : i < l.length
    · rw [List.getElem?_append_left hi] at hb; exact hr i b hb
    · rw [List.getElem?_append_right (by omega)] at hb
      have : i - l.length = 0 := by
        by_cases h0 : i - l.length = 0
        · exact h0
        · rw [List.getElem?_eq_none (by simp; omega)] at hb; cases hb
      rw [this] at hb
      simp at hb
      have e : i = n := by omega
      subst e; subst hb; exact ha
theorem Opens.slice {P : Program} {t e : TypeId} {α : Type} {d : Kd α} {g : α → Prop} (ht : P.underlying t = some (.slice e)) (hs : P.cellsOf t = 1) (he : Opens P e d g) : Opens P t (Kd.slice e d) (fun l => l.length ≤ maxLen ∧ ∀ x ∈ l, g x) where
  size := hs
  get := fun {H enc w base spare held fuel cs x} h => by
    rcases DataW.trod_slice ht h with ⟨rfl, _⟩ | ⟨a, len, cap, elems, rest, n, _, rfl, _, hb, hl, hc, hel, hget, _, _⟩
    · exact ⟨[], ⟨none, 0, rfl, Nat.le_refl _, ⟨rfl, by simp, fun h => by simp at h⟩⟩, by simp, by simp⟩
    · have hx : ∀ i, i < len → ∃ y : α, (∃ c, c.length = d.sz ∧ d.K w y c ∧ ∀ (j : Nat) (u : Value), c[j]? = some u → w.cell? (a.add (i * d.sz + j)) = some u) ∧ g y := by
        intro i hi
        have h1 := hget i hi
        rw [List.getElem?_eq_getElem (by omega)] at h1
        obtain ⟨c, hc1, hc2⟩ := Option.bind_eq_some_iff.1 h1
        obtain ⟨y, hy, hg⟩ := he.get hc2
        rw [he.size] at hc1
        obtain ⟨hcl, hcc⟩ := cells_at hc1
        refine ⟨y, ⟨c, hcl, hy, fun j u hj => ?_⟩, hg⟩
        have := hcc j u hj
        rwa [Go.Proofs.YtajnladoomkgaaaW.PrintWords.add_add] at this
      obtain ⟨l, hll, hR⟩ := choose_list hx
      refine ⟨l, ⟨some a, cap, by rw [hll], by omega, ⟨rfl, by simp only [maxLen] at hc; omega, fun _ => ⟨a, rfl, fun j p hp => (hR j p hp).1⟩⟩⟩, by simp only [maxLen] at *; omega, fun y hy => ?_⟩
      obtain ⟨i, hi⟩ := List.getElem?_of_mem hy
      exact (hR i y hi).2
/-- Fields one behind the other, from a place on. -/
structure OpensL (P : Program) (fs : List Field) (off : Nat) {α : Type} (d : Kd α) (g : α → Prop) : Prop where
  get : ∀ {H : Type} {enc : TypeId × Value → H} {w : World} {base : Nat} {spare : Nat → Bool} {held : Bool} {fuel : Nat} {cs : List Value}, cs.length = off + d.sz → (∀ f ∈ fs, ∃ x, DataW.trod enc P w base spare held fuel f.type ((cs.drop f.offset).take (P.cellsOf f.type)) = some x) → ∃ a : α, d.K w a (cs.drop off) ∧ g a
theorem OpensL.one {P : Program} {f : Field} {off : Nat} {α : Type} {d : Kd α} {g : α → Prop} (ho : f.offset = off) (h : Opens P f.type d g) : OpensL P [f] off d g where
  get := fun {H enc w base spare held fuel cs} hl hf => by
    obtain ⟨x, hx⟩ := hf f List.mem_cons_self
    obtain ⟨a, ha, hg⟩ := h.get hx
    rw [ho, h.size, List.take_of_length_le (by simp; omega)] at ha
    exact ⟨a, ha, hg⟩
theorem OpensL.cons {P : Program} {f : Field} {fs : List Field} {off : Nat} {α β : Type} {d : Kd α} {d2 : Kd β} {g : α → Prop} {g2 : β → Prop} (ho : f.offset = off) (h : Opens P f.type d g) (h2 : OpensL P fs (off + d.sz) d2 g2) : OpensL P (f :: fs) off (Kd.pair d d2) (fun x => g x.1 ∧ g2 x.2) where
  get := fun {H enc w base spare held fuel cs} hl hf => by
    obtain ⟨x, hx⟩ := hf f List.mem_cons_self
    obtain ⟨a, ha, hg⟩ := h.get hx
    have hp : (Kd.pair d d2).sz = d.sz + d2.sz := rfl
    rw [hp] at hl
    obtain ⟨b, hb, hg2⟩ := h2.get (cs := cs) (by omega) (fun q hq => hf q (List.mem_cons_of_mem _ hq))
    rw [ho, h.size] at ha
    refine ⟨(a, b), ⟨(cs.drop off).take d.sz, cs.drop (off + d.sz), ?_, ha, hb⟩, hg, hg2⟩
    rw [← List.drop_drop, List.take_append_drop]
theorem Opens.struct {P : Program} {t : TypeId} {fs : Array Field} {α : Type} {d : Kd α} {g : α → Prop} (ht : P.underlying t = some (.struct fs)) (hs : P.cellsOf t = d.sz) (h : OpensL P fs.toList 0 d g) : Opens P t d g where
  size := hs
  get := fun {H enc w base spare held fuel cs x} hx => by
    obtain ⟨xs, n, _, _, hl, hxl, hget⟩ := DataW.trod_struct ht hx
    have := h.get (w := w) (cs := cs) (enc := enc) (base := base) (spare := spare) (held := held) (fuel := n) (by rw [hl, hs]; omega) (fun f hf => by
      obtain ⟨i, hi⟩ := List.getElem?_of_mem hf
      have h1 := hget i f (by simpa using hi)
      have hlt : i < xs.length := by
        have := (List.getElem?_eq_some_iff.1 hi).1
        rw [hxl]; simpa using this
      rw [List.getElem?_eq_getElem hlt] at h1
      exact ⟨_, h1⟩)
    simpa using this
theorem Opens.iso {P : Program} {t : TypeId} {α β : Type} {d : Kd α} {g : α → Prop} (f : β → α) (f' : α → β) (hf : ∀ x, f (f' x) = x) (h : Opens P t d g) : Opens P t (Kd.iso d f) (fun x => g (f x)) where
  size := h.size
  get := fun {H enc w base spare held fuel cs x} hx => by
    obtain ⟨a, ha, hg⟩ := h.get hx
    exact ⟨f' a, by show d.K _ (f (f' a)) _; rw [hf]; exact ha, by rw [hf]; exact hg⟩
theorem Opens.mono {P : Program} {t : TypeId} {α : Type} {d : Kd α} {g g' : α → Prop} (h : Opens P t d g) (hg : ∀ x, g x → g' x) : Opens P t d g' where
  size := h.size
  get := fun hx => by
    obtain ⟨a, ha, hga⟩ := h.get hx
    exact ⟨a, ha, hg a hga⟩
end Go.Proofs.Ytajnladoomkgaaa.Open
