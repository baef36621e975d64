/- The document's net: what it does to its messages and its links. -/
import Derived.Test.YtnaefndclalepaaRef
import Derived.Test.YtnaefndclalepaaTwo
namespace Go.Proofs.Ytnaefndclalepaa.Net
set_option linter.unusedVariables false
set_option linter.unusedSimpArgs false
open Go.RowKit Go.Shelf Go.Proofs.YtnaefndclalepaaW.PrintWords Go.Proofs.YtnaefndclalepaaW.PrintLast Go.Proofs.YtnaefndclalepaaW.PrintMore Go.Proofs.Ytnaefndclalepaa.XN
theorem F_came2 {w W : World} {A : Option Addr} {m : Nat} {l : List Int} (hC : Kd.C (Kd.int .u8) w A m l) (hB : Below w.heap.size w W) : Kd.F (Kd.int .u8) W (fun k => k < w.heap.size) A m l :=
  fun W' hW => (Kd.heap_int .u8).C (fun k hk => (hW k hk (Nat.lt_of_lt_of_le hk hB.size)).trans (hB.block k hk)) hC
/-! ### a row made since w -/
def Fresh {α : Type} (d : Kd α) (e : Nat) (w W : World) (okp : Nat → Prop) (v : Value) (xs : List α) : Prop :=
  Kd.N d e W w.heap.size (fun k => okp k ∨ w.heap.size ≤ k) v xs ∧ Below w.heap.size w W
section
variable {α : Type} {d : Kd α} {e : Nat} {w W W' : World} {okp okq : Nat → Prop} {v : Value} {xs : List α} {P : Program} {ops : Array Oper} {Q : Exit → Act → World → Prop} {Kc : Act → World → Prop} {rest : List Oper} {o : Oper} {a : Act}
theorem Fresh.past (h : Fresh d e w W okp v xs) (hb : Below W.heap.size W W') : Fresh d e w W' okp v xs := ⟨Kd.N_below h.1 hb, below_then h.2 h.2.size hb⟩
theorem Fresh.mono (h : Fresh d e w W okp v xs) (hq : ∀ k, okp k → okq k) : Fresh d e w W okq v xs := ⟨Kd.N_mono h.1 (fun k hk => hk.imp (hq k) id), h.2⟩
theorem Fresh.slice (h : Fresh d e w W okp v xs) : ∃ A c, v = .slice A xs.length c := Kd.N_slice h.1
theorem fresh_lit (d : Kd α) (e : Nat) (hgd : o.guard = none) {N' : Tmp} (hd : o.dst = some N') (hrun : (execOp a.eval o).run P W = .ok (.value (.slice (some ⟨W.heap.size, 0, none⟩) 0 0)) (W.alloc (.cells #[] e))) (HB : Below w.heap.size w W)
    (h : ∀ v1 w1, Fresh d e w w1 okp v1 [] → wpList P ops Q rest (a.put o.dst v1) w1) : wpList P ops Q (o :: rest) a W := by
  refine Kd.N_lit d (w0 := w) w.heap.size e hgd hd (xs := []) (inner := []) (ok := fun k => okp k ∨ w.heap.size ≤ k) (okp := fun _ => False) hrun (Reps.none _ _) (fun _ hk => hk.elim) (.inr HB.size) HB HB.size (by simp) ?_
  intro v1 w1 ho hb _ _
  exact h v1 w1 ⟨ho, hb⟩
theorem fresh_lit_step (d : Kd α) (e : Nat) (hw : Region.wanted o (yielded ops a.tmps) = true) {N' : Tmp} (hd : o.dst = some N') (hrun : (execOp a.eval o).run P W = .ok (.value (.slice (some ⟨W.heap.size, 0, none⟩) 0 0)) (W.alloc (.cells #[] e))) (HB : Below w.heap.size w W)
    (h : ∀ v1 w1, Fresh d e w w1 okp v1 [] → Below W.heap.size W w1 → (∀ k, v1.ownBlock = some k → W.heap.size ≤ k) → Kc (a.put o.dst v1) w1) : if Region.wanted o (yielded ops a.tmps) = true then Oper.wp P o a W Kc Q else Kc (a.put o.dst undef) W := by
  refine Kd.N_lit_step d (w0 := W) W.heap.size e hw hd (xs := []) (inner := []) (ok := fun k => W.heap.size ≤ k) (okp := fun _ => False) hrun (Reps.none _ _) (fun _ hk => hk.elim) (Nat.le_refl _) (Below.refl _ _) (Nat.le_refl _) (by simp) ?_
  intro v1 w1 ho hb _ _
  exact h v1 w1 ⟨Kd.N_mono (Kd.N_lower ho HB.size) (fun k hk => .inr (Nat.le_trans HB.size hk)), below_then HB HB.size hb⟩ hb (Kd.N_base ho)
/-- append of a row that lay there before. -/
theorem fresh_rows (h0 : Fresh d e w W okp v xs) (hgd : o.guard = none) (s x : Operand) (t : TypeId) (z : Value) (bytes : Nat) (ho : o.op = .call { callee := .builtin .append, args := #[s, x], argTypes := #[t, t] })
    (ht : P.underlying t = some (.slice e)) (hinfo : (P.info? e).map (fun i => (i.zero, i.size, i.bytes)) = some (some z, d.sz, bytes)) (hz : z.cells.size = d.sz) (hs0 : 0 < d.sz) (hb0 : 0 < bytes) {A : Option Addr} {m c : Nat} {ys : List α} (hs : a.eval s = v) (hx : a.eval x = .slice A m c)
    (hR : Kd.F d w okp A m ys) (hok : ∀ k, okp k → k < w.heap.size) (hl : (xs.length + m) * bytes ≤ 140737488355328)
    (h : ∀ v1 w1, Fresh d e w w1 okp v1 (xs ++ ys) → wpList P ops Q rest (a.put o.dst v1) w1) : wpList P ops Q (o :: rest) a W := by
  have hbase := Kd.N_base h0.1
  refine Kd.N_append_rows d (w0 := w) w.heap.size hgd s x t e z bytes ho ht hinfo hz hs0 hb0 v xs ys A m c (fun k => okp k ∨ w.heap.size ≤ k) okp hs hx h0.1 (Kd.F_below hR h0.2) (fun k hk => ⟨.inl hk, fun he => ?_⟩) (fun k hk => .inr (Nat.le_trans h0.2.size hk)) h0.2 h0.2.size hl ?_
  · have := hbase k he.symm
    have := hok k hk
    omega
  · intro v1 w1 hN hB _ _
    exact h v1 w1 ⟨hN, hB⟩
theorem fresh_rows_step (h0 : Fresh d e w W okp v xs) (hw : Region.wanted o (yielded ops a.tmps) = true) (s x : Operand) (t : TypeId) (z : Value) (bytes : Nat) (ho : o.op = .call { callee := .builtin .append, args := #[s, x], argTypes := #[t, t] })
    (ht : P.underlying t = some (.slice e)) (hinfo : (P.info? e).map (fun i => (i.zero, i.size, i.bytes)) = some (some z, d.sz, bytes)) (hz : z.cells.size = d.sz) (hs0 : 0 < d.sz) (hb0 : 0 < bytes) {A : Option Addr} {m c : Nat} {ys : List α} (okr : Nat → Prop) (hs : a.eval s = v) (hx : a.eval x = .slice A m c)
    (hR : Kd.F d W okr A m ys) (hok : ∀ k, okr k → (okp k ∨ w.heap.size ≤ k) ∧ some k ≠ v.ownBlock) (hl : (xs.length + m) * bytes ≤ 140737488355328)
    (h : ∀ v1 w1, Fresh d e w w1 okp v1 (xs ++ ys) → W.grownBy w1 v.ownBlock → (v1.ownBlock = v.ownBlock ∨ ∃ b, v1.ownBlock = some b ∧ W.heap.size ≤ b) → Kc (a.put o.dst v1) w1) : if Region.wanted o (yielded ops a.tmps) = true then Oper.wp P o a W Kc Q else Kc (a.put o.dst undef) W := by
  refine Kd.N_append_rows_step d (w0 := w) w.heap.size hw s x t e z bytes ho ht hinfo hz hs0 hb0 v xs ys A m c (fun k => okp k ∨ w.heap.size ≤ k) okr hs hx h0.1 hR hok (fun k hk => .inr (Nat.le_trans h0.2.size hk)) h0.2 h0.2.size hl ?_
  intro v1 w1 hN hB hg hat
  exact h v1 w1 ⟨hN, hB⟩ hg hat
/-- append of one element that was built just now. -/
theorem fresh_one (h0 : Fresh d e w W okp v xs) (hgd : o.guard = none) (s x : Operand) (t : TypeId) (z : Value) (bytes : Nat) (ho : o.op = .call { callee := .builtin .append, args := #[s, x], argTypes := #[t, t] })
    (ht : P.underlying t = some (.slice e)) (hinfo : (P.info? e).map (fun i => (i.zero, i.size, i.bytes)) = some (some z, d.sz, bytes)) (hz : z.cells.size = d.sz) (hs0 : 0 < d.sz) (hb0 : 0 < bytes) (y : α) (cs : List Value) (okr : Nat → Prop) (hs : a.eval s = v) {b : Nat} (hx : a.eval x = .slice (some ⟨b, 0, none⟩) 1 1) (hb : b = W.heap.size)
    (hp : Kd.FK d W okr y cs) (hok : ∀ k, okr k → (okp k ∨ w.heap.size ≤ k) ∧ some k ≠ v.ownBlock) (hl : (xs.length + 1) * bytes ≤ 140737488355328)
    (h : ∀ v1 w1, Fresh d e w w1 okp v1 (xs ++ [y]) → wpList P ops Q rest (a.put o.dst v1) w1) : wpList P ops Q (o :: rest) a (W.alloc (.cells cs.toArray e)) := by
  subst hb
  refine Kd.N_append d (w0 := w) w.heap.size hgd s x t e z bytes ho ht hinfo hz hs0 hb0 v xs y cs (fun k => okp k ∨ w.heap.size ≤ k) okr hs hx hp hok (fun k hk => .inr (Nat.le_trans h0.2.size hk)) h0.1 h0.2 h0.2.size hl ?_
  intro v1 w1 hN hB _ _
  exact h v1 w1 ⟨hN, hB⟩
theorem fresh_one2 (h0 : Fresh d e w W okp v xs) (hgd : o.guard = none) (s x : Operand) (t : TypeId) (z : Value) (bytes : Nat) (ho : o.op = .call { callee := .builtin .append, args := #[s, x], argTypes := #[t, t] })
    (ht : P.underlying t = some (.slice e)) (hinfo : (P.info? e).map (fun i => (i.zero, i.size, i.bytes)) = some (some z, d.sz, bytes)) (hz : z.cells.size = d.sz) (hs0 : 0 < d.sz) (hb0 : 0 < bytes) (y : α) (cs : List Value) (okr : Nat → Prop) (hs : a.eval s = v) {b : Nat} (hx : a.eval x = .slice (some ⟨b, 0, none⟩) 1 1) (hb : b = W.heap.size)
    (hp : Kd.FK d W okr y cs) (hok : ∀ k, okr k → (okp k ∨ w.heap.size ≤ k) ∧ some k ≠ v.ownBlock) (hl : (xs.length + 1) * bytes ≤ 140737488355328)
    (h : ∀ v1 w1, Fresh d e w w1 okp v1 (xs ++ [y]) → W.grownBy w1 v.ownBlock → (v1.ownBlock = v.ownBlock ∨ ∃ b, v1.ownBlock = some b ∧ W.heap.size ≤ b) → wpList P ops Q rest (a.put o.dst v1) w1) : wpList P ops Q (o :: rest) a (W.alloc (.cells cs.toArray e)) := by
  subst hb
  refine Kd.N_append d (w0 := w) w.heap.size hgd s x t e z bytes ho ht hinfo hz hs0 hb0 v xs y cs (fun k => okp k ∨ w.heap.size ≤ k) okr hs hx hp hok (fun k hk => .inr (Nat.le_trans h0.2.size hk)) h0.1 h0.2 h0.2.size hl ?_
  intro v1 w1 hN hB hg hat
  exact h v1 w1 ⟨hN, hB⟩ hg hat
/-- One element, built just now, as a row that is read. -/
theorem one_F (d : Kd α) (e : Nat) (W : World) {okr : Nat → Prop} {y : α} {cs : List Value} (hp : Kd.FK d W okr y cs) (hlt : ∀ k, okr k → k < W.heap.size) (hcl : cs.length = d.sz) (hs : 0 < d.sz) :
    ∃ okE : Nat → Prop, Kd.F d (W.alloc (.cells cs.toArray e)) okE (some ⟨W.heap.size, 0, none⟩) 1 [y] ∧ (∀ k, okE k → k < (W.alloc (.cells cs.toArray e)).heap.size) ∧ ∀ k, okE k → okr k ∨ k = W.heap.size := by
  refine ⟨fun k => okr k ∨ k = W.heap.size, fun W' hW => ?_, fun k hk => by
    rcases hk with h | h
    · have := hlt k h; simp; omega
    · simp; omega, fun k hk => hk⟩
  have hb : W'.heap[W.heap.size]? = some (.cells cs.toArray e (0, 0)) := (hW _ (.inr rfl) (by simp)).trans (heap_alloc_new W _)
  refine ⟨rfl, by decide, fun _ => ⟨_, rfl, fun j p hj => ?_⟩⟩
  match j, hj with
  | 0, hj =>
    injection hj with hj
    subst hj
    refine ⟨cs, hcl, hp W' (fun k hk hl => (hW k (.inl hk) (by simp; omega)).trans (Below.heap_alloc W _ k hl)), fun i u hi => ?_⟩
    rw [Nat.zero_mul, Nat.zero_add, add_plain]
    exact (blk_cell hb i).trans (by simpa using hi)
  | j + 1, hj => simp at hj
theorem Fresh.V (h : Fresh d e w W okp v xs) : Kd.V d e W 0 (fun k => okp k ∨ w.heap.size ≤ k) v xs := by
  obtain ⟨A, c, rfl⟩ := h.slice
  exact ⟨A, c, rfl, (Kd.N_reads' h.1).2.1, Kd.N_F h.1⟩
end
theorem info33r : (Try.prog.info? 33).map (fun i => (i.zero, i.size, i.bytes)) = some (some (.agg #[.int .i64 0, .int .i64 0, .slice none 0 0]), 3, 40) := by kernel_rfl
theorem info80r : (Try.prog.info? 80).map (fun i => (i.zero, i.size, i.bytes)) = some (some (.agg #[.int .i64 0, .int .i64 0]), 2, 16) := by kernel_rfl
theorem info5r : (Try.prog.info? 5).map (fun i => (i.zero, i.size, i.bytes)) = some (some (.int .u8 0), 1, 1) := by kernel_rfl
section
variable {w W : World} {g : Nat} {fr : Nat → Prop} {m : RefS} {v : Value}
theorem set_size {W : World} {p : Addr} {u : Value} {k : Nat} (h : k < W.heap.size) : k < (W.setCell p u).heap.size := Nat.lt_of_lt_of_le h (Below.setCell (Below.refl 0 W) (p := p) (Nat.zero_le _) u).size
theorem IsRef.setBag (h : IsRef w g fr m) {l : List S33} (hF : Fresh k33 33 w W (fun k => fr k ∧ k ≠ g) v l) : IsRef (W.setCell ⟨g, 1, none⟩ v) g (fun k => (fr k ∨ w.heap.size ≤ k) ∧ k < W.heap.size) { m with Bag := l } ∧ Fr (fun k => k = g) w (W.setCell ⟨g, 1, none⟩ v) := by
  have hg := h.mine
  have hlt := h.lts g hg
  obtain ⟨vB, vC, hb, _, hlts, h1, h2⟩ := h.below hF.2
  refine ⟨⟨v, vC, blk_set hb 1 v, ⟨.inl hg, Nat.lt_of_lt_of_le hlt hF.2.size⟩, fun k hk => set_size hk.2, ?_, ?_⟩, ((Fr.of_below hF.2 (fun k => k = g)).setCell (fun _ => rfl) v)⟩
  · exact Kd.V_mono (Kd.V_far (Kd.V_mono (Kd.V_bound hF.V) (ok' := fun k => ((fr k ∨ w.heap.size ≤ k) ∧ k < W.heap.size) ∧ k ≠ g) (fun k hk => ⟨⟨hk.1.imp (fun h => h.1) id, hk.2⟩, fun e => by subst e; rcases hk.1 with h | h; exact h.2 rfl; omega⟩)) (fun k hk => hk.2) v) (fun k hk => hk)
  · exact Kd.V_mono (Kd.V_far (Kd.V_bound h2) (fun k hk => hk.1.2) v) (fun k hk => ⟨⟨.inl hk.1.1, hk.2⟩, hk.1.2⟩)
theorem IsRef.setCuts (h : IsRef w g fr m) {l : List (Int × Int)} (hF : Fresh k80 80 w W (fun k => fr k ∧ k ≠ g) v l) : IsRef (W.setCell ⟨g, 2, none⟩ v) g (fun k => (fr k ∨ w.heap.size ≤ k) ∧ k < W.heap.size) { m with Cuts := l } ∧ Fr (fun k => k = g) w (W.setCell ⟨g, 2, none⟩ v) := by
  have hg := h.mine
  have hlt := h.lts g hg
  obtain ⟨vB, vC, hb, _, hlts, h1, h2⟩ := h.below hF.2
  refine ⟨⟨vB, v, blk_set hb 2 v, ⟨.inl hg, Nat.lt_of_lt_of_le hlt hF.2.size⟩, fun k hk => set_size hk.2, ?_, ?_⟩, ((Fr.of_below hF.2 (fun k => k = g)).setCell (fun _ => rfl) v)⟩
  · exact Kd.V_mono (Kd.V_far (Kd.V_bound h1) (fun k hk => hk.1.2) v) (fun k hk => ⟨⟨.inl hk.1.1, hk.2⟩, hk.1.2⟩)
  · exact Kd.V_mono (Kd.V_far (Kd.V_mono (Kd.V_bound hF.V) (ok' := fun k => ((fr k ∨ w.heap.size ≤ k) ∧ k < W.heap.size) ∧ k ≠ g) (fun k hk => ⟨⟨hk.1.imp (fun h => h.1) id, hk.2⟩, fun e => by subst e; rcases hk.1 with h | h; exact h.2 rfl; omega⟩)) (fun k hk => hk.2) v) (fun k hk => hk)
end
theorem ref_blk {W : World} {g : Nat} {fr : Nat → Prop} {m : RefS} (h : IsRef W g fr m) {AB : Option Addr} {cB n : Nat} (hx : W.cell? ⟨g, 1, none⟩ = some (.slice AB n cB)) : ∃ AC cC, W.heap[g]? = some (.cells #[.int .i64 m.N, .slice AB n cB, .slice AC m.Cuts.length cC] 64 (0, 0)) := by
  obtain ⟨AB', cB', AC, cC, hb, _, _, hF, _⟩ := h.open_
  have h1 := (cells_at hb (j := 1) rfl).1
  rw [hx] at h1
  injection h1 with h1
  injection h1 with e1 e2 e3
  subst e1
  subst e2
  subst e3
  exact ⟨AC, cC, hb⟩
theorem ref_blk2 {W : World} {g : Nat} {fr : Nat → Prop} {m : RefS} (h : IsRef W g fr m) {AC : Option Addr} {cC n : Nat} (hx : W.cell? ⟨g, 2, none⟩ = some (.slice AC n cC)) : ∃ AB cB, W.heap[g]? = some (.cells #[.int .i64 m.N, .slice AB m.Bag.length cB, .slice AC n cC] 64 (0, 0)) := by
  obtain ⟨AB, cB, AC', cC', hb, _, _, hF, _⟩ := h.open_
  have h1 := (cells_at hb (j := 2) rfl).1
  rw [hx] at h1
  injection h1 with h1
  injection h1 with e1 e2 e3
  subst e1
  subst e2
  subst e3
  exact ⟨AB, cB, hb⟩
theorem bag_F {W : World} {g : Nat} {fr : Nat → Prop} {m : RefS} (h : IsRef W g fr m) {AB : Option Addr} {cB n : Nat} (hx : W.cell? ⟨g, 1, none⟩ = some (.slice AB n cB)) : Kd.F k33 W (fun k => fr k ∧ k ≠ g) AB m.Bag.length m.Bag := by
  obtain ⟨AB', cB', AC, cC, hb, _, _, hF, _⟩ := h.open_
  have h1 := (cells_at hb (j := 1) rfl).1
  rw [hx] at h1
  injection h1 with h1
  injection h1 with e1 e2 e3
  subst e1
  exact hF
theorem cuts_F {W : World} {g : Nat} {fr : Nat → Prop} {m : RefS} (h : IsRef W g fr m) {AC : Option Addr} {cC n : Nat} (hx : W.cell? ⟨g, 2, none⟩ = some (.slice AC n cC)) : Kd.F k80 W (fun k => fr k ∧ k ≠ g) AC m.Cuts.length m.Cuts := by
  obtain ⟨AB', cB', AC', cC', hb, _, _, _, hF⟩ := h.open_
  have h1 := (cells_at hb (j := 2) rfl).1
  rw [hx] at h1
  injection h1 with h1
  injection h1 with e1 e2 e3
  subst e1
  exact hF
/-- What a call of the document's net leaves. -/
def RefTo (w w' : World) (g : Nat) (fr : Nat → Prop) (m : RefS) : Prop := ∃ fr' : Nat → Prop, IsRef w' g fr' m ∧ (∀ k, fr' k → fr k ∨ w.heap.size ≤ k) ∧ Fr (fun k => k = g) w w'
theorem RefTo.same {w w' : World} {g : Nat} {fr : Nat → Prop} {m : RefS} (h : IsRef w g fr m) (hb : Below w.heap.size w w') : RefTo w w' g fr m := ⟨fr, h.below hb, fun k hk => .inl hk, Fr.of_below hb _⟩
theorem RefTo.bag {w W : World} {g : Nat} {fr : Nat → Prop} {m : RefS} {v : Value} {l : List S33} (h : IsRef w g fr m) (hF : Fresh k33 33 w W (fun k => fr k ∧ k ≠ g) v l) : RefTo w (W.setCell ⟨g, 1, none⟩ v) g fr { m with Bag := l } :=
  ⟨_, (h.setBag hF).1, fun k hk => hk.1, (h.setBag hF).2⟩
theorem RefTo.cuts {w W : World} {g : Nat} {fr : Nat → Prop} {m : RefS} {v : Value} {l : List (Int × Int)} (h : IsRef w g fr m) (hF : Fresh k80 80 w W (fun k => fr k ∧ k ≠ g) v l) : RefTo w (W.setCell ⟨g, 2, none⟩ v) g fr { m with Cuts := l } :=
  ⟨_, (h.setCuts hF).1, fun k hk => hk.1, (h.setCuts hF).2⟩
theorem RefTo.after {w w1 w2 : World} {g : Nat} {fr : Nat → Prop} {m : RefS} (h : RefTo w1 w2 g fr m) (hb : Below w.heap.size w w1) : RefTo w w2 g fr m := by
  obtain ⟨fr', h1, h2, h3⟩ := h
  exact ⟨fr', h1, fun k hk => (h2 k hk).imp id (Nat.le_trans hb.size), (Fr.of_below hb _).trans h3 (fun k hk _ => hk)⟩
theorem RefTo.drew {w W : World} {g : Nat} {fr : Nat → Prop} {m : RefS} (h : RefTo w W g fr m) : RefTo w W.drew g fr m := by
  obtain ⟨fr', h1, h2, h3⟩ := h
  exact ⟨fr', h1.drew, h2, h3.drew⟩
theorem RefTo.past {w W W' : World} {g : Nat} {fr : Nat → Prop} {m : RefS} (h : RefTo w W g fr m) (hb : Below W.heap.size W W') : RefTo w W' g fr m := by
  obtain ⟨fr', h1, h2, h3⟩ := h
  exact ⟨fr', h1.below hb, h2, h3.trans (Fr.of_below hb (fun _ => False)) (fun _ h _ => h.elim)⟩
set_option maxHeartbeats 4000000 in
set_option maxRecDepth 100000 in
theorem rout_c (m : RefS) (g : Nat) (fr : Nat → Prop) (w : World) (h : IsRef w g fr m) (i : Nat) (hi : i < m.Bag.length) (hl : m.Bag.length ≤ 1000000) : Calls Try.prog 50 #[.pointer (some ⟨g, 0, none⟩), .int .i64 i] w fun e w' => (∃ v, e = .returned v) ∧ RefTo w w' g fr { m with Bag := m.Bag.eraseIdx i } := by
  have HI := Aside0.mk h
  obtain ⟨AB, cB, AC, cC, x0, x1, x2, hcB, hcC, hFB, hFC⟩ := h.cells
  have HOK := Aside0.mk h.lts
  have HG := Aside0.mk h.mine
  have X1 := Aside0.mk x1
  have HGL := Aside0.mk (h.lts g h.mine)
  obtain ⟨_, _, _, _, hbk, _⟩ := h.open_
  have BK := Aside0.mk hbk
  clear h x0 x2 hFC hcC hbk
  have HFB := Aside0.mk hFB
  have HB := Aside0.mk (Below.refl w.heap.size w)
  obtain ⟨ad, _, _, rfl, _⟩ := at_33 (Kd.F_now hFB) 0 (by omega)
  clear hFB
  have hi0 : (0 : Int) ≤ (i : Int) := by omega
  have hi1 : (i : Int) ≤ (m.Bag.length : Int) := by omega
  have hi2 : (i : Int) + 1 ≤ (m.Bag.length : Int) := by omega
  have hq : wrap64 ((i : Int) + 1) = ((i + 1 : Nat) : Int) := by unfold wrap64; omega
  have hi3 : ((i + 1 : Nat) : Int) ≤ (m.Bag.length : Int) := by omega
  have hi4 : i + 1 ≤ m.Bag.length := by omega
  have hi5 : i ≤ m.Bag.length := by omega
  have hi6 : i ≤ cB := by omega
  have hi7 : i + 1 ≤ cB := by omega
  have HL1 := Aside0.mk (show (([] : List S33).length + i) * 40 ≤ 140737488355328 by simp; omega)
  have HL2 := Aside0.mk (show ((([] : List S33) ++ m.Bag.take i).length + (m.Bag.length - (i + 1))) * 40 ≤ 140737488355328 by simp; omega)
  have HT := Aside0.mk (show Kd.F k33 w (fun k => fr k ∧ k ≠ g) (some ad) i (m.Bag.take i) by have := Kd.F_take HFB.out (m := i) hi5; rwa [List.length_take, Nat.min_eq_left hi5] at this)
  have HEQ := Aside0.mk (show ([] ++ m.Bag.take i) ++ m.Bag.drop (i + 1) = m.Bag.eraseIdx i by rw [List.nil_append, List.eraseIdx_eq_take_drop_succ])
  by_cases hc : cB = i + 1
  all_goals (
    have HD := Aside0.mk (show Kd.F k33 w (fun k => fr k ∧ k ≠ g) (if cB = i + 1 then some ad else some (ad.add ((i + 1) * 3))) (m.Bag.length - (i + 1)) (m.Bag.drop (i + 1)) by have := Kd.F_cut HFB.out (m := i + 1) (c := cB) hi4 hcB; rwa [List.length_drop] at this)
    first | rw [if_pos hc] at HD | rw [if_neg hc] at HD
    go_enter Try.func50, Try.ntmps50
    go_wp2_with (first
      | ((with_reducible refine gate_dst (N := 5) rfl ?_); refine fresh_lit k33 33 (w := w) (okp := (fun k => fr k ∧ k ≠ g)) ?hg (N' := 5) ?hd ?hr HB.out ?_; (case hd => rfl); (case hg => rfl); (case hr => first | (go_simp; done) | (go_simp; rfl)); intro v0 w0 hf; have HF0 := Aside0.mk hf; clear x1; have x1 := pw_cell_below hf.2 X1.out; clear hf HB)
      | ((with_reducible refine gate_builtin (b := .append) (xs := #[.tmp 5, .tmp 11]) rfl ?_); at_builtin; refine fresh_rows HF0.out rfl (.tmp 5) (.tmp 11) 39 _ 40 rfl Try.underlying39 info33r rfl (by decide) (by decide) rfl rfl HT.out (fun k hk => HOK.out k hk.1) HL1.out ?_; intro v1 w1 hf; have HF1 := Aside0.mk hf; clear x1; have x1 := pw_cell_below hf.2 X1.out; clear hf HF0)
      | ((with_reducible refine gate_builtin (b := .append) (xs := #[.tmp 14, .tmp 21]) rfl ?_); at_builtin; refine fresh_rows HF1.out rfl (.tmp 14) (.tmp 21) 39 _ 40 rfl Try.underlying39 info33r rfl (by decide) (by decide) rfl rfl HD.out (fun k hk => HOK.out k hk.1) HL2.out ?_; intro v2 w2 hf; rw [HEQ.out] at hf; obtain ⟨A2, c2, rfl⟩ := hf.slice; have HF2 := Aside0.mk hf; clear x1; have x1 := pw_cell_below hf.2 X1.out; have y1 := (cells_at ((hf.2.block g HGL.out).trans BK.out) (j := 1) rfl).2; have HR := Aside0.mk (RefTo.bag HI.out hf); clear hf HF1))
    exact bodyPost_end (v := .tuple #[]) (by simp [results, Try.results50, go_sem]) rfl ⟨⟨_, rfl⟩, HR.out⟩)
/-! ### Drop -/
def rdropN (m : RefS) (i : Int) : RefS := if ratE m i = 0 then { m with Bag := m.Bag.eraseIdx i.toNat } else m
theorem ratE_eq {m : RefS} {i : Int} (h : ratE m i = 0) : 0 ≤ i ∧ i.toNat < m.Bag.length := by
  unfold ratE at h
  split at h
  · omega
  · exact absurd h (by decide)
theorem ratE_ne {m : RefS} {i : Int} (h : ratE m i ≠ 0) : ratE m i = 4 ∧ ratM m i = z33 := by
  unfold ratE at h ⊢
  unfold ratM
  split at h
  · exact absurd rfl h
  · rename_i hh
    rw [if_neg hh, if_neg hh]
    exact ⟨rfl, rfl⟩
set_option maxHeartbeats 4000000 in
set_option maxRecDepth 100000 in
theorem rdrop_c (m : RefS) (g : Nat) (fr : Nat → Prop) (w : World) (h : IsRef w g fr m) (i : Int) (hl : m.Bag.length ≤ 1000000) : Calls Try.prog 39 #[.pointer (some ⟨g, 0, none⟩), .int .i64 i] w fun e w' => e = E (ratE m i) ∧ RefTo w w' g fr (rdropN m i) := by
  have HI := Aside0.mk h
  have hat := rat_c m g fr w h i
  have HO := Aside0.mk (fun (W : World) (hI : IsRef W g fr m) (k : Nat) (hk : k < m.Bag.length) => rout_c m g fr W hI k hk hl)
  unfold rdropN
  by_cases he : ratE m i = 0
  · obtain ⟨h0, h1⟩ := ratE_eq he
    rw [if_pos he]
    rw [he] at hat ⊢
    obtain ⟨k, rfl⟩ := Int.eq_ofNat_of_zero_le h0
    rw [Int.toNat_natCast] at h1 ⊢
    generalize ratM m k = x at *
    obtain ⟨f, t, l⟩ := x
    have HAT := Aside0.mk hat
    clear hat h he
    go_enter Try.func39, Try.ntmps39
    go_wp2_with (first
      | (go_at_call 37; refine HAT.out.mono ?_; rintro e w2 ⟨A, c, rfl, hc, hF, hb⟩; have HB := Aside0.mk (below_alloc hb (.cells #[.int .i64 f, .int .i64 t, .slice A l.length c] 33)); clear hc hF hb)
      | (go_at_call 50; refine (HO.out _ (HI.out.below HB.out) k h1).mono ?_; rintro e w3 ⟨⟨v, rfl⟩, hR⟩; have HR := Aside0.mk (hR.after HB.out); clear hR))
    go_ret
    exact ⟨rfl, HR.out⟩
  · rw [if_neg he]
    obtain ⟨h4, hz⟩ := ratE_ne he
    rw [h4, hz] at hat
    rw [h4]
    have HAT := Aside0.mk hat
    clear hat h he h4 hz
    go_enter Try.func39, Try.ntmps39
    go_wp2_with (first
      | (go_at_call 37; refine HAT.out.mono ?_; rintro e w2 ⟨A, c, rfl, hc, hF, hb⟩; have HB := Aside0.mk (below_alloc hb (.cells #[.int .i64 z33.f0, .int .i64 z33.f1, .slice A z33.f2.length c] 33)); clear hc hF hb))
    go_ret
    exact ⟨rfl, RefTo.same HI.out HB.out⟩
/-! ### Send -/
theorem int_tight {k : IntKind} {e : Nat} {W : World} {base : Nat} {ok : Nat → Prop} {v : Value} {xs : List Int} (h : Kd.N (Kd.int k) e W base ok v xs) : Kd.N (Kd.int k) e W base (fun j => some j = v.ownBlock) v xs := by
  obtain ⟨h0, rows, hl, hR, hf⟩ := h
  exact ⟨fun j hj => hj.symm, rows, hl, hR, fun j x c hx hc W' _ => by have h := Kd.FK_now (hf j x c hx hc); exact h⟩
def rsendE (m : RefS) (a b : Int) (l : List Int) : Int := if twoB m.N a b = true then (if (16384 : Int) < l.length then 7 else if ropenB m a b = true then (if m.Bag.length < 64 then 0 else 3) else 6) else 1
def rsendN (m : RefS) (a b : Int) (l : List Int) : RefS := if rsendE m a b l = 0 then { m with Bag := m.Bag ++ [⟨a, b, l⟩] } else m
set_option maxHeartbeats 8000000 in
set_option maxRecDepth 100000 in
theorem rsend_c (m : RefS) (g : Nat) (fr : Nat → Prop) (w : World) (h : IsRef w g fr m) (a b : Int) (A : Option Addr) (c : Nat) (l : List Int) (hC : Kd.C (Kd.int .u8) w A l.length l) (hc : l.length ≤ c) (hl : m.Bag.length ≤ 1000000) (hl2 : m.Cuts.length ≤ 1000000) : Calls Try.prog 36 #[.pointer (some ⟨g, 0, none⟩), .int .i64 a, .int .i64 b, .slice A l.length c] w fun e w' => e = E (rsendE m a b l) ∧ RefTo w w' g fr (rsendN m a b l) := by
  have HI := Aside0.mk h
  have hlk := rlink_c m g fr w h a b
  obtain ⟨se, hse⟩ : ∃ se, rsendE m a b l = se := ⟨_, rfl⟩
  unfold rsendN
  rw [hse]
  unfold rsendE at hse
  unfold ropenB at hse
  obtain ⟨⟨lo, hi⟩, hp⟩ : ∃ x, lkP m a b = x := ⟨_, rfl⟩
  rw [hp] at hlk hse
  have HCUT := Aside0.mk (fun (W : World) (hI : IsRef W g fr m) => rcut_c m g fr W hI lo hi hl2)
  clear hp
  cases ht : twoB m.N a b
  · rw [ht] at hlk hse
    obtain rfl : (1 : Int) = se := by simpa using hse
    have HLK := Aside0.mk hlk
    clear hlk ht hse
    go_enter Try.func36, Try.ntmps36
    go_wp2_with (go_at_call 48; refine HLK.out.mono ?_; rintro e w2 ⟨rfl, hb⟩; have HB := Aside0.mk (below_alloc hb (.cells #[.int .i64 lo, .int .i64 hi] 80)); clear hb)
    go_ret
    exact ⟨rfl, RefTo.same HI.out HB.out⟩
  rw [ht] at hlk hse
  have HLK := Aside0.mk hlk
  clear hlk ht
  by_cases h7 : (16384 : Int) < l.length
  · rw [if_pos rfl, if_pos h7] at hse
    subst hse
    have d7 : decide ((16384 : Int) < (l.length : Int)) = true := by simpa using h7
    go_enter Try.func36, Try.ntmps36
    go_wp2_with (go_at_call 48; refine HLK.out.mono ?_; rintro e w2 ⟨rfl, hb⟩; have HB := Aside0.mk (below_alloc hb (.cells #[.int .i64 lo, .int .i64 hi] 80)); clear hb)
    go_ret
    exact ⟨rfl, RefTo.same HI.out HB.out⟩
  rw [if_pos rfl, if_neg h7] at hse
  have d7 : decide ((16384 : Int) < (l.length : Int)) = false := by simpa using h7
  cases hct : decide ((lo, hi) ∈ m.Cuts)
  · rw [hct] at HCUT hse
    by_cases h64 : m.Bag.length < 64
    · rw [if_pos (by rfl), if_pos h64] at hse
      subst hse
      rw [if_pos rfl]
      have d64 : decide ((64 : Int) ≤ (m.Bag.length : Int)) = false := by simp; omega
      obtain ⟨AB, cB, AC, cC, x0, x1, x2, hcB, hcC, hFB, hFC⟩ := h.cells
      have X1 := Aside0.mk x1
      have HOK := Aside0.mk h.lts
      have HFB := Aside0.mk hFB
      have HX := Aside0.mk hC
      obtain ⟨_, _, _, _, hbk, _⟩ := h.open_
      have BK := Aside0.mk hbk
      have HGL := Aside0.mk (h.lts g h.mine)
      have HL1 := Aside0.mk (show (([] : List S33).length + m.Bag.length) * 40 ≤ 140737488355328 by simp; omega)
      have HL2 := Aside0.mk (show ((([] : List S33) ++ m.Bag).length + 1) * 40 ≤ 140737488355328 by simp; omega)
      have HL3 := Aside0.mk (show (([] : List Int).length + l.length) * 1 ≤ 140737488355328 by simp; omega)
      clear h hC hFB hFC x0 x2 hcC hbk hct
      go_enter Try.func36, Try.ntmps36
      go_wp2_with (first
        | (go_at_call 48; refine HLK.out.mono ?_; rintro e w2 ⟨rfl, hb⟩; have HB := Aside0.mk (below_alloc hb (.cells #[.int .i64 lo, .int .i64 hi] 80)); clear hb)
        | (go_at_call 49; refine (HCUT.out _ (HI.out.below HB.out)).mono ?_; rintro e w3 ⟨rfl, hb⟩; have HB2 := Aside0.mk (below_then HB.out HB.out.size hb); clear x1; have x1 := pw_cell_below HB2.out X1.out; clear hb)
        | ((with_reducible refine gate_dst (N := 33) rfl ?_); refine fresh_lit k33 33 (w := w) (okp := (fun k => fr k ∧ k ≠ g)) ?hg (N' := 33) ?hd ?hr HB2.out ?_; (case hd => rfl); (case hg => rfl); (case hr => first | (go_simp; done) | (go_simp; rfl)); intro v0 w0 hf; have HF0 := Aside0.mk hf; clear x1; have x1 := pw_cell_below hf.2 X1.out; clear hf HB2)
        | ((with_reducible refine gate_builtin (b := .append) (xs := #[.tmp 33, .tmp 37]) rfl ?_); at_builtin; refine fresh_rows HF0.out rfl (.tmp 33) (.tmp 37) 39 _ 40 rfl Try.underlying39 info33r rfl (by decide) (by decide) rfl rfl HFB.out (fun k hk => HOK.out k hk.1) HL1.out ?_; intro v1 w4 hf; rw [List.nil_append] at hf; have HF1 := Aside0.mk hf; have HBX := Aside0.mk (Below.refl w4.heap.size w4); clear x1; have x1 := pw_cell_below hf.2 X1.out; clear hf HF0)
        | ((with_reducible refine gate_dst (N := 41) rfl ?_); refine fresh_lit (Kd.int .u8) 5 (w := w4) (okp := (fun k => k < w4.heap.size)) ?hg (N' := 41) ?hd ?hr HBX.out ?_; (case hd => rfl); (case hg => rfl); (case hr => first | (go_simp; done) | (go_simp; rfl)); intro v0 w0 hf; have HG0 := Aside0.mk hf; clear hf HBX)
        | ((with_reducible refine gate_builtin (b := .append) (xs := #[.tmp 41, .tmp 42]) rfl ?_); at_builtin; refine fresh_rows HG0.out rfl (.tmp 41) (.tmp 42) 24 _ 1 rfl Try.underlying24 info5r rfl (by decide) (by decide) rfl rfl (Kd.F_mono (Kd.F_bound (F_came2 HX.out HF1.out.2)) (fun k hk => hk.2)) (fun k hk => hk) HL3.out ?_; intro v3 w5 hf; rw [List.nil_append] at hf; obtain ⟨Ab, cb, rfl⟩ := hf.slice; have HG1 := Aside0.mk hf; have HF2 := Aside0.mk (HF1.out.past hf.2); clear hf HG0; clear x1)
        | ((with_reducible refine gate_builtin (b := .append) (xs := #[.tmp 38, .tmp 45]) rfl ?_); at_builtin; refine fresh_one HF2.out rfl (.tmp 38) (.tmp 45) 39 _ 40 rfl Try.underlying39 info33r rfl (by decide) (by decide) ⟨a, b, l⟩ [.int .i64 a, .int .i64 b, .slice Ab l.length cb] (fun k => some k = (Value.slice Ab l.length cb).ownBlock) rfl rfl (by simp) (msg_FK (Kd.N_F (int_tight HG1.out.1)) (Kd.N_reads' HG1.out.1).2.1) (fun k hk => ?_) HL2.out ?_; (have h1 := Kd.N_base HG1.out.1 k hk.symm; exact ⟨.inr (Nat.le_trans HF1.out.2.size h1), fun he => by have h2 := Kd.N_lt HF1.out.1 k he.symm; omega⟩); intro v6 w6 hf; obtain ⟨A6, c6, rfl⟩ := hf.slice; have x1 := pw_cell_below hf.2 X1.out; have y1 := (cells_at ((hf.2.block g HGL.out).trans BK.out) (j := 1) rfl).2; have HR := Aside0.mk (RefTo.bag HI.out hf); clear hf HF2))
      go_ret
      exact ⟨rfl, by have h := HR.out; rw [List.length_append, List.length_singleton] at h; exact h⟩
    · rw [if_pos (by rfl), if_neg h64] at hse
      subst hse
      rw [if_neg (by decide)]
      have d64 : decide ((64 : Int) ≤ (m.Bag.length : Int)) = true := by simp; omega
      obtain ⟨AB, cB, AC, cC, x0, x1, x2, hcB, hcC, hFB, hFC⟩ := h.cells
      have X1 := Aside0.mk x1
      clear h hC hFB hFC x0 x2 hcC hct
      go_enter Try.func36, Try.ntmps36
      go_wp2_with (first
        | (go_at_call 48; refine HLK.out.mono ?_; rintro e w2 ⟨rfl, hb⟩; have HB := Aside0.mk (below_alloc hb (.cells #[.int .i64 lo, .int .i64 hi] 80)); clear hb)
        | (go_at_call 49; refine (HCUT.out _ (HI.out.below HB.out)).mono ?_; rintro e w3 ⟨rfl, hb⟩; have HB2 := Aside0.mk (below_then HB.out HB.out.size hb); clear x1; have x1 := pw_cell_below HB2.out X1.out; clear hb))
      go_ret
      exact ⟨rfl, RefTo.same HI.out HB2.out⟩
  · rw [hct] at HCUT hse
    rw [if_neg (by simp)] at hse
    subst hse
    rw [if_neg (by decide)]
    clear h hC hct
    go_enter Try.func36, Try.ntmps36
    go_wp2_with (first
      | (go_at_call 48; refine HLK.out.mono ?_; rintro e w2 ⟨rfl, hb⟩; have HB := Aside0.mk (below_alloc hb (.cells #[.int .i64 lo, .int .i64 hi] 80)); clear hb)
      | (go_at_call 49; refine (HCUT.out _ (HI.out.below HB.out)).mono ?_; rintro e w3 ⟨rfl, hb⟩; have HB2 := Aside0.mk (below_then HB.out HB.out.size hb); clear hb))
    go_ret
    exact ⟨rfl, RefTo.same HI.out HB2.out⟩
/-! ### Double -/
def rdbl.T6 : Bool × List (List Nat × List Nat) := (true, [([], []), ([], []), ([], []), ([2], [2]), ([3], [3]), ([4], [4]), ([1, 5], [1, 5]), ([], []), ([7], [7]), ([6, 8, 6], [6, 8]), ([0, 0, 1, 2, 3, 4, 5, 6, 7, 8, 9], [0]), ([10, 0, 1, 2, 3, 4, 5, 6, 7, 8, 9], [10]), ([11, 9, 9, 0, 1, 2, 3, 4, 5, 6, 7, 8, 9], [9, 11])])
def rdbl.B6 : List Nat := [0, 0, 0, 4, 12, 28, 62, 0, 128, 510, 1023, 2047, 4095]
theorem rdbl.tab6 : rtab .any (opsOf Try.f40 6) = rdbl.T6 := by kernel_rfl
theorem rdbl.bits6 : waitsOk rdbl.T6.2 rdbl.B6 = true := by kernel_rfl
def rcutt.T5 : Bool × List (List Nat × List Nat) := (true, [([], []), ([], []), ([], []), ([2], [2]), ([3], [3]), ([4], [4]), ([1, 5], [1, 5]), ([], []), ([7], [7]), ([6, 8, 6], [6, 8]), ([0, 0, 1, 2, 3, 4, 5, 6, 7, 8, 9], [0]), ([10, 0, 1, 2, 3, 4, 5, 6, 7, 8, 9], [10]), ([11, 9, 9, 0, 1, 2, 3, 4, 5, 6, 7, 8, 9], [9, 11])])
def rcutt.B5 : List Nat := [0, 0, 0, 4, 12, 28, 62, 0, 128, 510, 1023, 2047, 4095]
theorem rcutt.tab5 : rtab .any (opsOf Try.f41 5) = rcutt.T5 := by kernel_rfl
theorem rcutt.bits5 : waitsOk rcutt.T5.2 rcutt.B5 = true := by kernel_rfl
def rdblE (m : RefS) (i : Int) : Int := if ratE m i = 0 then (if m.Bag.length < 64 then 0 else 3) else 4
def rdblN (m : RefS) (i : Int) : RefS := if rdblE m i = 0 then { m with Bag := m.Bag ++ [ratM m i] } else m
set_option maxHeartbeats 8000000 in
set_option maxRecDepth 100000 in
theorem rdbl_c (m : RefS) (g : Nat) (fr : Nat → Prop) (w : World) (h : IsRef w g fr m) (i : Int) (hl : m.Bag.length ≤ 1000000) : Calls Try.prog 40 #[.pointer (some ⟨g, 0, none⟩), .int .i64 i] w fun e w' => e = E (rdblE m i) ∧ RefTo w w' g fr (rdblN m i) := by
  have HI := Aside0.mk h
  have hat := rat_c m g fr w h i
  unfold rdblN rdblE
  by_cases he : ratE m i = 0
  · rw [if_pos he]
    rw [he] at hat
    obtain ⟨⟨f, t, l⟩, hx⟩ : ∃ x, ratM m i = x := ⟨_, rfl⟩
    rw [hx] at hat ⊢
    have HAT := Aside0.mk hat
    obtain ⟨AB, cB, AC, cC, x0, x1, x2, hcB, hcC, hFB, hFC⟩ := h.cells
    have X1 := Aside0.mk x1
    have HOK0 := Aside0.mk h.lts
    have HG := Aside0.mk h.mine
    have HL1 := Aside0.mk (show (([] : List S33).length + m.Bag.length) * 40 ≤ 140737488355328 by simp; omega)
    have HL2 := Aside0.mk (show (m.Bag.length + 1) * 40 ≤ 140737488355328 by omega)
    clear hat hx he h x0 x2 hFB hFC hcC hcB x1
    by_cases h64 : m.Bag.length < 64
    · have d64 : decide ((64 : Int) ≤ (m.Bag.length : Int)) = false := by simp; omega
      rw [if_pos h64, if_pos rfl]
      go_enter Try.func40, Try.ntmps40
      go_wp2_with (first
        | (go_at_call 37; refine HAT.out.mono ?_; rintro e w2 ⟨A, c, rfl, hc, hF, hb⟩; have HB := Aside0.mk (below_alloc hb (.cells #[.int .i64 f, .int .i64 t, .slice A l.length c] 33)); have BX := Aside0.mk (heap_alloc_new w2 (.cells #[.int .i64 f, .int .i64 t, .slice A l.length c] 33)); have HFb := Aside0.mk hF; have x1 := pw_cell_below HB.out X1.out; clear hF hb))
      have h0 : (w2.alloc (.cells #[.int .i64 f, .int .i64 t, .slice A l.length c] 33)).drew.cell? ⟨g, 1, none⟩ = some (.slice AB m.Bag.length cB) := x1
      have h1 := (cells_at (blk_drew BX.out) (j := 0) rfl).1
      have h2 := (cells_at (blk_drew BX.out) (j := 1) rfl).1
      have h3 := (cells_at (blk_drew BX.out) (j := 2) rfl).1
      refine start_ (n := 13) (S := fun w' => w'.cell? ⟨g, 1, none⟩ = some (.slice AB m.Bag.length cB) ∧ w'.cell? ⟨w2.heap.size, 0, none⟩ = some (.int .i64 f) ∧ w'.cell? ⟨w2.heap.size, 1, none⟩ = some (.int .i64 t) ∧ w'.cell? ⟨w2.heap.size, 2, none⟩ = some (.slice A l.length c)) (ds := [9, 12]) #[false, false, false, false, false, false, false, false, false, false, false, false, false] (by kernel_rfl) rfl rfl ⟨h0, h1, h2, h3⟩ (fun hHeld => ?_)
      refine with_tabW rdbl.tab6 rdbl.bits6 (fun HT_ HW_ => ?_)
      have HB3 := Aside0.mk (below_drew HB.out)
      have HI3 := Aside0.mk (HI.out.below HB3.out)
      have HFb3 := Aside0.mk (Kd.F_below HFb.out HB3.out)
      have HFX := Aside0.mk (show Kd.F k33 (w2.alloc (.cells #[.int .i64 f, .int .i64 t, .slice A l.length c] 33)).drew (fun k => fr k ∧ k ≠ g) AB m.Bag.length m.Bag from bag_F HI3.out h0)
      have HOK := Aside0.mk HI3.out.lts
      have BK := Aside0.mk (ref_blk HI3.out h0)
      have HBc := Aside0.mk (Below.refl (w2.alloc (.cells #[.int .i64 f, .int .i64 t, .slice A l.length c] 33)).drew.heap.size (w2.alloc (.cells #[.int .i64 f, .int .i64 t, .slice A l.length c] 33)).drew)
      clear HB x1 BX HFb
      generalize w2.heap.size = bx at *
      generalize (w2.alloc (.cells #[.int .i64 f, .int .i64 t, .slice A l.length c] 33)).drew = w3 at *
      obtain ⟨AC', cC', BK⟩ := BK.out
      have BK := Aside0.mk BK
      refine pure_ (i := 0) (N := some 22) (v := ?_) (a' := ?_) #[true, false, false, false, false, false, false, false, false, false, false, false, false] rfl rfl (any_of HT_.out (by kernel_rfl)) (fun _ _ _ h => h) (Or.inl ⟨by rfl, ?_⟩) ?_ ?_
      rotate_left; (intro w'; go_simp; with_reducible rfl); rotate_left; (simp only [Act.put, List.setIfInBounds_toArray, List.set_cons_zero, List.set_cons_succ, i64_w, i32_w]; rfl)
      refine pure_ (i := 2) (N := some 24) (v := ?_) (a' := ?_) #[true, false, true, false, false, false, false, false, false, false, false, false, false] rfl rfl (any_of HT_.out (by kernel_rfl)) (fun _ _ _ h => h) (Or.inl ⟨by rfl, ?_⟩) ?_ ?_
      rotate_left; (intro w'; go_simp; with_reducible rfl); rotate_left; (simp only [Act.put, List.setIfInBounds_toArray, List.set_cons_zero, List.set_cons_succ, i64_w, i32_w]; rfl)
      refine pure_ (i := 3) (N := some 25) (v := ?_) (a' := ?_) #[true, false, true, true, false, false, false, false, false, false, false, false, false] rfl rfl (any_of HT_.out (by kernel_rfl)) (fun _ _ _ h => h) (Or.inl ⟨by rfl, ?_⟩) ?_ ?_
      rotate_left; (intro w'; go_simp; with_reducible rfl); rotate_left; (simp only [Act.put, List.setIfInBounds_toArray, List.set_cons_zero, List.set_cons_succ, i64_w, i32_w]; rfl)
      refine pure_ (i := 4) (N := some 26) (v := ?_) (a' := ?_) #[true, false, true, true, true, false, false, false, false, false, false, false, false] rfl rfl (any_of HT_.out (by kernel_rfl)) (fun _ _ _ h => h) (Or.inl ⟨by rfl, ?_⟩) ?_ ?_
      rotate_left; (intro w'; go_simp; with_reducible rfl); rotate_left; (simp only [Act.put, List.setIfInBounds_toArray, List.set_cons_zero, List.set_cons_succ, i64_w, i32_w]; rfl)
      refine take_ (i := 5) (N := some 27) (v := ?_) (a' := ?_) #[true, false, true, true, true, true, false, false, false, false, false, false, false] rfl rfl (take_ofW HT_.out HW_.out (by kernel_rfl)) (fun _ _ _ h => h) (Or.inl ⟨by rfl, ?_⟩) hHeld ?_ ?_
      rotate_left; (rintro w' ⟨s0, s1, s2, s3⟩; go_simp; with_reducible rfl); rotate_left; (simp only [Act.put, List.setIfInBounds_toArray, List.set_cons_zero, List.set_cons_succ, i64_w, i32_w]; rfl)
      refine take_ (i := 7) (N := some 29) (v := ?_) (a' := ?_) #[true, false, true, true, true, true, false, true, false, false, false, false, false] rfl rfl (take_ofW HT_.out HW_.out (by kernel_rfl)) (fun _ _ _ h => h) (Or.inl ⟨by rfl, ?_⟩) hHeld ?_ ?_
      rotate_left; (rintro w' ⟨s0, s1, s2, s3⟩; go_simp; with_reducible rfl); rotate_left; (simp only [Act.put, List.setIfInBounds_toArray, List.set_cons_zero, List.set_cons_succ, i64_w, i32_w]; rfl)
      refine two_ (i := 1) (j := 8) (Ni := some 23) (Nj := some 30) #[true, true, true, true, true, true, false, true, false, false, false, false, false] #[true, false, true, true, true, true, false, true, true, false, false, false, false] rfl rfl rfl rfl (two_of HT_.out (by kernel_rfl)) (by decide) (by decide) (fun K hK => ?_) (fun K hK => ?_)
      · refine fresh_lit_step k33 33 (w := w3) (okp := (fun k => fr k ∧ k ≠ g)) (by rfl) (N' := 23) rfl (by first | (go_simp; done) | (go_simp; rfl)) HBc.out ?_
        intro v0 w4 hf hb hown
        have HF := Aside0.mk hf
        clear HBc
        have HBc := Aside0.mk hf.2
        clear hf hb hown
        refine hK.out _ _ ⟨pw_cell_below HBc.out h0, pw_cell_below HBc.out h1, pw_cell_below HBc.out h2, pw_cell_below HBc.out h3⟩ (fun hHeld => ?_)
        clear hK K
        refine norm_ (a' := ?_) ?_ ?_
        rotate_left; (show Act.put _ (some 23) _ = _; simp only [Act.put, List.setIfInBounds_toArray, List.set_cons_zero, List.set_cons_succ, i64_w, i32_w]; rfl)
        refine two_ (i := 6) (j := 8) (Ni := some 28) (Nj := some 30) #[true, true, true, true, true, true, true, true, false, false, false, false, false] #[true, true, true, true, true, true, false, true, true, false, false, false, false] rfl rfl rfl rfl (two_of HT_.out (by kernel_rfl)) (by decide) (by decide) (fun K hK => ?_) (fun K hK => ?_)
        · refine fresh_rows_step HF.out (by rfl) (.tmp 23) (.tmp 27) 39 _ 40 rfl Try.underlying39 info33r rfl (by decide) (by decide) (fun k => fr k ∧ k ≠ g) rfl rfl (Kd.F_below HFX.out HBc.out) (fun k hk => ⟨.inl hk, fun e => by have := Kd.N_base HF.out.1 k e.symm; have := HOK.out k hk.1; omega⟩) HL1.out ?_
          intro v1 w5 hf hg hat
          rw [List.nil_append] at hf
          clear HF HBc
          have HF := Aside0.mk hf
          have HBc := Aside0.mk hf.2
          clear hf hg hat
          refine hK.out _ _ ⟨pw_cell_below HBc.out h0, pw_cell_below HBc.out h1, pw_cell_below HBc.out h2, pw_cell_below HBc.out h3⟩ (fun hHeld => ?_)
          clear hK K
          refine norm_ (a' := ?_) ?_ ?_
          rotate_left; (show Act.put _ (some 28) _ = _; simp only [Act.put, List.setIfInBounds_toArray, List.set_cons_zero, List.set_cons_succ, i64_w, i32_w]; rfl)
          refine one_ (i := 8) (N := some 30) #[true, true, true, true, true, true, true, true, true, false, false, false, false] rfl rfl (one_of HT_.out (by kernel_rfl)) (by decide) (fun K hK => ?_)
          refine value_ (w1 := w5.alloc (.cells #[.int .i64 f, .int .i64 t, .slice A l.length c] 33)) (v := .slice (some ⟨w5.heap.size, 0, none⟩) 1 1) (by rfl) rfl ?_ ?_
          · go_simp
          have hfk : Kd.FK k33 w5 (fun k => fr k ∧ k ≠ g) ⟨f, t, l⟩ [.int .i64 f, .int .i64 t, .slice A l.length c] := msg_FK (Kd.F_below HFb3.out HBc.out) hc
          obtain ⟨okE, hE, hE1, hE2⟩ := one_F k33 33 w5 hfk (fun k hk => Nat.lt_of_lt_of_le (HOK.out k hk.1) HBc.out.size) rfl (by decide)
          clear hfk
          have HE := Aside0.mk hE
          have HEL := Aside0.mk hE1
          have HEO := Aside0.mk (show ∀ k, okE k → (fr k ∧ k ≠ g) ∨ w3.heap.size ≤ k from fun k hk => by
            rcases hE2 k hk with h | h
            · exact .inl h
            · subst h; exact .inr HBc.out.size)
          have hnl := Kd.N_lt HF.out.1
          have hnb := Kd.N_base HF.out.1
          have HNE := Aside0.mk (show ∀ k, okE k → some k ≠ v1.ownBlock from fun k hk e => by
            have h1 := hnl k e.symm
            have h2 := hnb k e.symm
            rcases hE2 k hk with h | h
            · have := HOK.out k h.1; omega
            · omega)
          clear hnl hnb
          have HF2 := Aside0.mk (HF.out.past (below_alloc (Below.refl _ _) (.cells #[.int .i64 f, .int .i64 t, .slice A l.length c] 33)))
          clear HF
          have HF := HF2
          clear HF2
          have HBc2 := Aside0.mk (below_alloc HBc.out (.cells #[.int .i64 f, .int .i64 t, .slice A l.length c] 33))
          clear HBc
          have HBc := HBc2
          clear HBc2 hE hE1 hE2
          refine hK.out _ _ ⟨pw_cell_below HBc.out h0, pw_cell_below HBc.out h1, pw_cell_below HBc.out h2, pw_cell_below HBc.out h3⟩ (fun hHeld => ?_)
          clear hK K
          refine norm_ (a' := ?_) ?_ ?_
          rotate_left; (show Act.put _ (some 30) _ = _; simp only [Act.put, List.setIfInBounds_toArray, List.set_cons_zero, List.set_cons_succ, i64_w, i32_w]; rfl)
          refine last_ (i := 9) (N := some 31) #[true, true, true, true, true, true, true, true, true, true, false, false, false] rfl rfl (one_of HT_.out (by kernel_rfl)) (by decide) (fun K hK => ?_)
          refine fresh_rows_step HF.out (by rfl) (.tmp 28) (.tmp 30) 39 _ 40 rfl Try.underlying39 info33r rfl (by decide) (by decide) okE rfl rfl HE.out (fun k hk => ⟨HEO.out k hk, HNE.out k hk⟩) HL2.out ?_
          intro v2 w6 hf hg hat
          obtain ⟨A6, c6, rfl⟩ := hf.slice
          have x1 := pw_cell_below hf.2 h0
          have y1 := (cells_at ((hf.2.block g (HOK.out g HG.out)).trans BK.out) (j := 1) rfl).2
          have HR := Aside0.mk (RefTo.bag HI3.out hf)
          clear hf hg hat hHeld HF HE
          refine hK.out _ _ ?_
          clear hK K
          refine norm_ (a' := ?_) ?_ ?_
          rotate_left; (show Act.put _ (some 31) _ = _; simp only [Act.put, List.setIfInBounds_toArray, List.set_cons_zero, List.set_cons_succ, i64_w, i32_w]; rfl)
          refine pure_ (i := 10) (N := some 32) (v := ?_) (a' := ?_) #[true, true, true, true, true, true, true, true, true, true, true, false, false] rfl rfl (any_of HT_.out (by kernel_rfl)) (fun _ _ _ h => h) (Or.inl ⟨by rfl, ?_⟩) ?_ ?_
          rotate_left; (intro w'; go_simp; with_reducible rfl); rotate_left; (simp only [Act.put, List.setIfInBounds_toArray, List.set_cons_zero, List.set_cons_succ, i64_w, i32_w]; rfl)
          refine pure_ (i := 11) (N := some 33) (v := ?_) (a' := ?_) #[true, true, true, true, true, true, true, true, true, true, true, true, false] rfl rfl (any_of HT_.out (by kernel_rfl)) (fun _ _ _ h => h) (Or.inl ⟨by rfl, ?_⟩) ?_ ?_
          rotate_left; (intro w'; go_simp; with_reducible rfl); rotate_left; (simp only [Act.put, List.setIfInBounds_toArray, List.set_cons_zero, List.set_cons_succ, i64_w, i32_w]; rfl)
          refine last_ (i := 12) (N := none) #[true, true, true, true, true, true, true, true, true, true, true, true, true] rfl rfl (one_of HT_.out (by kernel_rfl)) (by decide) (fun K hK => ?_)
          refine skip_ (w1 := ?_) (by rfl) rfl ?_ ?_
          rotate_left
          · go_simp
            rfl
          clear x1 y1
          refine hK.out _ _ ?_
          clear hK K
          refine done_ (done_of HT_.out (by kernel_rfl)) ?_
          go_wp2
          go_ret
          exact ⟨rfl, by have h := HR.out.after HB3.out; rw [List.length_append, List.length_singleton] at h; exact h⟩
        · refine value_ (w1 := w4.alloc (.cells #[.int .i64 f, .int .i64 t, .slice A l.length c] 33)) (v := .slice (some ⟨w4.heap.size, 0, none⟩) 1 1) (by rfl) rfl ?_ ?_
          · go_simp
          have hfk : Kd.FK k33 w4 (fun k => fr k ∧ k ≠ g) ⟨f, t, l⟩ [.int .i64 f, .int .i64 t, .slice A l.length c] := msg_FK (Kd.F_below HFb3.out HBc.out) hc
          obtain ⟨okE, hE, hE1, hE2⟩ := one_F k33 33 w4 hfk (fun k hk => Nat.lt_of_lt_of_le (HOK.out k hk.1) HBc.out.size) rfl (by decide)
          clear hfk
          have HE := Aside0.mk hE
          have HEL := Aside0.mk hE1
          have HEO := Aside0.mk (show ∀ k, okE k → (fr k ∧ k ≠ g) ∨ w3.heap.size ≤ k from fun k hk => by
            rcases hE2 k hk with h | h
            · exact .inl h
            · subst h; exact .inr HBc.out.size)
          have hnl := Kd.N_lt HF.out.1
          have hnb := Kd.N_base HF.out.1
          have HNE := Aside0.mk (show ∀ k, okE k → some k ≠ v0.ownBlock from fun k hk e => by
            have h1 := hnl k e.symm
            have h2 := hnb k e.symm
            rcases hE2 k hk with h | h
            · have := HOK.out k h.1; omega
            · omega)
          clear hnl hnb
          have HF2 := Aside0.mk (HF.out.past (below_alloc (Below.refl _ _) (.cells #[.int .i64 f, .int .i64 t, .slice A l.length c] 33)))
          clear HF
          have HF := HF2
          clear HF2
          have HBc2 := Aside0.mk (below_alloc HBc.out (.cells #[.int .i64 f, .int .i64 t, .slice A l.length c] 33))
          clear HBc
          have HBc := HBc2
          clear HBc2 hE hE1 hE2
          refine hK.out _ _ ⟨pw_cell_below HBc.out h0, pw_cell_below HBc.out h1, pw_cell_below HBc.out h2, pw_cell_below HBc.out h3⟩ (fun hHeld => ?_)
          clear hK K
          refine norm_ (a' := ?_) ?_ ?_
          rotate_left; (show Act.put _ (some 30) _ = _; simp only [Act.put, List.setIfInBounds_toArray, List.set_cons_zero, List.set_cons_succ, i64_w, i32_w]; rfl)
          refine one_ (i := 6) (N := some 28) #[true, true, true, true, true, true, true, true, true, false, false, false, false] rfl rfl (one_of HT_.out (by kernel_rfl)) (by decide) (fun K hK => ?_)
          refine fresh_rows_step HF.out (by rfl) (.tmp 23) (.tmp 27) 39 _ 40 rfl Try.underlying39 info33r rfl (by decide) (by decide) (fun k => fr k ∧ k ≠ g) rfl rfl (Kd.F_below HFX.out HBc.out) (fun k hk => ⟨.inl hk, fun e => by have := Kd.N_base HF.out.1 k e.symm; have := HOK.out k hk.1; omega⟩) HL1.out ?_
          intro v1 w5 hf hg hat
          rw [List.nil_append] at hf
          have HE2 := Aside0.mk (Kd.F_grown HE.out hg (fun k hk => HNE.out k hk))
          have HNE2 := Aside0.mk (show ∀ k, okE k → some k ≠ v1.ownBlock from fun k hk e => by
            rcases hat with h | ⟨b, h, hle⟩
            · rw [h] at e; exact HNE.out k hk e
            · rw [h] at e; injection e with e; have := HEL.out k hk; omega)
          clear HE HNE
          have HE := HE2
          have HNE := HNE2
          clear HE2 HNE2
          clear HF HBc
          have HF := Aside0.mk hf
          have HBc := Aside0.mk hf.2
          clear hf hg hat
          refine hK.out _ _ ⟨pw_cell_below HBc.out h0, pw_cell_below HBc.out h1, pw_cell_below HBc.out h2, pw_cell_below HBc.out h3⟩ (fun hHeld => ?_)
          clear hK K
          refine norm_ (a' := ?_) ?_ ?_
          rotate_left; (show Act.put _ (some 28) _ = _; simp only [Act.put, List.setIfInBounds_toArray, List.set_cons_zero, List.set_cons_succ, i64_w, i32_w]; rfl)
          refine last_ (i := 9) (N := some 31) #[true, true, true, true, true, true, true, true, true, true, false, false, false] rfl rfl (one_of HT_.out (by kernel_rfl)) (by decide) (fun K hK => ?_)
          refine fresh_rows_step HF.out (by rfl) (.tmp 28) (.tmp 30) 39 _ 40 rfl Try.underlying39 info33r rfl (by decide) (by decide) okE rfl rfl HE.out (fun k hk => ⟨HEO.out k hk, HNE.out k hk⟩) HL2.out ?_
          intro v2 w6 hf hg hat
          obtain ⟨A6, c6, rfl⟩ := hf.slice
          have x1 := pw_cell_below hf.2 h0
          have y1 := (cells_at ((hf.2.block g (HOK.out g HG.out)).trans BK.out) (j := 1) rfl).2
          have HR := Aside0.mk (RefTo.bag HI3.out hf)
          clear hf hg hat hHeld HF HE
          refine hK.out _ _ ?_
          clear hK K
          refine norm_ (a' := ?_) ?_ ?_
          rotate_left; (show Act.put _ (some 31) _ = _; simp only [Act.put, List.setIfInBounds_toArray, List.set_cons_zero, List.set_cons_succ, i64_w, i32_w]; rfl)
          refine pure_ (i := 10) (N := some 32) (v := ?_) (a' := ?_) #[true, true, true, true, true, true, true, true, true, true, true, false, false] rfl rfl (any_of HT_.out (by kernel_rfl)) (fun _ _ _ h => h) (Or.inl ⟨by rfl, ?_⟩) ?_ ?_
          rotate_left; (intro w'; go_simp; with_reducible rfl); rotate_left; (simp only [Act.put, List.setIfInBounds_toArray, List.set_cons_zero, List.set_cons_succ, i64_w, i32_w]; rfl)
          refine pure_ (i := 11) (N := some 33) (v := ?_) (a' := ?_) #[true, true, true, true, true, true, true, true, true, true, true, true, false] rfl rfl (any_of HT_.out (by kernel_rfl)) (fun _ _ _ h => h) (Or.inl ⟨by rfl, ?_⟩) ?_ ?_
          rotate_left; (intro w'; go_simp; with_reducible rfl); rotate_left; (simp only [Act.put, List.setIfInBounds_toArray, List.set_cons_zero, List.set_cons_succ, i64_w, i32_w]; rfl)
          refine last_ (i := 12) (N := none) #[true, true, true, true, true, true, true, true, true, true, true, true, true] rfl rfl (one_of HT_.out (by kernel_rfl)) (by decide) (fun K hK => ?_)
          refine skip_ (w1 := ?_) (by rfl) rfl ?_ ?_
          rotate_left
          · go_simp
            rfl
          clear x1 y1
          refine hK.out _ _ ?_
          clear hK K
          refine done_ (done_of HT_.out (by kernel_rfl)) ?_
          go_wp2
          go_ret
          exact ⟨rfl, by have h := HR.out.after HB3.out; rw [List.length_append, List.length_singleton] at h; exact h⟩
      · refine value_ (w1 := w3.alloc (.cells #[.int .i64 f, .int .i64 t, .slice A l.length c] 33)) (v := .slice (some ⟨w3.heap.size, 0, none⟩) 1 1) (by rfl) rfl ?_ ?_
        · go_simp
        have hfk : Kd.FK k33 w3 (fun k => fr k ∧ k ≠ g) ⟨f, t, l⟩ [.int .i64 f, .int .i64 t, .slice A l.length c] := msg_FK (Kd.F_below HFb3.out HBc.out) hc
        obtain ⟨okE, hE, hE1, hE2⟩ := one_F k33 33 w3 hfk (fun k hk => Nat.lt_of_lt_of_le (HOK.out k hk.1) HBc.out.size) rfl (by decide)
        clear hfk
        have HE := Aside0.mk hE
        have HEL := Aside0.mk hE1
        have HEO := Aside0.mk (show ∀ k, okE k → (fr k ∧ k ≠ g) ∨ w3.heap.size ≤ k from fun k hk => by
          rcases hE2 k hk with h | h
          · exact .inl h
          · subst h; exact .inr HBc.out.size)
        have HBc2 := Aside0.mk (below_alloc HBc.out (.cells #[.int .i64 f, .int .i64 t, .slice A l.length c] 33))
        clear HBc
        have HBc := HBc2
        clear HBc2 hE hE1 hE2
        refine hK.out _ _ ⟨pw_cell_below HBc.out h0, pw_cell_below HBc.out h1, pw_cell_below HBc.out h2, pw_cell_below HBc.out h3⟩ (fun hHeld => ?_)
        clear hK K
        refine norm_ (a' := ?_) ?_ ?_
        rotate_left; (show Act.put _ (some 30) _ = _; simp only [Act.put, List.setIfInBounds_toArray, List.set_cons_zero, List.set_cons_succ, i64_w, i32_w]; rfl)
        refine one_ (i := 1) (N := some 23) #[true, true, true, true, true, true, false, true, true, false, false, false, false] rfl rfl (one_of HT_.out (by kernel_rfl)) (by decide) (fun K hK => ?_)
        refine fresh_lit_step k33 33 (w := w3) (okp := (fun k => fr k ∧ k ≠ g)) (by rfl) (N' := 23) rfl (by first | (go_simp; done) | (go_simp; rfl)) HBc.out ?_
        intro v0 w4 hf hb hown
        have HNE := Aside0.mk (show ∀ k, okE k → some k ≠ v0.ownBlock from fun k hk e => by have := hown k e.symm; have := HEL.out k hk; omega)
        have HE2 := Aside0.mk (Kd.F_below HE.out hb)
        have HEL2 := Aside0.mk (show ∀ k, okE k → k < w4.heap.size from fun k hk => Nat.lt_of_lt_of_le (HEL.out k hk) hb.size)
        clear HE HEL
        have HE := HE2
        have HEL := HEL2
        clear HE2 HEL2
        have HF := Aside0.mk hf
        clear HBc
        have HBc := Aside0.mk hf.2
        clear hf hb hown
        refine hK.out _ _ ⟨pw_cell_below HBc.out h0, pw_cell_below HBc.out h1, pw_cell_below HBc.out h2, pw_cell_below HBc.out h3⟩ (fun hHeld => ?_)
        clear hK K
        refine norm_ (a' := ?_) ?_ ?_
        rotate_left; (show Act.put _ (some 23) _ = _; simp only [Act.put, List.setIfInBounds_toArray, List.set_cons_zero, List.set_cons_succ, i64_w, i32_w]; rfl)
        refine one_ (i := 6) (N := some 28) #[true, true, true, true, true, true, true, true, true, false, false, false, false] rfl rfl (one_of HT_.out (by kernel_rfl)) (by decide) (fun K hK => ?_)
        refine fresh_rows_step HF.out (by rfl) (.tmp 23) (.tmp 27) 39 _ 40 rfl Try.underlying39 info33r rfl (by decide) (by decide) (fun k => fr k ∧ k ≠ g) rfl rfl (Kd.F_below HFX.out HBc.out) (fun k hk => ⟨.inl hk, fun e => by have := Kd.N_base HF.out.1 k e.symm; have := HOK.out k hk.1; omega⟩) HL1.out ?_
        intro v1 w5 hf hg hat
        rw [List.nil_append] at hf
        have HE2 := Aside0.mk (Kd.F_grown HE.out hg (fun k hk => HNE.out k hk))
        have HNE2 := Aside0.mk (show ∀ k, okE k → some k ≠ v1.ownBlock from fun k hk e => by
          rcases hat with h | ⟨b, h, hle⟩
          · rw [h] at e; exact HNE.out k hk e
          · rw [h] at e; injection e with e; have := HEL.out k hk; omega)
        clear HE HNE
        have HE := HE2
        have HNE := HNE2
        clear HE2 HNE2
        clear HF HBc
        have HF := Aside0.mk hf
        have HBc := Aside0.mk hf.2
        clear hf hg hat
        refine hK.out _ _ ⟨pw_cell_below HBc.out h0, pw_cell_below HBc.out h1, pw_cell_below HBc.out h2, pw_cell_below HBc.out h3⟩ (fun hHeld => ?_)
        clear hK K
        refine norm_ (a' := ?_) ?_ ?_
        rotate_left; (show Act.put _ (some 28) _ = _; simp only [Act.put, List.setIfInBounds_toArray, List.set_cons_zero, List.set_cons_succ, i64_w, i32_w]; rfl)
        refine last_ (i := 9) (N := some 31) #[true, true, true, true, true, true, true, true, true, true, false, false, false] rfl rfl (one_of HT_.out (by kernel_rfl)) (by decide) (fun K hK => ?_)
        refine fresh_rows_step HF.out (by rfl) (.tmp 28) (.tmp 30) 39 _ 40 rfl Try.underlying39 info33r rfl (by decide) (by decide) okE rfl rfl HE.out (fun k hk => ⟨HEO.out k hk, HNE.out k hk⟩) HL2.out ?_
        intro v2 w6 hf hg hat
        obtain ⟨A6, c6, rfl⟩ := hf.slice
        have x1 := pw_cell_below hf.2 h0
        have y1 := (cells_at ((hf.2.block g (HOK.out g HG.out)).trans BK.out) (j := 1) rfl).2
        have HR := Aside0.mk (RefTo.bag HI3.out hf)
        clear hf hg hat hHeld HF HE
        refine hK.out _ _ ?_
        clear hK K
        refine norm_ (a' := ?_) ?_ ?_
        rotate_left; (show Act.put _ (some 31) _ = _; simp only [Act.put, List.setIfInBounds_toArray, List.set_cons_zero, List.set_cons_succ, i64_w, i32_w]; rfl)
        refine pure_ (i := 10) (N := some 32) (v := ?_) (a' := ?_) #[true, true, true, true, true, true, true, true, true, true, true, false, false] rfl rfl (any_of HT_.out (by kernel_rfl)) (fun _ _ _ h => h) (Or.inl ⟨by rfl, ?_⟩) ?_ ?_
        rotate_left; (intro w'; go_simp; with_reducible rfl); rotate_left; (simp only [Act.put, List.setIfInBounds_toArray, List.set_cons_zero, List.set_cons_succ, i64_w, i32_w]; rfl)
        refine pure_ (i := 11) (N := some 33) (v := ?_) (a' := ?_) #[true, true, true, true, true, true, true, true, true, true, true, true, false] rfl rfl (any_of HT_.out (by kernel_rfl)) (fun _ _ _ h => h) (Or.inl ⟨by rfl, ?_⟩) ?_ ?_
        rotate_left; (intro w'; go_simp; with_reducible rfl); rotate_left; (simp only [Act.put, List.setIfInBounds_toArray, List.set_cons_zero, List.set_cons_succ, i64_w, i32_w]; rfl)
        refine last_ (i := 12) (N := none) #[true, true, true, true, true, true, true, true, true, true, true, true, true] rfl rfl (one_of HT_.out (by kernel_rfl)) (by decide) (fun K hK => ?_)
        refine skip_ (w1 := ?_) (by rfl) rfl ?_ ?_
        rotate_left
        · go_simp
          rfl
        clear x1 y1
        refine hK.out _ _ ?_
        clear hK K
        refine done_ (done_of HT_.out (by kernel_rfl)) ?_
        go_wp2
        go_ret
        exact ⟨rfl, by have h := HR.out.after HB3.out; rw [List.length_append, List.length_singleton] at h; exact h⟩
    · have d64 : decide ((64 : Int) ≤ (m.Bag.length : Int)) = true := by simp; omega
      rw [if_neg h64, if_neg (by decide)]
      go_enter Try.func40, Try.ntmps40
      go_wp2_with (first
        | (go_at_call 37; refine HAT.out.mono ?_; rintro e w2 ⟨A, c, rfl, hc, hF, hb⟩; have HB := Aside0.mk (below_alloc hb (.cells #[.int .i64 f, .int .i64 t, .slice A l.length c] 33)); have x1 := pw_cell_below HB.out X1.out; clear hF hb))
      go_ret
      exact ⟨rfl, RefTo.same HI.out HB.out⟩
  · obtain ⟨h4, hz⟩ := ratE_ne he
    rw [if_neg he, if_neg (by decide)]
    rw [h4, hz] at hat
    have HAT := Aside0.mk hat
    clear hat h he h4 hz
    go_enter Try.func40, Try.ntmps40
    go_wp2_with (first
      | (go_at_call 37; refine HAT.out.mono ?_; rintro e w2 ⟨A, c, rfl, hc, hF, hb⟩; have HB := Aside0.mk (below_alloc hb (.cells #[.int .i64 z33.f0, .int .i64 z33.f1, .slice A z33.f2.length c] 33)); clear hc hF hb))
    go_ret
    exact ⟨rfl, RefTo.same HI.out HB.out⟩
/-! ### Cut, Heal -/
def rlinkE (m : RefS) (a b : Int) : Int := if twoB m.N a b = true then 0 else 1
def rcutN (m : RefS) (a b : Int) : RefS := if twoB m.N a b = true ∧ lkP m a b ∉ m.Cuts then { m with Cuts := m.Cuts ++ [lkP m a b] } else m
set_option maxHeartbeats 8000000 in
set_option maxRecDepth 100000 in
theorem rcutN_c (m : RefS) (g : Nat) (fr : Nat → Prop) (w : World) (h : IsRef w g fr m) (a b : Int) (hl : m.Cuts.length ≤ 1000000) : Calls Try.prog 41 #[.pointer (some ⟨g, 0, none⟩), .int .i64 a, .int .i64 b] w fun e w' => e = E (rlinkE m a b) ∧ RefTo w w' g fr (rcutN m a b) := by
  have HI := Aside0.mk h
  have hlk := rlink_c m g fr w h a b
  unfold rcutN rlinkE
  obtain ⟨⟨lo, hi⟩, hp⟩ : ∃ x, lkP m a b = x := ⟨_, rfl⟩
  rw [hp] at hlk ⊢
  have HCUT := Aside0.mk (fun (W : World) (hI : IsRef W g fr m) => rcut_c m g fr W hI lo hi hl)
  clear hp
  cases ht : twoB m.N a b
  · rw [ht] at hlk
    rw [if_neg (by decide), if_neg (by simp)]
    have HLK := Aside0.mk hlk
    clear hlk ht
    go_enter Try.func41, Try.ntmps41
    go_wp2_with (go_at_call 48; refine HLK.out.mono ?_; rintro e w2 ⟨rfl, hb⟩; have HB := Aside0.mk (below_alloc hb (.cells #[.int .i64 lo, .int .i64 hi] 80)); clear hb)
    go_ret
    exact ⟨rfl, RefTo.same HI.out HB.out⟩
  rw [ht] at hlk
  rw [if_pos rfl]
  have HLK := Aside0.mk hlk
  clear hlk ht
  by_cases hm : (lo, hi) ∈ m.Cuts
  · rw [if_neg (by simp [hm])]
    rw [decide_eq_true hm] at HCUT
    clear hm
    go_enter Try.func41, Try.ntmps41
    go_wp2_with (first
      | (go_at_call 48; refine HLK.out.mono ?_; rintro e w2 ⟨rfl, hb⟩; have HB := Aside0.mk (below_alloc hb (.cells #[.int .i64 lo, .int .i64 hi] 80)); clear hb)
      | (go_at_call 49; refine (HCUT.out _ (HI.out.below HB.out)).mono ?_; rintro e w3 ⟨rfl, hb⟩; have HB2 := Aside0.mk (below_then HB.out HB.out.size hb); clear hb))
    go_ret
    exact ⟨rfl, RefTo.same HI.out HB2.out⟩
  · rw [if_pos ⟨rfl, hm⟩]
    rw [decide_eq_false hm] at HCUT
    obtain ⟨AB, cB, AC, cC, x0, x1, x2, hcB, hcC, hFB, hFC⟩ := h.cells
    have X2 := Aside0.mk x2
    have HOK0 := Aside0.mk h.lts
    have HG := Aside0.mk h.mine
    have HL1 := Aside0.mk (show (([] : List (Int × Int)).length + m.Cuts.length) * 16 ≤ 140737488355328 by simp; omega)
    have HL2 := Aside0.mk (show (m.Cuts.length + 1) * 16 ≤ 140737488355328 by omega)
    clear hm h x0 x1 hFB hFC hcC hcB x2
    go_enter Try.func41, Try.ntmps41
    go_wp2_with (first
      | (go_at_call 48; refine HLK.out.mono ?_; rintro e w2 ⟨rfl, hb⟩; have HB := Aside0.mk (below_alloc hb (.cells #[.int .i64 lo, .int .i64 hi] 80)); have BX := Aside0.mk (heap_alloc_new w2 (.cells #[.int .i64 lo, .int .i64 hi] 80)); clear hb)
      | (go_at_call 49; refine (HCUT.out _ (HI.out.below HB.out)).mono ?_; rintro e wc ⟨rfl, hb⟩; have HB2 := Aside0.mk (below_then HB.out HB.out.size hb); have BX2 := Aside0.mk (blk_below BX.out hb); clear hb; have x2 := pw_cell_below HB2.out X2.out))
    have h0 : wc.drew.cell? ⟨g, 2, none⟩ = some (.slice AC m.Cuts.length cC) := x2
    have h1 := (cells_at (blk_drew BX2.out) (j := 0) rfl).1
    have h2 := (cells_at (blk_drew BX2.out) (j := 1) rfl).1
    refine start_ (n := 13) (S := fun w' => w'.cell? ⟨g, 2, none⟩ = some (.slice AC m.Cuts.length cC) ∧ w'.cell? ⟨w2.heap.size, 0, none⟩ = some (.int .i64 lo) ∧ w'.cell? ⟨w2.heap.size, 1, none⟩ = some (.int .i64 hi)) (ds := [9, 12]) #[false, false, false, false, false, false, false, false, false, false, false, false, false] (by kernel_rfl) rfl rfl ⟨h0, h1, h2⟩ (fun hHeld => ?_)
    refine with_tabW rcutt.tab5 rcutt.bits5 (fun HT_ HW_ => ?_)
    have HB3 := Aside0.mk (below_drew HB2.out)
    have HI3 := Aside0.mk (HI.out.below HB3.out)
    have HFX := Aside0.mk (show Kd.F k80 wc.drew (fun k => fr k ∧ k ≠ g) AC m.Cuts.length m.Cuts from cuts_F HI3.out h0)
    have HOK := Aside0.mk HI3.out.lts
    have BK := Aside0.mk (ref_blk2 HI3.out h0)
    have HBc := Aside0.mk (Below.refl wc.drew.heap.size wc.drew)
    clear HB HB2 x2 BX BX2
    generalize w2.heap.size = bx at *
    generalize wc.drew = w3 at *
    obtain ⟨AB', cB', BK⟩ := BK.out
    have BK := Aside0.mk BK
    refine pure_ (i := 0) (N := some 22) (v := ?_) (a' := ?_) #[true, false, false, false, false, false, false, false, false, false, false, false, false] rfl rfl (any_of HT_.out (by kernel_rfl)) (fun _ _ _ h => h) (Or.inl ⟨by rfl, ?_⟩) ?_ ?_
    rotate_left; (intro w'; go_simp; with_reducible rfl); rotate_left; (simp only [Act.put, List.setIfInBounds_toArray, List.set_cons_zero, List.set_cons_succ, i64_w, i32_w]; rfl)
    refine pure_ (i := 2) (N := some 24) (v := ?_) (a' := ?_) #[true, false, true, false, false, false, false, false, false, false, false, false, false] rfl rfl (any_of HT_.out (by kernel_rfl)) (fun _ _ _ h => h) (Or.inl ⟨by rfl, ?_⟩) ?_ ?_
    rotate_left; (intro w'; go_simp; with_reducible rfl); rotate_left; (simp only [Act.put, List.setIfInBounds_toArray, List.set_cons_zero, List.set_cons_succ, i64_w, i32_w]; rfl)
    refine pure_ (i := 3) (N := some 25) (v := ?_) (a' := ?_) #[true, false, true, true, false, false, false, false, false, false, false, false, false] rfl rfl (any_of HT_.out (by kernel_rfl)) (fun _ _ _ h => h) (Or.inl ⟨by rfl, ?_⟩) ?_ ?_
    rotate_left; (intro w'; go_simp; with_reducible rfl); rotate_left; (simp only [Act.put, List.setIfInBounds_toArray, List.set_cons_zero, List.set_cons_succ, i64_w, i32_w]; rfl)
    refine pure_ (i := 4) (N := some 26) (v := ?_) (a' := ?_) #[true, false, true, true, true, false, false, false, false, false, false, false, false] rfl rfl (any_of HT_.out (by kernel_rfl)) (fun _ _ _ h => h) (Or.inl ⟨by rfl, ?_⟩) ?_ ?_
    rotate_left; (intro w'; go_simp; with_reducible rfl); rotate_left; (simp only [Act.put, List.setIfInBounds_toArray, List.set_cons_zero, List.set_cons_succ, i64_w, i32_w]; rfl)
    refine take_ (i := 5) (N := some 27) (v := ?_) (a' := ?_) #[true, false, true, true, true, true, false, false, false, false, false, false, false] rfl rfl (take_ofW HT_.out HW_.out (by kernel_rfl)) (fun _ _ _ h => h) (Or.inl ⟨by rfl, ?_⟩) hHeld ?_ ?_
    rotate_left; (rintro w' ⟨s0, s1, s2⟩; go_simp; with_reducible rfl); rotate_left; (simp only [Act.put, List.setIfInBounds_toArray, List.set_cons_zero, List.set_cons_succ, i64_w, i32_w]; rfl)
    refine take_ (i := 7) (N := some 29) (v := ?_) (a' := ?_) #[true, false, true, true, true, true, false, true, false, false, false, false, false] rfl rfl (take_ofW HT_.out HW_.out (by kernel_rfl)) (fun _ _ _ h => h) (Or.inl ⟨by rfl, ?_⟩) hHeld ?_ ?_
    rotate_left; (rintro w' ⟨s0, s1, s2⟩; go_simp; with_reducible rfl); rotate_left; (simp only [Act.put, List.setIfInBounds_toArray, List.set_cons_zero, List.set_cons_succ, i64_w, i32_w]; rfl)
    refine two_ (i := 1) (j := 8) (Ni := some 23) (Nj := some 30) #[true, true, true, true, true, true, false, true, false, false, false, false, false] #[true, false, true, true, true, true, false, true, true, false, false, false, false] rfl rfl rfl rfl (two_of HT_.out (by kernel_rfl)) (by decide) (by decide) (fun K hK => ?_) (fun K hK => ?_)
    · refine fresh_lit_step k80 80 (w := w3) (okp := (fun k => fr k ∧ k ≠ g)) (by rfl) (N' := 23) rfl (by first | (go_simp; done) | (go_simp; rfl)) HBc.out ?_
      intro v0 w4 hf hb hown
      have HF := Aside0.mk hf
      clear HBc
      have HBc := Aside0.mk hf.2
      clear hf hb hown
      refine hK.out _ _ ⟨pw_cell_below HBc.out h0, pw_cell_below HBc.out h1, pw_cell_below HBc.out h2⟩ (fun hHeld => ?_)
      clear hK K
      refine norm_ (a' := ?_) ?_ ?_
      rotate_left; (show Act.put _ (some 23) _ = _; simp only [Act.put, List.setIfInBounds_toArray, List.set_cons_zero, List.set_cons_succ, i64_w, i32_w]; rfl)
      refine two_ (i := 6) (j := 8) (Ni := some 28) (Nj := some 30) #[true, true, true, true, true, true, true, true, false, false, false, false, false] #[true, true, true, true, true, true, false, true, true, false, false, false, false] rfl rfl rfl rfl (two_of HT_.out (by kernel_rfl)) (by decide) (by decide) (fun K hK => ?_) (fun K hK => ?_)
      · refine fresh_rows_step HF.out (by rfl) (.tmp 23) (.tmp 27) 62 _ 16 rfl Try.underlying62 info80r rfl (by decide) (by decide) (fun k => fr k ∧ k ≠ g) rfl rfl (Kd.F_below HFX.out HBc.out) (fun k hk => ⟨.inl hk, fun e => by have := Kd.N_base HF.out.1 k e.symm; have := HOK.out k hk.1; omega⟩) HL1.out ?_
        intro v1 w5 hf hg hat
        rw [List.nil_append] at hf
        clear HF HBc
        have HF := Aside0.mk hf
        have HBc := Aside0.mk hf.2
        clear hf hg hat
        refine hK.out _ _ ⟨pw_cell_below HBc.out h0, pw_cell_below HBc.out h1, pw_cell_below HBc.out h2⟩ (fun hHeld => ?_)
        clear hK K
        refine norm_ (a' := ?_) ?_ ?_
        rotate_left; (show Act.put _ (some 28) _ = _; simp only [Act.put, List.setIfInBounds_toArray, List.set_cons_zero, List.set_cons_succ, i64_w, i32_w]; rfl)
        refine one_ (i := 8) (N := some 30) #[true, true, true, true, true, true, true, true, true, false, false, false, false] rfl rfl (one_of HT_.out (by kernel_rfl)) (by decide) (fun K hK => ?_)
        refine value_ (w1 := w5.alloc (.cells #[.int .i64 lo, .int .i64 hi] 80)) (v := .slice (some ⟨w5.heap.size, 0, none⟩) 1 1) (by rfl) rfl ?_ ?_
        · go_simp
        have hfk : Kd.FK k80 w5 (fun _ => False) (lo, hi) [.int .i64 lo, .int .i64 hi] := fun W' _ => k80_mk W' (lo, hi)
        obtain ⟨okE, hE, hE1, hE2⟩ := one_F k80 80 w5 hfk (fun k hk => Nat.lt_of_lt_of_le ((False.elim hk : k < w3.heap.size)) HBc.out.size) rfl (by decide)
        clear hfk
        have HE := Aside0.mk hE
        have HEL := Aside0.mk hE1
        have HEO := Aside0.mk (show ∀ k, okE k → (fr k ∧ k ≠ g) ∨ w3.heap.size ≤ k from fun k hk => by
          rcases hE2 k hk with h | h
          · exact .inl h.elim
          · subst h; exact .inr HBc.out.size)
        have hnl := Kd.N_lt HF.out.1
        have hnb := Kd.N_base HF.out.1
        have HNE := Aside0.mk (show ∀ k, okE k → some k ≠ v1.ownBlock from fun k hk e => by
          have h1 := hnl k e.symm
          have h2 := hnb k e.symm
          rcases hE2 k hk with h | h
          · have := (False.elim h : k < w3.heap.size); omega
          · omega)
        clear hnl hnb
        have HF2 := Aside0.mk (HF.out.past (below_alloc (Below.refl _ _) (.cells #[.int .i64 lo, .int .i64 hi] 80)))
        clear HF
        have HF := HF2
        clear HF2
        have HBc2 := Aside0.mk (below_alloc HBc.out (.cells #[.int .i64 lo, .int .i64 hi] 80))
        clear HBc
        have HBc := HBc2
        clear HBc2 hE hE1 hE2
        refine hK.out _ _ ⟨pw_cell_below HBc.out h0, pw_cell_below HBc.out h1, pw_cell_below HBc.out h2⟩ (fun hHeld => ?_)
        clear hK K
        refine norm_ (a' := ?_) ?_ ?_
        rotate_left; (show Act.put _ (some 30) _ = _; simp only [Act.put, List.setIfInBounds_toArray, List.set_cons_zero, List.set_cons_succ, i64_w, i32_w]; rfl)
        refine last_ (i := 9) (N := some 31) #[true, true, true, true, true, true, true, true, true, true, false, false, false] rfl rfl (one_of HT_.out (by kernel_rfl)) (by decide) (fun K hK => ?_)
        refine fresh_rows_step HF.out (by rfl) (.tmp 28) (.tmp 30) 62 _ 16 rfl Try.underlying62 info80r rfl (by decide) (by decide) okE rfl rfl HE.out (fun k hk => ⟨HEO.out k hk, HNE.out k hk⟩) HL2.out ?_
        intro v2 w6 hf hg hat
        obtain ⟨A6, c6, rfl⟩ := hf.slice
        have x1 := pw_cell_below hf.2 h0
        have y1 := (cells_at ((hf.2.block g (HOK.out g HG.out)).trans BK.out) (j := 2) rfl).2
        have HR := Aside0.mk (RefTo.cuts HI3.out hf)
        clear hf hg hat hHeld HF HE
        refine hK.out _ _ ?_
        clear hK K
        refine norm_ (a' := ?_) ?_ ?_
        rotate_left; (show Act.put _ (some 31) _ = _; simp only [Act.put, List.setIfInBounds_toArray, List.set_cons_zero, List.set_cons_succ, i64_w, i32_w]; rfl)
        refine pure_ (i := 10) (N := some 32) (v := ?_) (a' := ?_) #[true, true, true, true, true, true, true, true, true, true, true, false, false] rfl rfl (any_of HT_.out (by kernel_rfl)) (fun _ _ _ h => h) (Or.inl ⟨by rfl, ?_⟩) ?_ ?_
        rotate_left; (intro w'; go_simp; with_reducible rfl); rotate_left; (simp only [Act.put, List.setIfInBounds_toArray, List.set_cons_zero, List.set_cons_succ, i64_w, i32_w]; rfl)
        refine pure_ (i := 11) (N := some 33) (v := ?_) (a' := ?_) #[true, true, true, true, true, true, true, true, true, true, true, true, false] rfl rfl (any_of HT_.out (by kernel_rfl)) (fun _ _ _ h => h) (Or.inl ⟨by rfl, ?_⟩) ?_ ?_
        rotate_left; (intro w'; go_simp; with_reducible rfl); rotate_left; (simp only [Act.put, List.setIfInBounds_toArray, List.set_cons_zero, List.set_cons_succ, i64_w, i32_w]; rfl)
        refine last_ (i := 12) (N := none) #[true, true, true, true, true, true, true, true, true, true, true, true, true] rfl rfl (one_of HT_.out (by kernel_rfl)) (by decide) (fun K hK => ?_)
        refine skip_ (w1 := ?_) (by rfl) rfl ?_ ?_
        rotate_left
        · go_simp
          rfl
        clear x1 y1
        refine hK.out _ _ ?_
        clear hK K
        refine done_ (done_of HT_.out (by kernel_rfl)) ?_
        go_wp2
        go_ret
        exact ⟨rfl, by have h := HR.out.after HB3.out; rw [List.length_append, List.length_singleton] at h; exact h⟩
      · refine value_ (w1 := w4.alloc (.cells #[.int .i64 lo, .int .i64 hi] 80)) (v := .slice (some ⟨w4.heap.size, 0, none⟩) 1 1) (by rfl) rfl ?_ ?_
        · go_simp
        have hfk : Kd.FK k80 w4 (fun _ => False) (lo, hi) [.int .i64 lo, .int .i64 hi] := fun W' _ => k80_mk W' (lo, hi)
        obtain ⟨okE, hE, hE1, hE2⟩ := one_F k80 80 w4 hfk (fun k hk => Nat.lt_of_lt_of_le ((False.elim hk : k < w3.heap.size)) HBc.out.size) rfl (by decide)
        clear hfk
        have HE := Aside0.mk hE
        have HEL := Aside0.mk hE1
        have HEO := Aside0.mk (show ∀ k, okE k → (fr k ∧ k ≠ g) ∨ w3.heap.size ≤ k from fun k hk => by
          rcases hE2 k hk with h | h
          · exact .inl h.elim
          · subst h; exact .inr HBc.out.size)
        have hnl := Kd.N_lt HF.out.1
        have hnb := Kd.N_base HF.out.1
        have HNE := Aside0.mk (show ∀ k, okE k → some k ≠ v0.ownBlock from fun k hk e => by
          have h1 := hnl k e.symm
          have h2 := hnb k e.symm
          rcases hE2 k hk with h | h
          · have := (False.elim h : k < w3.heap.size); omega
          · omega)
        clear hnl hnb
        have HF2 := Aside0.mk (HF.out.past (below_alloc (Below.refl _ _) (.cells #[.int .i64 lo, .int .i64 hi] 80)))
        clear HF
        have HF := HF2
        clear HF2
        have HBc2 := Aside0.mk (below_alloc HBc.out (.cells #[.int .i64 lo, .int .i64 hi] 80))
        clear HBc
        have HBc := HBc2
        clear HBc2 hE hE1 hE2
        refine hK.out _ _ ⟨pw_cell_below HBc.out h0, pw_cell_below HBc.out h1, pw_cell_below HBc.out h2⟩ (fun hHeld => ?_)
        clear hK K
        refine norm_ (a' := ?_) ?_ ?_
        rotate_left; (show Act.put _ (some 30) _ = _; simp only [Act.put, List.setIfInBounds_toArray, List.set_cons_zero, List.set_cons_succ, i64_w, i32_w]; rfl)
        refine one_ (i := 6) (N := some 28) #[true, true, true, true, true, true, true, true, true, false, false, false, false] rfl rfl (one_of HT_.out (by kernel_rfl)) (by decide) (fun K hK => ?_)
        refine fresh_rows_step HF.out (by rfl) (.tmp 23) (.tmp 27) 62 _ 16 rfl Try.underlying62 info80r rfl (by decide) (by decide) (fun k => fr k ∧ k ≠ g) rfl rfl (Kd.F_below HFX.out HBc.out) (fun k hk => ⟨.inl hk, fun e => by have := Kd.N_base HF.out.1 k e.symm; have := HOK.out k hk.1; omega⟩) HL1.out ?_
        intro v1 w5 hf hg hat
        rw [List.nil_append] at hf
        have HE2 := Aside0.mk (Kd.F_grown HE.out hg (fun k hk => HNE.out k hk))
        have HNE2 := Aside0.mk (show ∀ k, okE k → some k ≠ v1.ownBlock from fun k hk e => by
          rcases hat with h | ⟨b, h, hle⟩
          · rw [h] at e; exact HNE.out k hk e
          · rw [h] at e; injection e with e; have := HEL.out k hk; omega)
        clear HE HNE
        have HE := HE2
        have HNE := HNE2
        clear HE2 HNE2
        clear HF HBc
        have HF := Aside0.mk hf
        have HBc := Aside0.mk hf.2
        clear hf hg hat
        refine hK.out _ _ ⟨pw_cell_below HBc.out h0, pw_cell_below HBc.out h1, pw_cell_below HBc.out h2⟩ (fun hHeld => ?_)
        clear hK K
        refine norm_ (a' := ?_) ?_ ?_
        rotate_left; (show Act.put _ (some 28) _ = _; simp only [Act.put, List.setIfInBounds_toArray, List.set_cons_zero, List.set_cons_succ, i64_w, i32_w]; rfl)
        refine last_ (i := 9) (N := some 31) #[true, true, true, true, true, true, true, true, true, true, false, false, false] rfl rfl (one_of HT_.out (by kernel_rfl)) (by decide) (fun K hK => ?_)
        refine fresh_rows_step HF.out (by rfl) (.tmp 28) (.tmp 30) 62 _ 16 rfl Try.underlying62 info80r rfl (by decide) (by decide) okE rfl rfl HE.out (fun k hk => ⟨HEO.out k hk, HNE.out k hk⟩) HL2.out ?_
        intro v2 w6 hf hg hat
        obtain ⟨A6, c6, rfl⟩ := hf.slice
        have x1 := pw_cell_below hf.2 h0
        have y1 := (cells_at ((hf.2.block g (HOK.out g HG.out)).trans BK.out) (j := 2) rfl).2
        have HR := Aside0.mk (RefTo.cuts HI3.out hf)
        clear hf hg hat hHeld HF HE
        refine hK.out _ _ ?_
        clear hK K
        refine norm_ (a' := ?_) ?_ ?_
        rotate_left; (show Act.put _ (some 31) _ = _; simp only [Act.put, List.setIfInBounds_toArray, List.set_cons_zero, List.set_cons_succ, i64_w, i32_w]; rfl)
        refine pure_ (i := 10) (N := some 32) (v := ?_) (a' := ?_) #[true, true, true, true, true, true, true, true, true, true, true, false, false] rfl rfl (any_of HT_.out (by kernel_rfl)) (fun _ _ _ h => h) (Or.inl ⟨by rfl, ?_⟩) ?_ ?_
        rotate_left; (intro w'; go_simp; with_reducible rfl); rotate_left; (simp only [Act.put, List.setIfInBounds_toArray, List.set_cons_zero, List.set_cons_succ, i64_w, i32_w]; rfl)
        refine pure_ (i := 11) (N := some 33) (v := ?_) (a' := ?_) #[true, true, true, true, true, true, true, true, true, true, true, true, false] rfl rfl (any_of HT_.out (by kernel_rfl)) (fun _ _ _ h => h) (Or.inl ⟨by rfl, ?_⟩) ?_ ?_
        rotate_left; (intro w'; go_simp; with_reducible rfl); rotate_left; (simp only [Act.put, List.setIfInBounds_toArray, List.set_cons_zero, List.set_cons_succ, i64_w, i32_w]; rfl)
        refine last_ (i := 12) (N := none) #[true, true, true, true, true, true, true, true, true, true, true, true, true] rfl rfl (one_of HT_.out (by kernel_rfl)) (by decide) (fun K hK => ?_)
        refine skip_ (w1 := ?_) (by rfl) rfl ?_ ?_
        rotate_left
        · go_simp
          rfl
        clear x1 y1
        refine hK.out _ _ ?_
        clear hK K
        refine done_ (done_of HT_.out (by kernel_rfl)) ?_
        go_wp2
        go_ret
        exact ⟨rfl, by have h := HR.out.after HB3.out; rw [List.length_append, List.length_singleton] at h; exact h⟩
    · refine value_ (w1 := w3.alloc (.cells #[.int .i64 lo, .int .i64 hi] 80)) (v := .slice (some ⟨w3.heap.size, 0, none⟩) 1 1) (by rfl) rfl ?_ ?_
      · go_simp
      have hfk : Kd.FK k80 w3 (fun _ => False) (lo, hi) [.int .i64 lo, .int .i64 hi] := fun W' _ => k80_mk W' (lo, hi)
      obtain ⟨okE, hE, hE1, hE2⟩ := one_F k80 80 w3 hfk (fun k hk => Nat.lt_of_lt_of_le ((False.elim hk : k < w3.heap.size)) HBc.out.size) rfl (by decide)
      clear hfk
      have HE := Aside0.mk hE
      have HEL := Aside0.mk hE1
      have HEO := Aside0.mk (show ∀ k, okE k → (fr k ∧ k ≠ g) ∨ w3.heap.size ≤ k from fun k hk => by
        rcases hE2 k hk with h | h
        · exact .inl h.elim
        · subst h; exact .inr HBc.out.size)
      have HBc2 := Aside0.mk (below_alloc HBc.out (.cells #[.int .i64 lo, .int .i64 hi] 80))
      clear HBc
      have HBc := HBc2
      clear HBc2 hE hE1 hE2
      refine hK.out _ _ ⟨pw_cell_below HBc.out h0, pw_cell_below HBc.out h1, pw_cell_below HBc.out h2⟩ (fun hHeld => ?_)
      clear hK K
      refine norm_ (a' := ?_) ?_ ?_
      rotate_left; (show Act.put _ (some 30) _ = _; simp only [Act.put, List.setIfInBounds_toArray, List.set_cons_zero, List.set_cons_succ, i64_w, i32_w]; rfl)
      refine one_ (i := 1) (N := some 23) #[true, true, true, true, true, true, false, true, true, false, false, false, false] rfl rfl (one_of HT_.out (by kernel_rfl)) (by decide) (fun K hK => ?_)
      refine fresh_lit_step k80 80 (w := w3) (okp := (fun k => fr k ∧ k ≠ g)) (by rfl) (N' := 23) rfl (by first | (go_simp; done) | (go_simp; rfl)) HBc.out ?_
      intro v0 w4 hf hb hown
      have HNE := Aside0.mk (show ∀ k, okE k → some k ≠ v0.ownBlock from fun k hk e => by have := hown k e.symm; have := HEL.out k hk; omega)
      have HE2 := Aside0.mk (Kd.F_below HE.out hb)
      have HEL2 := Aside0.mk (show ∀ k, okE k → k < w4.heap.size from fun k hk => Nat.lt_of_lt_of_le (HEL.out k hk) hb.size)
      clear HE HEL
      have HE := HE2
      have HEL := HEL2
      clear HE2 HEL2
      have HF := Aside0.mk hf
      clear HBc
      have HBc := Aside0.mk hf.2
      clear hf hb hown
      refine hK.out _ _ ⟨pw_cell_below HBc.out h0, pw_cell_below HBc.out h1, pw_cell_below HBc.out h2⟩ (fun hHeld => ?_)
      clear hK K
      refine norm_ (a' := ?_) ?_ ?_
      rotate_left; (show Act.put _ (some 23) _ = _; simp only [Act.put, List.setIfInBounds_toArray, List.set_cons_zero, List.set_cons_succ, i64_w, i32_w]; rfl)
      refine one_ (i := 6) (N := some 28) #[true, true, true, true, true, true, true, true, true, false, false, false, false] rfl rfl (one_of HT_.out (by kernel_rfl)) (by decide) (fun K hK => ?_)
      refine fresh_rows_step HF.out (by rfl) (.tmp 23) (.tmp 27) 62 _ 16 rfl Try.underlying62 info80r rfl (by decide) (by decide) (fun k => fr k ∧ k ≠ g) rfl rfl (Kd.F_below HFX.out HBc.out) (fun k hk => ⟨.inl hk, fun e => by have := Kd.N_base HF.out.1 k e.symm; have := HOK.out k hk.1; omega⟩) HL1.out ?_
      intro v1 w5 hf hg hat
      rw [List.nil_append] at hf
      have HE2 := Aside0.mk (Kd.F_grown HE.out hg (fun k hk => HNE.out k hk))
      have HNE2 := Aside0.mk (show ∀ k, okE k → some k ≠ v1.ownBlock from fun k hk e => by
        rcases hat with h | ⟨b, h, hle⟩
        · rw [h] at e; exact HNE.out k hk e
        · rw [h] at e; injection e with e; have := HEL.out k hk; omega)
      clear HE HNE
      have HE := HE2
      have HNE := HNE2
      clear HE2 HNE2
      clear HF HBc
      have HF := Aside0.mk hf
      have HBc := Aside0.mk hf.2
      clear hf hg hat
      refine hK.out _ _ ⟨pw_cell_below HBc.out h0, pw_cell_below HBc.out h1, pw_cell_below HBc.out h2⟩ (fun hHeld => ?_)
      clear hK K
      refine norm_ (a' := ?_) ?_ ?_
      rotate_left; (show Act.put _ (some 28) _ = _; simp only [Act.put, List.setIfInBounds_toArray, List.set_cons_zero, List.set_cons_succ, i64_w, i32_w]; rfl)
      refine last_ (i := 9) (N := some 31) #[true, true, true, true, true, true, true, true, true, true, false, false, false] rfl rfl (one_of HT_.out (by kernel_rfl)) (by decide) (fun K hK => ?_)
      refine fresh_rows_step HF.out (by rfl) (.tmp 28) (.tmp 30) 62 _ 16 rfl Try.underlying62 info80r rfl (by decide) (by decide) okE rfl rfl HE.out (fun k hk => ⟨HEO.out k hk, HNE.out k hk⟩) HL2.out ?_
      intro v2 w6 hf hg hat
      obtain ⟨A6, c6, rfl⟩ := hf.slice
      have x1 := pw_cell_below hf.2 h0
      have y1 := (cells_at ((hf.2.block g (HOK.out g HG.out)).trans BK.out) (j := 2) rfl).2
      have HR := Aside0.mk (RefTo.cuts HI3.out hf)
      clear hf hg hat hHeld HF HE
      refine hK.out _ _ ?_
      clear hK K
      refine norm_ (a' := ?_) ?_ ?_
      rotate_left; (show Act.put _ (some 31) _ = _; simp only [Act.put, List.setIfInBounds_toArray, List.set_cons_zero, List.set_cons_succ, i64_w, i32_w]; rfl)
      refine pure_ (i := 10) (N := some 32) (v := ?_) (a' := ?_) #[true, true, true, true, true, true, true, true, true, true, true, false, false] rfl rfl (any_of HT_.out (by kernel_rfl)) (fun _ _ _ h => h) (Or.inl ⟨by rfl, ?_⟩) ?_ ?_
      rotate_left; (intro w'; go_simp; with_reducible rfl); rotate_left; (simp only [Act.put, List.setIfInBounds_toArray, List.set_cons_zero, List.set_cons_succ, i64_w, i32_w]; rfl)
      refine pure_ (i := 11) (N := some 33) (v := ?_) (a' := ?_) #[true, true, true, true, true, true, true, true, true, true, true, true, false] rfl rfl (any_of HT_.out (by kernel_rfl)) (fun _ _ _ h => h) (Or.inl ⟨by rfl, ?_⟩) ?_ ?_
      rotate_left; (intro w'; go_simp; with_reducible rfl); rotate_left; (simp only [Act.put, List.setIfInBounds_toArray, List.set_cons_zero, List.set_cons_succ, i64_w, i32_w]; rfl)
      refine last_ (i := 12) (N := none) #[true, true, true, true, true, true, true, true, true, true, true, true, true] rfl rfl (one_of HT_.out (by kernel_rfl)) (by decide) (fun K hK => ?_)
      refine skip_ (w1 := ?_) (by rfl) rfl ?_ ?_
      rotate_left
      · go_simp
        rfl
      clear x1 y1
      refine hK.out _ _ ?_
      clear hK K
      refine done_ (done_of HT_.out (by kernel_rfl)) ?_
      go_wp2
      go_ret
      exact ⟨rfl, by have h := HR.out.after HB3.out; rw [List.length_append, List.length_singleton] at h; exact h⟩
end Go.Proofs.Ytnaefndclalepaa.Net
