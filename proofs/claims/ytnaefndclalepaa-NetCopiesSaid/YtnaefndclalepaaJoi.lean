/- A net and the document's net side by side: what their calls answer, and that the others' blocks stay. -/
import Derived.Test.YtnaefndclalepaaRfc
namespace Go.Proofs.Ytnaefndclalepaa.Net
set_option linter.unusedVariables false
set_option linter.unusedSimpArgs false
open Go.RowKit Go.Shelf Go.Proofs.YtnaefndclalepaaW.PrintWords Go.Proofs.YtnaefndclalepaaW.PrintLast Go.Proofs.YtnaefndclalepaaW.PrintMore Go.Proofs.Ytnaefndclalepaa.XN
/-- Since w: a net and the document's; Q stays, B is the call's own. -/
def J (w W : World) (p : Option Addr) (n : NetS) (g : Nat) (m : RefS) (fp0 fr0 Q B : Nat → Prop) : Prop :=
  ∃ fp fr : Nat → Prop, Recv W p fp n ∧ Good n ∧ IsRef W g fr m ∧ m.Cuts.length ≤ 10000 ∧ (∀ k, fp k → fr k → False) ∧ (∀ k, fp k → k < W.heap.size) ∧ (∀ k, Q k → k < W.heap.size ∧ ¬ fp k ∧ k ≠ g) ∧ (∀ k, B k → (w.heap.size ≤ k ∧ k < W.heap.size) ∧ ¬ fp k ∧ ¬ fr k) ∧
    (∀ k, fp k → fp0 k ∨ w.heap.size ≤ k) ∧ (∀ k, fr k → fr0 k ∨ w.heap.size ≤ k) ∧ Fr (fun k => fp0 k ∨ k = g) w W
section
variable {w W W' : World} {p : Option Addr} {n n' : NetS} {g : Nat} {m m' : RefS} {fp0 fr0 Q Q' B B' : Nat → Prop}
theorem J.good (h : J w W p n g m fp0 fr0 Q B) : Good n := by obtain ⟨_, _, _, h, _⟩ := h; exact h
theorem J.frame (h : J w W p n g m fp0 fr0 Q B) : Fr (fun k => fp0 k ∨ k = g) w W := by obtain ⟨_, _, _, _, _, _, _, _, _, _, _, _, h⟩ := h; exact h
theorem J.weak (h : J w W p n g m fp0 fr0 Q B) (hq : ∀ k, Q' k → Q k ∨ B k) (hb : ∀ k, B' k → B k) : J w W p n g m fp0 fr0 Q' B' := by
  obtain ⟨fp, fr, h1, h2, h3, h4, h5, h6, h7, h8, h9, h10, h11⟩ := h
  refine ⟨fp, fr, h1, h2, h3, h4, h5, h6, fun k hk => ?_, fun k hk => h8 k (hb k hk), h9, h10, h11⟩
  rcases hq k hk with h | h
  · exact h7 k h
  · exact ⟨(h8 k h).1.2, (h8 k h).2.1, fun e => (h8 k h).2.2 (e ▸ h3.mine)⟩
theorem J.past (h : J w W p n g m fp0 fr0 Q B) (hb : Below W.heap.size W W') : J w W' p n g m fp0 fr0 Q B := by
  obtain ⟨fp, fr, h1, h2, h3, h4, h5, h6, h7, h8, h9, h10, h11⟩ := h
  exact ⟨fp, fr, h1.below hb, h2, h3.below hb, h4, h5, fun k hk => Nat.lt_of_lt_of_le (h6 k hk) hb.size, fun k hk => ⟨Nat.lt_of_lt_of_le (h7 k hk).1 hb.size, (h7 k hk).2⟩, fun k hk => ⟨⟨(h8 k hk).1.1, Nat.lt_of_lt_of_le (h8 k hk).1.2 hb.size⟩, (h8 k hk).2⟩, h9, h10, h11.trans (Fr.of_below hb (fun _ => False)) (fun _ h _ => h.elim)⟩
theorem J.drew (h : J w W p n g m fp0 fr0 Q B) : J w W.drew p n g m fp0 fr0 Q B := h.past (below_drew (Below.refl _ _))
/-- What is new since W may become the call's own. -/
theorem J.own (h : J w W p n g m fp0 fr0 Q B) (hb : Below W.heap.size W W') (hB : ∀ k, B' k → B k ∨ (W.heap.size ≤ k ∧ k < W'.heap.size)) : J w W' p n g m fp0 fr0 Q B' := by
  have h' := h.past hb
  obtain ⟨fp, fr, h1, h2, h3, h4, h5, h6, h7, h8, h9, h10, h11⟩ := h
  have h3' := h3.lts
  refine ⟨fp, fr, h1.below hb, h2, h3.below hb, h4, h5, fun k hk => Nat.lt_of_lt_of_le (h6 k hk) hb.size, fun k hk => ⟨Nat.lt_of_lt_of_le (h7 k hk).1 hb.size, (h7 k hk).2⟩, fun k hk => ?_, h9, h10, h11.trans (Fr.of_below hb (fun _ => False)) (fun _ h _ => h.elim)⟩
  rcases hB k hk with h | h
  · exact ⟨⟨(h8 k h).1.1, Nat.lt_of_lt_of_le (h8 k h).1.2 hb.size⟩, (h8 k h).2⟩
  · exact ⟨⟨Nat.le_trans h11.size h.1, h.2⟩, fun hf => by have := h6 k hf; omega, fun hf => by have := h3' k hf; omega⟩
theorem J.alloc (h : J w W p n g m fp0 fr0 Q B) (o : Obj) : J w (W.alloc o) p n g m fp0 fr0 Q (fun k => B k ∨ k = W.heap.size) :=
  h.own (below_alloc (Below.refl _ _) o) (fun k hk => hk.imp id (fun e => by subst e; simp))
theorem J.set (h : J w W p n g m fp0 fr0 Q B) {a : Addr} (ha : B a.block) (u : Value) : J w (W.setCell a u) p n g m fp0 fr0 Q B := by
  obtain ⟨fp, fr, h1, h2, h3, h4, h5, h6, h7, h8, h9, h10, h11⟩ := h
  have hx : Fr (fun k => k = a.block) W (W.setCell a u) := (Fr.refl (fun k => k = a.block) W).setCell (p := a) (fun _ => rfl) u
  refine ⟨fp, fr, h1.fr hx (fun k hk e => (h8 _ ha).2.1 (e ▸ hk)), h2, h3.fr hx (fun k hk e => (h8 _ ha).2.2 (e ▸ hk)), h4, h5, fun k hk => Nat.lt_of_lt_of_le (h6 k hk) hx.size, fun k hk => ⟨Nat.lt_of_lt_of_le (h7 k hk).1 hx.size, (h7 k hk).2⟩, fun k hk => ⟨⟨(h8 k hk).1.1, Nat.lt_of_lt_of_le (h8 k hk).1.2 hx.size⟩, (h8 k hk).2⟩, h9, h10, h11.trans hx (fun k e hk => ?_)⟩
  have := (h8 _ ha).1.1
  omega
theorem disj_more {Q B B' : Nat → Prop} {s : Nat} (h : ∀ k, Q k → ¬ B k) (hs : ∀ k, Q k → k < s) (hB : ∀ k, B' k → B k ∨ s ≤ k) : ∀ k, Q k → ¬ B' k := fun k hk hb => by
  rcases hB k hb with h' | h'
  · exact h k hk h'
  · have := hs k hk; omega
theorem J.lt (h : J w W p n g m fp0 fr0 Q B) : ∀ k, Q k → k < W.heap.size := by
  obtain ⟨_, _, _, _, _, _, _, _, h7, _⟩ := h
  exact fun k hk => (h7 k hk).1
theorem J.allocD (h : J w W p n g m fp0 fr0 Q B) (hd : ∀ k, Q k → ¬ B k) (o : Obj) : ∃ B' : Nat → Prop, J w (W.alloc o) p n g m fp0 fr0 Q B' ∧ (∀ k, Q k → ¬ B' k) ∧ (∀ k, B k → B' k) ∧ B' W.heap.size :=
  ⟨_, h.alloc o, disj_more hd h.lt (fun k hk => hk.imp id (fun e => by omega)), fun k hk => .inl hk, .inr rfl⟩
/-- A call of the net. -/
theorem J.net {fp fp' fr : Nat → Prop} (h3 : IsRef W g fr m) (h4 : m.Cuts.length ≤ 10000) (h5 : ∀ k, fp k → fr k → False) (h6 : ∀ k, fp k → k < W.heap.size) (h7 : ∀ k, Q k → k < W.heap.size ∧ ¬ fp k ∧ k ≠ g) (h8 : ∀ k, B k → (w.heap.size ≤ k ∧ k < W.heap.size) ∧ ¬ fp k ∧ ¬ fr k) (h9 : ∀ k, fp k → fp0 k ∨ w.heap.size ≤ k) (h10 : ∀ k, fr k → fr0 k ∨ w.heap.size ≤ k) (h11 : Fr (fun k => fp0 k ∨ k = g) w W)
    (hg : Good n') (hR : Recv W' p fp' n') (hs : ∀ k, fp' k → fp k ∨ W.heap.size ≤ k) (hF : Fr fp W W') : J w W' p n' g m fp0 fr0 Q B ∧ Keeps (fun k => Q k ∨ B k) W W' := by
  have hlt := h3.lts
  refine ⟨⟨fun k => fp' k ∧ k < W'.heap.size, fr, hR.bound, hg, h3.fr hF (fun k hk hf => h5 k hf hk), h4, fun k hk hf => ?_, fun k hk => hk.2, fun k hk => ⟨Nat.lt_of_lt_of_le (h7 k hk).1 hF.size, fun hf => ?_, (h7 k hk).2.2⟩, fun k hk => ⟨⟨(h8 k hk).1.1, Nat.lt_of_lt_of_le (h8 k hk).1.2 hF.size⟩, fun hf => ?_, (h8 k hk).2.2⟩, fun k hk => ?_, h10, h11.trans hF (fun k hk hl => (h9 k hk).imp id (fun h => by omega))⟩, hF.size, fun k hk => ?_⟩
  · rcases hs k hk.1 with h | h
    · exact h5 k h hf
    · have := hlt k hf; omega
  · rcases hs k hf.1 with h | h
    · exact (h7 k hk).2.1 h
    · have := (h7 k hk).1; omega
  · rcases hs k hf.1 with h | h
    · exact (h8 k hk).2.1 h
    · have := (h8 k hk).1.2; omega
  · rcases hs k hk.1 with h | h
    · exact h9 k h
    · exact .inr (Nat.le_trans h11.size h)
  · rcases hk with h | h
    · exact hF.block k (h7 k h).1 (h7 k h).2.1
    · exact hF.block k (h8 k h).1.2 (h8 k h).2.1
/-- A call of the document's. -/
theorem J.ref {fp fr : Nat → Prop} (h1 : Recv W p fp n) (h2 : Good n) (h3 : IsRef W g fr m) (h5 : ∀ k, fp k → fr k → False) (h6 : ∀ k, fp k → k < W.heap.size) (h7 : ∀ k, Q k → k < W.heap.size ∧ ¬ fp k ∧ k ≠ g) (h8 : ∀ k, B k → (w.heap.size ≤ k ∧ k < W.heap.size) ∧ ¬ fp k ∧ ¬ fr k) (h9 : ∀ k, fp k → fp0 k ∨ w.heap.size ≤ k) (h10 : ∀ k, fr k → fr0 k ∨ w.heap.size ≤ k) (h11 : Fr (fun k => fp0 k ∨ k = g) w W)
    (h4 : m'.Cuts.length ≤ 10000) (hR : RefTo W W' g fr m') : J w W' p n g m' fp0 fr0 Q B ∧ Keeps (fun k => Q k ∨ B k) W W' := by
  have hm := h3.mine
  have hlt := h3.lts
  obtain ⟨fr', r1, r2, r3⟩ := hR
  refine ⟨⟨fp, fr', h1.fr r3 (fun k hk e => by subst e; exact h5 _ hk hm), h2, r1, h4, fun k hk hf => ?_, fun k hk => Nat.lt_of_lt_of_le (h6 k hk) r3.size, fun k hk => ⟨Nat.lt_of_lt_of_le (h7 k hk).1 r3.size, (h7 k hk).2⟩, fun k hk => ⟨⟨(h8 k hk).1.1, Nat.lt_of_lt_of_le (h8 k hk).1.2 r3.size⟩, (h8 k hk).2.1, fun hf => ?_⟩, h9, fun k hk => ?_, h11.trans r3 (fun k e _ => .inr e)⟩, r3.size, fun k hk => ?_⟩
  · rcases r2 k hf with h | h
    · exact h5 k hk h
    · have := h6 k hk; omega
  · rcases r2 k hf with h | h
    · exact (h8 k hk).2.2 h
    · have := (h8 k hk).1.2; omega
  · rcases r2 k hk with h | h
    · exact h10 k h
    · exact .inr (Nat.le_trans h11.size h)
  · rcases hk with h | h
    · exact r3.block k (h7 k h).1 (h7 k h).2.2
    · exact r3.block k (h8 k h).1.2 (fun e => (h8 k h).2.2 (e ▸ hm))
theorem J.send_ (h : J w W p n g m fp0 fr0 Q B) (a b : Int) (A : Option Addr) (c : Nat) (l : List Int) (hC : Kd.C (Kd.int .u8) W A l.length l) (hc : l.length ≤ c) : Calls Try.prog 10 #[.pointer p, .int .i64 a, .int .i64 b, .slice A l.length c] W fun e W' => e = E (sendE n a b l) ∧ J w W' p (sendN n a b l) g m fp0 fr0 Q B ∧ Keeps (fun k => Q k ∨ B k) W W' := by
  obtain ⟨fp, fr, h1, h2, h3, h4, h5, h6, h7, h8, h9, h10, h11⟩ := h
  refine (send_r n p fp W h1 a b A c l h2.nodes hC hc (by have := h2.len; omega)).mono ?_
  rintro e W' ⟨rfl, fp', r1, r2, r3⟩
  exact ⟨rfl, J.net h3 h4 h5 h6 h7 h8 h9 h10 h11 (h2.send a b l) r1 r2 r3⟩
theorem J.drop_ (h : J w W p n g m fp0 fr0 Q B) (i : Int) : Calls Try.prog 15 #[.pointer p, .int .i64 i] W fun e W' => e = E (dropE n i) ∧ J w W' p (dropN n i) g m fp0 fr0 Q B ∧ Keeps (fun k => Q k ∨ B k) W W' := by
  obtain ⟨fp, fr, h1, h2, h3, h4, h5, h6, h7, h8, h9, h10, h11⟩ := h
  refine (drop_r n p fp W h1 i (by have := h2.len; omega)).mono ?_
  rintro e W' ⟨rfl, fp', r1, r2, r3⟩
  exact ⟨rfl, J.net h3 h4 h5 h6 h7 h8 h9 h10 h11 (h2.drop i) r1 r2 r3⟩
theorem J.dbl_ (h : J w W p n g m fp0 fr0 Q B) (i : Int) : Calls Try.prog 17 #[.pointer p, .int .i64 i] W fun e W' => e = E (dblE n i) ∧ J w W' p (dblN n i) g m fp0 fr0 Q B ∧ Keeps (fun k => Q k ∨ B k) W W' := by
  obtain ⟨fp, fr, h1, h2, h3, h4, h5, h6, h7, h8, h9, h10, h11⟩ := h
  refine (dbl_r n p fp W h1 i (fun m hm => by have := h2.long m hm; omega) (by have := h2.len; omega)).mono ?_
  rintro e W' ⟨rfl, fp', r1, r2, r3⟩
  exact ⟨rfl, J.net h3 h4 h5 h6 h7 h8 h9 h10 h11 (h2.dbl i) r1 r2 r3⟩
theorem J.cut_ (h : J w W p n g m fp0 fr0 Q B) (a b : Int) : Calls Try.prog 18 #[.pointer p, .int .i64 a, .int .i64 b] W fun e W' => e = E (linkE n a b) ∧ J w W' p (n.link a b true) g m fp0 fr0 Q B ∧ Keeps (fun k => Q k ∨ B k) W W' := by
  obtain ⟨fp, fr, h1, h2, h3, h4, h5, h6, h7, h8, h9, h10, h11⟩ := h
  refine (cut_r n p fp W h1 h2.nodes a b).mono ?_
  rintro e W' ⟨rfl, r1, r3⟩
  exact ⟨rfl, J.net h3 h4 h5 h6 h7 h8 h9 h10 h11 (h2.link a b true) r1 (fun k hk => .inl hk) r3⟩
theorem J.heal_ (h : J w W p n g m fp0 fr0 Q B) (a b : Int) : Calls Try.prog 19 #[.pointer p, .int .i64 a, .int .i64 b] W fun e W' => e = E (linkE n a b) ∧ J w W' p (n.link a b false) g m fp0 fr0 Q B ∧ Keeps (fun k => Q k ∨ B k) W W' := by
  obtain ⟨fp, fr, h1, h2, h3, h4, h5, h6, h7, h8, h9, h10, h11⟩ := h
  refine (heal_r n p fp W h1 h2.nodes a b).mono ?_
  rintro e W' ⟨rfl, r1, r3⟩
  exact ⟨rfl, J.net h3 h4 h5 h6 h7 h8 h9 h10 h11 (h2.link a b false) r1 (fun k hk => .inl hk) r3⟩
theorem J.nodes_ (h : J w W p n g m fp0 fr0 Q B) : Calls Try.prog 25 #[.pointer p] W fun e W' => e = .returned (.int .i64 n.nodes) ∧ W = W' := by
  obtain ⟨fp, fr, h1, _⟩ := h
  exact nodes_r n p fp W h1
theorem J.len_ (h : J w W p n g m fp0 fr0 Q B) : Calls Try.prog 11 #[.pointer p] W fun e W' => e = .returned (.int .i64 n.all.length) ∧ W = W' := by
  obtain ⟨fp, fr, h1, _⟩ := h
  exact len_r n p fp W h1
theorem J.open_ (h : J w W p n g m fp0 fr0 Q B) (a b : Int) : Calls Try.prog 26 #[.pointer p, .int .i64 a, .int .i64 b] W fun e W' => e = .returned (.bool (openB n a b)) ∧ W = W' := by
  obtain ⟨fp, fr, h1, h2, _⟩ := h
  exact open_r n p fp W h1 h2.nodes a b
theorem J.ropen_ (h : J w W p n g m fp0 fr0 Q B) (a b : Int) : Calls Try.prog 44 #[.pointer (some ⟨g, 0, none⟩), .int .i64 a, .int .i64 b] W fun e W' => e = .returned (.bool (ropenB m a b)) ∧ Below W.heap.size W W' := by
  obtain ⟨fp, fr, h1, h2, h3, h4, _⟩ := h
  exact ropen_c m g fr W h3 a b (by omega)
theorem J.find_ (h : J w W p n g m fp0 fr0 Q B) (a i : Int) : Calls Try.prog 24 #[.pointer p, .int .i64 a, .int .i64 i] W fun e W' => e = .returned (.tuple #[.int .i64 (findI n a i), .bool (findB n a i)]) ∧ Below W.heap.size W W' := by
  obtain ⟨fp, fr, h1, h2, h3, h4, _⟩ := h
  exact find_r n p fp W h1 a i h2.nodes (by have := h2.len; omega)
theorem J.rfind_ (h : J w W p n g m fp0 fr0 Q B) (hl : m.Bag.length ≤ 1000000) (a i : Int) : Calls Try.prog 43 #[.pointer (some ⟨g, 0, none⟩), .int .i64 a, .int .i64 i] W fun e W' => ∃ r : Option Nat, e = .returned (.tuple #[.int .i64 (oI r), .bool r.isSome]) ∧ First (rfP m a) i.toNat m.Bag.length r ∧ Below W.heap.size W W' := by
  obtain ⟨fp, fr, h1, h2, h3, h4, _⟩ := h
  exact rfind_c m g fr W h3 a i hl (by omega)
theorem J.rsend_ (h : J w W p n g m fp0 fr0 Q B) (hl : m.Bag.length ≤ 1000000) (a b : Int) (A : Option Addr) (c : Nat) (l : List Int) (hC : Kd.C (Kd.int .u8) W A l.length l) (hc : l.length ≤ c) : Calls Try.prog 36 #[.pointer (some ⟨g, 0, none⟩), .int .i64 a, .int .i64 b, .slice A l.length c] W fun e W' => e = E (rsendE m a b l) ∧ J w W' p n g (rsendN m a b l) fp0 fr0 Q B ∧ Keeps (fun k => Q k ∨ B k) W W' := by
  obtain ⟨fp, fr, h1, h2, h3, h4, h5, h6, h7, h8, h9, h10, h11⟩ := h
  refine (rsend_c m g fr W h3 a b A c l hC hc hl (by omega)).mono ?_
  rintro e W' ⟨rfl, hR⟩
  exact ⟨rfl, J.ref h1 h2 h3 h5 h6 h7 h8 h9 h10 h11 (by unfold rsendN; split <;> exact h4) hR⟩
theorem J.rdrop_ (h : J w W p n g m fp0 fr0 Q B) (hl : m.Bag.length ≤ 1000000) (i : Int) : Calls Try.prog 39 #[.pointer (some ⟨g, 0, none⟩), .int .i64 i] W fun e W' => e = E (ratE m i) ∧ J w W' p n g (rdropN m i) fp0 fr0 Q B ∧ Keeps (fun k => Q k ∨ B k) W W' := by
  obtain ⟨fp, fr, h1, h2, h3, h4, h5, h6, h7, h8, h9, h10, h11⟩ := h
  refine (rdrop_c m g fr W h3 i hl).mono ?_
  rintro e W' ⟨rfl, hR⟩
  exact ⟨rfl, J.ref h1 h2 h3 h5 h6 h7 h8 h9 h10 h11 (by unfold rdropN; split <;> exact h4) hR⟩
theorem J.rdbl_ (h : J w W p n g m fp0 fr0 Q B) (hl : m.Bag.length ≤ 1000000) (i : Int) : Calls Try.prog 40 #[.pointer (some ⟨g, 0, none⟩), .int .i64 i] W fun e W' => e = E (rdblE m i) ∧ J w W' p n g (rdblN m i) fp0 fr0 Q B ∧ Keeps (fun k => Q k ∨ B k) W W' := by
  obtain ⟨fp, fr, h1, h2, h3, h4, h5, h6, h7, h8, h9, h10, h11⟩ := h
  refine (rdbl_c m g fr W h3 i hl).mono ?_
  rintro e W' ⟨rfl, hR⟩
  exact ⟨rfl, J.ref h1 h2 h3 h5 h6 h7 h8 h9 h10 h11 (by unfold rdblN; split <;> exact h4) hR⟩
theorem J.rcut_ (h : J w W p n g m fp0 fr0 Q B) (hm : m.Cuts.length < 10000) (a b : Int) : Calls Try.prog 41 #[.pointer (some ⟨g, 0, none⟩), .int .i64 a, .int .i64 b] W fun e W' => e = E (rlinkE m a b) ∧ J w W' p n g (rcutN m a b) fp0 fr0 Q B ∧ Keeps (fun k => Q k ∨ B k) W W' := by
  obtain ⟨fp, fr, h1, h2, h3, h4, h5, h6, h7, h8, h9, h10, h11⟩ := h
  refine (rcutN_c m g fr W h3 a b (by omega)).mono ?_
  rintro e W' ⟨rfl, hR⟩
  exact ⟨rfl, J.ref h1 h2 h3 h5 h6 h7 h8 h9 h10 h11 (by unfold rcutN; split; (simp; omega); exact h4) hR⟩
theorem J.rheal_ (h : J w W p n g m fp0 fr0 Q B) (a b : Int) : Calls Try.prog 42 #[.pointer (some ⟨g, 0, none⟩), .int .i64 a, .int .i64 b] W fun e W' => e = E (rlinkE m a b) ∧ J w W' p n g (rhealN m a b) fp0 fr0 Q B ∧ Keeps (fun k => Q k ∨ B k) W W' := by
  obtain ⟨fp, fr, h1, h2, h3, h4, h5, h6, h7, h8, h9, h10, h11⟩ := h
  refine (rheal_c m g fr W h3 a b (by omega)).mono ?_
  rintro e W' ⟨rfl, hR⟩
  exact ⟨rfl, J.ref h1 h2 h3 h5 h6 h7 h8 h9 h10 h11 (by unfold rhealN; split; exact Nat.le_trans (List.length_filter_le _ _) h4; exact h4) hR⟩
/-- A message that came: its bytes are the call's own now. -/
def CameJ (w W W' : World) (p : Option Addr) (n : NetS) (g : Nat) (m : RefS) (fp0 fr0 Q B : Nat → Prop) (A : Option Addr) (c : Nat) (l : List Int) : Prop :=
  ∃ q : Nat → Prop, Kd.R (Kd.int .u8) 5 W' W.heap.size q (.slice A l.length c) l ∧ l.length ≤ c ∧ (∀ k, q k → W.heap.size ≤ k) ∧ J w W' p n g m fp0 fr0 Q (fun k => B k ∨ q k) ∧ Keeps (fun k => Q k ∨ B k) W W'
theorem J.at_ (h : J w W p n g m fp0 fr0 Q B) (i : Int) : Calls Try.prog 16 #[.pointer p, .int .i64 i] W fun e W' => ∃ A c, e = .returned (.tuple #[.agg #[.int .i64 (atM n i).f0, .int .i64 (atM n i).f1, .slice A (atM n i).f2.length c], .int .i64 (atE n i)]) ∧ CameJ w W W' p n g m fp0 fr0 Q B A c (atM n i).f2 := by
  have h0 := h
  obtain ⟨fp, fr, h1, h2, h3, h4, h5, h6, h7, h8, h9, h10, h11⟩ := h
  refine (at_r n p fp W h1 i (fun m hm => by have := h2.long m hm; omega)).mono ?_
  rintro e W' ⟨vb, rfl, hR, hb⟩
  obtain ⟨A, c, rfl⟩ := Kd.R_slice hR
  refine ⟨A, c, rfl, fun k => W.heap.size ≤ k ∧ k < W'.heap.size, Kd.R_mono (Kd.R_bound hR) (fun k hk => ⟨hk.2.1, hk.2.2.1⟩), (Kd.R_reads' hR).2.1, fun k hk => hk.1, h0.own hb (fun k hk => hk), ⟨hb.size, fun k hk => hb.block k ?_⟩⟩
  rcases hk with h | h
  · exact (h7 k h).1
  · exact (h8 k h).1.2
theorem J.dlv_ (h : J w W p n g m fp0 fr0 Q B) (i : Int) : Calls Try.prog 12 #[.pointer p, .int .i64 i] W fun e W' => ∃ A c, e = .returned (.tuple #[.agg #[.int .i64 (dlvM n i).f0, .int .i64 (dlvM n i).f1, .slice A (dlvM n i).f2.length c], .int .i64 (dlvE n i)]) ∧ CameJ w W W' p (dlvN n i) g m fp0 fr0 Q B A c (dlvM n i).f2 := by
  obtain ⟨fp, fr, h1, h2, h3, h4, h5, h6, h7, h8, h9, h10, h11⟩ := h
  refine (dlv_r n p fp W h1 i h2.nodes (fun m hm => by have := h2.long m hm; omega) (by have := h2.len; omega)).mono ?_
  rintro e W' ⟨vb, rfl, fp', r1, r2, r3, hR⟩
  obtain ⟨A, c, rfl⟩ := Kd.R_slice hR
  obtain ⟨⟨fq, fs, j1, j2, j3, j4, j5, j6, j7, j8, j9, j10, j11⟩, hK⟩ := J.net (n' := dlvN n i) h3 h4 h5 h6 h7 h8 h9 h10 h11 (h2.dlv i) r1 r2 r3
  have hlt := h3.lts
  refine ⟨A, c, rfl, fun k => ¬ fp' k ∧ W.heap.size ≤ k ∧ k < W'.heap.size, Kd.R_mono (Kd.R_bound hR) (fun k hk => ⟨hk.1, hk.2.1, hk.2.2.1⟩), (Kd.R_reads' hR).2.1, fun k hk => hk.2.1, ⟨fun k => fp' k ∧ k < W'.heap.size, fr, r1.bound, h2.dlv i, h3.fr r3 (fun k hk hf => h5 k hf hk), h4, fun k hk hf => ?_, fun k hk => hk.2, fun k hk => ⟨Nat.lt_of_lt_of_le (h7 k hk).1 r3.size, fun hf => ?_, (h7 k hk).2.2⟩, fun k hk => ?_, fun k hk => ?_, h10, j11⟩, hK⟩
  · rcases r2 k hk.1 with h | h
    · exact h5 k h hf
    · have := hlt k hf; omega
  · rcases r2 k hf.1 with h | h
    · exact (h7 k hk).2.1 h
    · have := (h7 k hk).1; omega
  · rcases hk with h | h
    · refine ⟨⟨(h8 k h).1.1, Nat.lt_of_lt_of_le (h8 k h).1.2 r3.size⟩, fun hf => ?_, (h8 k h).2.2⟩
      rcases r2 k hf.1 with h' | h'
      · exact (h8 k h).2.1 h'
      · have := (h8 k h).1.2; omega
    · exact ⟨⟨Nat.le_trans h11.size h.2.1, h.2.2⟩, fun hf => h.1 hf.1, fun hf => by have := hlt k hf; have := h.2.1; omega⟩
  · rcases r2 k hk.1 with h | h
    · exact h9 k h
    · exact .inr (Nat.le_trans h11.size h)
theorem J.rat_ (h : J w W p n g m fp0 fr0 Q B) (i : Int) : Calls Try.prog 37 #[.pointer (some ⟨g, 0, none⟩), .int .i64 i] W fun e W' => ∃ A c, e = .returned (.tuple #[.agg #[.int .i64 (ratM m i).f0, .int .i64 (ratM m i).f1, .slice A (ratM m i).f2.length c], .int .i64 (ratE m i)]) ∧ (ratM m i).f2.length ≤ c ∧ (∃ ok : Nat → Prop, Kd.F (Kd.int .u8) W' ok A (ratM m i).f2.length (ratM m i).f2 ∧ ∀ k, ok k → ¬ B k ∧ k < W.heap.size) ∧ Below W.heap.size W W' := by
  obtain ⟨fp, fr, h1, h2, h3, h4, h5, h6, h7, h8, h9, h10, h11⟩ := h
  refine (rat_c m g fr W h3 i).mono ?_
  rintro e W' ⟨A, c, rfl, hc, hF, hb⟩
  exact ⟨A, c, rfl, hc, ⟨_, Kd.F_below hF hb, fun k hk => ⟨fun hB => (h8 k hB).2.2 hk.1, h3.lts k hk.1⟩⟩, hb⟩
theorem J.rdlv_ (h : J w W p n g m fp0 fr0 Q B) (hl : m.Bag.length ≤ 1000000) (i : Int) : Calls Try.prog 38 #[.pointer (some ⟨g, 0, none⟩), .int .i64 i] W fun e W' => ∃ A c, e = .returned (.tuple #[.agg #[.int .i64 (rdlvM m i).f0, .int .i64 (rdlvM m i).f1, .slice A (rdlvM m i).f2.length c], .int .i64 (rdlvE m i)]) ∧ (rdlvM m i).f2.length ≤ c ∧ (∃ ok : Nat → Prop, Kd.F (Kd.int .u8) W' ok A (rdlvM m i).f2.length (rdlvM m i).f2 ∧ ∀ k, ok k → ¬ B k ∧ k < W.heap.size) ∧ J w W' p n g (rdlvN m i) fp0 fr0 Q B ∧ Keeps (fun k => Q k ∨ B k) W W' := by
  obtain ⟨fp, fr, h1, h2, h3, h4, h5, h6, h7, h8, h9, h10, h11⟩ := h
  refine (rdlv_c m g fr W h3 i hl (by omega)).mono ?_
  rintro e W' ⟨A, c, rfl, hc, hF, hR⟩
  exact ⟨A, c, rfl, hc, ⟨_, hF, fun k hk => ⟨fun hB => (h8 k hB).2.2 hk.1, h3.lts k hk.1⟩⟩, J.ref h1 h2 h3 h5 h6 h7 h8 h9 h10 h11 (by unfold rdlvN; split <;> exact h4) hR⟩
end
end Go.Proofs.Ytnaefndclalepaa.Net
