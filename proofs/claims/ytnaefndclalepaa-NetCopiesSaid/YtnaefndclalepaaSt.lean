/- A net beside other things: what its calls answer, and that the others stay. -/
import Derived.Test.YtnaefndclalepaaNew
namespace Go.Proofs.Ytnaefndclalepaa.Net
set_option linter.unusedVariables false
set_option linter.unusedSimpArgs false
open Go.RowKit Go.Shelf Go.Proofs.YtnaefndclalepaaW.PrintWords Go.Proofs.YtnaefndclalepaaW.PrintLast Go.Proofs.YtnaefndclalepaaW.PrintMore Go.Proofs.Ytnaefndclalepaa.XN
/-- What every net is that New made. -/
structure Good (n : NetS) : Prop where
  nodes : n.nodes ≤ 15
  most : n.most ≤ 64
  len : n.all.length ≤ 64
  long : ∀ m, m ∈ n.all → m.f2.length ≤ 16384
theorem Good.set {n : NetS} (h : Good n) (i : Nat) (c : Bool) : Good (n.set i c) := ⟨h.nodes, h.most, h.len, h.long⟩
theorem Good.link {n : NetS} (h : Good n) (a b : Int) (c : Bool) : Good (n.link a b c) := by
  unfold NetS.link
  split
  · exact (h.set _ _).set _ _
  · exact h
theorem Good.erase {n : NetS} (h : Good n) (i : Nat) : Good { n with all := n.all.eraseIdx i } :=
  ⟨h.nodes, h.most, Nat.le_trans (List.length_eraseIdx_le _ _) h.len, fun m hm => h.long m (List.mem_of_mem_eraseIdx hm)⟩
theorem Good.put {n : NetS} (h : Good n) (m : S33) (hm : m.f2.length ≤ 16384) : Good (putN n m) := by
  unfold putN
  split
  · rename_i hp
    have hlt : (n.all.length : Int) < n.most := by
      unfold putB at hp
      simpa using hp
    have := h.most
    refine ⟨h.nodes, h.most, by simp; omega, fun x hx => ?_⟩
    rcases List.mem_append.1 hx with hx | hx
    · exact h.long x hx
    · simp at hx
      rw [hx]
      exact hm
  · exact h
theorem Good.send {n : NetS} (h : Good n) (a b : Int) (l : List Int) : Good (sendN n a b l) := by
  unfold sendN
  split
  · rename_i hh
    exact h.put _ (by have := hh.2; show l.length ≤ 16384; omega)
  · exact h
theorem Good.at {n : NetS} (h : Good n) (i : Int) : (atM n i).f2.length ≤ 16384 := by
  unfold atM
  split
  · rename_i hh
    obtain ⟨k, rfl, hk⟩ := hasB_spec hh
    rw [show n.all.getD ((k : Int)).toNat z33 = n.all[k] by simp [hk]]
    exact h.long _ (List.getElem_mem hk)
  · exact Nat.zero_le _
theorem Good.dbl {n : NetS} (h : Good n) (i : Int) : Good (dblN n i) := by
  unfold dblN
  split
  · exact h.put _ (h.at i)
  · exact h
theorem Good.drop {n : NetS} (h : Good n) (i : Int) : Good (dropN n i) := by
  unfold dropN
  split
  · exact h.erase _
  · exact h
theorem Good.dlv {n : NetS} (h : Good n) (i : Int) : Good (dlvN n i) := by
  unfold dlvN
  split
  · exact h.erase _
  · exact h
theorem Good.new {m : Int} (h : m ≤ 15) : Good ⟨[], 64, m, fun _ => false⟩ := ⟨h, Int.le_refl 64, by simp, fun _ h => by cases h⟩
/-- What Q names lies as it lay. -/
def Keeps (Q : Nat → Prop) (W W' : World) : Prop := W.heap.size ≤ W'.heap.size ∧ ∀ k, Q k → W'.heap[k]? = W.heap[k]?
theorem Keeps.refl (Q : Nat → Prop) (W : World) : Keeps Q W W := ⟨Nat.le_refl _, fun _ _ => rfl⟩
theorem Keeps.trans {Q : Nat → Prop} {A B C : World} (h : Keeps Q A B) (k : Keeps Q B C) : Keeps Q A C := ⟨Nat.le_trans h.1 k.1, fun j hj => (k.2 j hj).trans (h.2 j hj)⟩
theorem Keeps.mono {Q Q' : Nat → Prop} {A B : World} (h : Keeps Q A B) (hq : ∀ k, Q' k → Q k) : Keeps Q' A B := ⟨h.1, fun j hj => h.2 j (hq j hj)⟩
/-- Since w0: a net at g, which no pointer may be nil; Q is what else there is. -/
def St (w0 W : World) (p : Option Addr) (n : NetS) (Q : Nat → Prop) : Prop :=
  ∃ fp : Nat → Prop, Recv W p fp n ∧ Good n ∧ (∀ k, fp k → (w0.heap.size ≤ k ∧ k < W.heap.size) ∧ ¬ Q k) ∧ (∀ k, Q k → k < W.heap.size) ∧ Below w0.heap.size w0 W
theorem St.good {w0 W : World} {p : Option Addr} {n : NetS} {Q : Nat → Prop} (h : St w0 W p n Q) : Good n := by obtain ⟨_, _, h, _⟩ := h; exact h
theorem St.below {w0 W : World} {p : Option Addr} {n : NetS} {Q : Nat → Prop} (h : St w0 W p n Q) : Below w0.heap.size w0 W := by obtain ⟨_, _, _, _, _, h⟩ := h; exact h
theorem St.lt {w0 W : World} {p : Option Addr} {n : NetS} {Q : Nat → Prop} (h : St w0 W p n Q) : ∀ k, Q k → k < W.heap.size := by obtain ⟨_, _, _, _, h, _⟩ := h; exact h
theorem Recv.bound {W : World} {p : Option Addr} {fp : Nat → Prop} {n : NetS} (h : Recv W p fp n) : Recv W p (fun k => fp k ∧ k < W.heap.size) n := by
  rcases h with h | ⟨g, rfl, hI⟩
  · exact .inl h
  · refine .inr ⟨g, rfl, ?_⟩
    obtain ⟨cs, vA, hb, hsz, h0, h1, h2, hc, hg, hlt, hN⟩ := hI
    exact ⟨cs, vA, hb, hsz, h0, h1, h2, hc, ⟨hg, hlt g hg⟩, fun k hk => hk.2, Kd.N_mono hN (fun k hk => ⟨⟨hk.1, hlt k hk.1⟩, hk.2⟩)⟩
/-- A call of the net. -/
theorem St.step {w0 W W' : World} {p : Option Addr} {n' : NetS} {Q fp fp' : Nat → Prop} (h2 : ∀ k, fp k → (w0.heap.size ≤ k ∧ k < W.heap.size) ∧ ¬ Q k) (h3 : ∀ k, Q k → k < W.heap.size) (h4 : Below w0.heap.size w0 W) (hg : Good n')
    (hR : Recv W' p fp' n') (hs : ∀ k, fp' k → fp k ∨ W.heap.size ≤ k) (hF : Fr fp W W') : St w0 W' p n' Q ∧ Keeps Q W W' :=
  ⟨⟨fun k => fp' k ∧ k < W'.heap.size, hR.bound, hg, fun k hk => by
    rcases hs k hk.1 with h | h
    · exact ⟨⟨(h2 k h).1.1, hk.2⟩, (h2 k h).2⟩
    · exact ⟨⟨Nat.le_trans h4.size h, hk.2⟩, fun hq => by have := h3 k hq; omega⟩, fun k hk => Nat.lt_of_lt_of_le (h3 k hk) hF.size, h4.trans (hF.below h4.size (fun k hk => (h2 k hk).1.1))⟩,
   ⟨hF.size, fun k hk => hF.block k (h3 k hk) (fun h => (h2 k h).2 hk)⟩⟩
/-- What is laid anew, or written to what is none of the net's, leaves it. -/
theorem St.move {w0 W W' : World} {p : Option Addr} {n : NetS} {Q Q' : Nat → Prop} (h : St w0 W p n Q) (hq : ∀ k, Q' k → (Q k ∨ W.heap.size ≤ k) ∧ k < W'.heap.size) (hB : Below w0.heap.size w0 W') (hs : W.heap.size ≤ W'.heap.size) (hF : ∀ k, w0.heap.size ≤ k → k < W.heap.size → ¬ Q k → W'.heap[k]? = W.heap[k]?) : St w0 W' p n Q' := by
  obtain ⟨fp, hR, hg, h2, h3, h4⟩ := h
  refine ⟨fp, ?_, hg, fun k hk => ⟨⟨(h2 k hk).1.1, Nat.lt_of_lt_of_le (h2 k hk).1.2 hs⟩, fun hq' => ?_⟩, fun k hk => (hq k hk).2, hB⟩
  · rcases hR with hR | ⟨g, rfl, hI⟩
    · exact .inl hR
    · refine .inr ⟨g, rfl, ?_⟩
      obtain ⟨cs, vA, hb, hsz, h0, h1, h2', hc, hg', hlt, hN⟩ := hI
      exact ⟨cs, vA, (hF g (h2 g hg').1.1 (h2 g hg').1.2 (h2 g hg').2).trans hb, hsz, h0, h1, h2', hc, hg', fun k hk => Nat.lt_of_lt_of_le (hlt k hk) hs, Kd.N_step hN (fun k hk hlt => hF k (h2 k hk.1).1.1 hlt (h2 k hk.1).2)⟩
  · rcases (hq k hq').1 with h | h
    · exact (h2 k hk).2 h
    · have := (h2 k hk).1.2; omega
theorem St.drew {w0 W : World} {p : Option Addr} {n : NetS} {Q : Nat → Prop} (h : St w0 W p n Q) : St w0 W.drew p n Q := h.move (fun k hk => ⟨.inl hk, h.lt k hk⟩) (below_drew h.below) (Nat.le_refl _) (fun _ _ _ _ => rfl)
theorem St.weak {w0 W : World} {p : Option Addr} {n : NetS} {Q Q' : Nat → Prop} (h : St w0 W p n Q) (hq : ∀ k, Q' k → Q k) : St w0 W p n Q' := h.move (fun k hk => ⟨.inl (hq k hk), h.lt k (hq k hk)⟩) h.below (Nat.le_refl _) (fun _ _ _ _ => rfl)
theorem St.alloc {w0 W : World} {p : Option Addr} {n : NetS} {Q : Nat → Prop} (h : St w0 W p n Q) (o : Obj) : St w0 (W.alloc o) p n (fun k => Q k ∨ k = W.heap.size) :=
  h.move (fun k hk => by
    have hsz : (W.alloc o).heap.size = W.heap.size + 1 := by simp
    rcases hk with h1 | h1
    · exact ⟨.inl h1, by have := h.lt k h1; omega⟩
    · exact ⟨.inr (by omega), by omega⟩) (h.below.alloc h.below.size o) (by simp) (fun k _ hk _ => Below.heap_alloc W o k hk)
theorem Keeps.alloc (Q : Nat → Prop) (W : World) (o : Obj) (hq : ∀ k, Q k → k < W.heap.size) : Keeps Q W (W.alloc o) := ⟨by simp, fun k hk => Below.heap_alloc W o k (hq k hk)⟩
theorem St.set {w0 W : World} {p : Option Addr} {n : NetS} {Q : Nat → Prop} (h : St w0 W p n Q) {a : Addr} (ha : Q a.block) (h0 : w0.heap.size ≤ a.block) (u : Value) : St w0 (W.setCell a u) p n Q :=
  h.move (fun k hk => ⟨.inl hk, by have := h.lt k hk; have := (Below.setCell (Below.refl 0 W) (p := a) (Nat.zero_le _) u).size; omega⟩) (h.below.setCell h0 u) (Below.setCell (Below.refl 0 W) (p := a) (Nat.zero_le _) u).size (fun k _ _ hk => Below.heap_setCell W a u k (fun e => hk (e ▸ ha)))
/-! ### the calls -/
variable {w0 W : World} {p : Option Addr} {n : NetS} {Q : Nat → Prop}
theorem St.nodes_ (h : St w0 W p n Q) : Calls Try.prog 25 #[.pointer p] W fun e W' => e = .returned (.int .i64 n.nodes) ∧ W = W' := by
  obtain ⟨fp, hR, _⟩ := h
  exact nodes_r n p fp W hR
theorem St.len_ (h : St w0 W p n Q) : Calls Try.prog 11 #[.pointer p] W fun e W' => e = .returned (.int .i64 n.all.length) ∧ W = W' := by
  obtain ⟨fp, hR, _⟩ := h
  exact len_r n p fp W hR
theorem St.open_ (h : St w0 W p n Q) (a b : Int) : Calls Try.prog 26 #[.pointer p, .int .i64 a, .int .i64 b] W fun e W' => e = .returned (.bool (openB n a b)) ∧ W = W' := by
  obtain ⟨fp, hR, hg, _⟩ := h
  exact open_r n p fp W hR hg.nodes a b
theorem St.cut_ (h : St w0 W p n Q) (a b : Int) : Calls Try.prog 18 #[.pointer p, .int .i64 a, .int .i64 b] W fun e W' => e = E (linkE n a b) ∧ St w0 W' p (n.link a b true) Q ∧ Keeps Q W W' := by
  obtain ⟨fp, hR, hg, h2, h3, h4⟩ := h
  refine (cut_r n p fp W hR hg.nodes a b).mono ?_
  rintro e W' ⟨rfl, h5, h6⟩
  exact ⟨rfl, St.step h2 h3 h4 (hg.link a b true) h5 (fun k hk => .inl hk) h6⟩
theorem St.heal_ (h : St w0 W p n Q) (a b : Int) : Calls Try.prog 19 #[.pointer p, .int .i64 a, .int .i64 b] W fun e W' => e = E (linkE n a b) ∧ St w0 W' p (n.link a b false) Q ∧ Keeps Q W W' := by
  obtain ⟨fp, hR, hg, h2, h3, h4⟩ := h
  refine (heal_r n p fp W hR hg.nodes a b).mono ?_
  rintro e W' ⟨rfl, h5, h6⟩
  exact ⟨rfl, St.step h2 h3 h4 (hg.link a b false) h5 (fun k hk => .inl hk) h6⟩
theorem St.send_ (h : St w0 W p n Q) (a b : Int) (A : Option Addr) (c : Nat) (l : List Int) (hC : Kd.C (Kd.int .u8) W A l.length l) (hc : l.length ≤ c) : Calls Try.prog 10 #[.pointer p, .int .i64 a, .int .i64 b, .slice A l.length c] W fun e W' => e = E (sendE n a b l) ∧ St w0 W' p (sendN n a b l) Q ∧ Keeps Q W W' := by
  obtain ⟨fp, hR, hg, h2, h3, h4⟩ := h
  refine (send_r n p fp W hR a b A c l hg.nodes hC hc (by have := hg.len; omega)).mono ?_
  rintro e W' ⟨rfl, fp', h5, h6, h7⟩
  exact ⟨rfl, St.step h2 h3 h4 (hg.send a b l) h5 h6 h7⟩
theorem St.drop_ (h : St w0 W p n Q) (i : Int) : Calls Try.prog 15 #[.pointer p, .int .i64 i] W fun e W' => e = E (dropE n i) ∧ St w0 W' p (dropN n i) Q ∧ Keeps Q W W' := by
  obtain ⟨fp, hR, hg, h2, h3, h4⟩ := h
  refine (drop_r n p fp W hR i (by have := hg.len; omega)).mono ?_
  rintro e W' ⟨rfl, fp', h5, h6, h7⟩
  exact ⟨rfl, St.step h2 h3 h4 (hg.drop i) h5 h6 h7⟩
theorem St.dbl_ (h : St w0 W p n Q) (i : Int) : Calls Try.prog 17 #[.pointer p, .int .i64 i] W fun e W' => e = E (dblE n i) ∧ St w0 W' p (dblN n i) Q ∧ Keeps Q W W' := by
  obtain ⟨fp, hR, hg, h2, h3, h4⟩ := h
  refine (dbl_r n p fp W hR i (fun m hm => by have := hg.long m hm; omega) (by have := hg.len; omega)).mono ?_
  rintro e W' ⟨rfl, fp', h5, h6, h7⟩
  exact ⟨rfl, St.step h2 h3 h4 (hg.dbl i) h5 h6 h7⟩
theorem St.find_ (h : St w0 W p n Q) (a i : Int) : Calls Try.prog 24 #[.pointer p, .int .i64 a, .int .i64 i] W fun e W' => e = .returned (.tuple #[.int .i64 (findI n a i), .bool (findB n a i)]) ∧ St w0 W' p n Q ∧ Keeps Q W W' := by
  obtain ⟨fp, hR, hg, h2, h3, h4⟩ := h
  refine (find_r n p fp W hR a i hg.nodes (by have := hg.len; omega)).mono ?_
  rintro e W' ⟨rfl, h5⟩
  exact ⟨rfl, St.step h2 h3 h4 hg (hR.below h5) (fun k hk => .inl hk) (Fr.of_below h5 fp)⟩
/-- A message that came: new memory, which is none of the net's. -/
def Came (w0 W W' : World) (p : Option Addr) (n : NetS) (Q : Nat → Prop) (vb : Value) (l : List Int) : Prop :=
  ∃ q : Nat → Prop, Kd.R (Kd.int .u8) 5 W' W.heap.size q vb l ∧ (∀ k, q k → W.heap.size ≤ k) ∧ St w0 W' p n (fun k => Q k ∨ q k) ∧ Keeps Q W W'
theorem St.came {W' : World} {n' : NetS} {fp fp' : Nat → Prop} {vb : Value} {l : List Int} (h2 : ∀ k, fp k → (w0.heap.size ≤ k ∧ k < W.heap.size) ∧ ¬ Q k) (h3 : ∀ k, Q k → k < W.heap.size) (h4 : Below w0.heap.size w0 W) (hg : Good n')
    (hR : Recv W' p fp' n') (hs : ∀ k, fp' k → fp k ∨ W.heap.size ≤ k) (hF : Fr fp W W') (hrow : Kd.R (Kd.int .u8) 5 W' W.heap.size (fun k => ¬ fp' k) vb l) : Came w0 W W' p n' Q vb l := by
  refine ⟨fun k => ¬ fp' k ∧ W.heap.size ≤ k ∧ k < W'.heap.size, Kd.R_mono (Kd.R_bound hrow) (fun k hk => ⟨hk.1, hk.2.1, hk.2.2.1⟩), fun k hk => hk.2.1, ?_, (St.step h2 h3 h4 hg hR hs hF).2⟩
  refine ⟨fun k => fp' k ∧ k < W'.heap.size, hR.bound, hg, fun k hk => ?_, fun k hk => ?_, h4.trans (hF.below h4.size (fun k hk => (h2 k hk).1.1))⟩
  · rcases hs k hk.1 with h | h
    · exact ⟨⟨(h2 k h).1.1, hk.2⟩, fun hq => by
        rcases hq with hq | hq
        · exact (h2 k h).2 hq
        · exact hq.1 hk.1⟩
    · exact ⟨⟨Nat.le_trans h4.size h, hk.2⟩, fun hq => by
        rcases hq with hq | hq
        · have := h3 k hq; omega
        · exact hq.1 hk.1⟩
  · rcases hk with hk | hk
    · exact Nat.lt_of_lt_of_le (h3 k hk) hF.size
    · exact hk.2.2
theorem St.at_ (h : St w0 W p n Q) (i : Int) : Calls Try.prog 16 #[.pointer p, .int .i64 i] W fun e W' => ∃ vb, e = .returned (.tuple #[.agg #[.int .i64 (atM n i).f0, .int .i64 (atM n i).f1, vb], .int .i64 (atE n i)]) ∧ Came w0 W W' p n Q vb (atM n i).f2 := by
  obtain ⟨fp, hR, hg, h2, h3, h4⟩ := h
  refine (at_r n p fp W hR i (fun m hm => by have := hg.long m hm; omega)).mono ?_
  rintro e W' ⟨vb, rfl, h5, h6⟩
  exact ⟨vb, rfl, St.came h2 h3 h4 hg (hR.below h6) (fun k hk => .inl hk) (Fr.of_below h6 fp) (Kd.R_mono (Kd.R_bound h5) (fun k hk hf => by have := (h2 k hf).1.2; have := hk.2.1; omega))⟩
theorem St.dlv_ (h : St w0 W p n Q) (i : Int) : Calls Try.prog 12 #[.pointer p, .int .i64 i] W fun e W' => ∃ vb, e = .returned (.tuple #[.agg #[.int .i64 (dlvM n i).f0, .int .i64 (dlvM n i).f1, vb], .int .i64 (dlvE n i)]) ∧ Came w0 W W' p (dlvN n i) Q vb (dlvM n i).f2 := by
  obtain ⟨fp, hR, hg, h2, h3, h4⟩ := h
  refine (dlv_r n p fp W hR i hg.nodes (fun m hm => by have := hg.long m hm; omega) (by have := hg.len; omega)).mono ?_
  rintro e W' ⟨vb, rfl, fp', h5, h6, h7, h8⟩
  exact ⟨vb, rfl, St.came h2 h3 h4 (hg.dlv i) h5 h6 h7 h8⟩
theorem St.new_ {w0 W : World} {Q : Nat → Prop} (hq : ∀ k, Q k → k < W.heap.size) (hB : Below w0.heap.size w0 W) (m : Int) (h1 : 1 ≤ m) (h2 : m ≤ 15) : Calls Try.prog 9 #[.int .i64 m] W fun e W' => e = .returned (.tuple #[.pointer (some ⟨W.heap.size, 0, none⟩), .int .i64 0]) ∧ St w0 W' (some ⟨W.heap.size, 0, none⟩) ⟨[], 64, m, fun _ => false⟩ Q ∧ Keeps Q W W' := by
  refine (new_ok m W h1 h2).mono ?_
  rintro e W' ⟨rfl, hI, hb⟩
  have hlt := hI.lt
  exact ⟨rfl, ⟨_, .inr ⟨_, rfl, hI⟩, Good.new h2, fun k hk => by subst hk; exact ⟨⟨hB.size, hlt⟩, fun h => by have := hq _ h; omega⟩, fun k hk => Nat.lt_of_lt_of_le (hq k hk) hb.size, hB.trans (hb.mono hB.size)⟩, ⟨hb.size, fun k hk => hb.block k (hq k hk)⟩⟩
end Go.Proofs.Ytnaefndclalepaa.Net
