/- The net's block in memory, and what a call leaves as it was. -/
import Derived.Test.YtnaefndclalepaaXN1
import Derived.Deep.DeepFit
import Derived.WalkSpells
import Derived.Outline
namespace Go.Proofs.Ytnaefndclalepaa.Net
set_option linter.unusedVariables false
open Go.RowKit Go.Proofs.YtnaefndclalepaaW.PrintWords Go.Proofs.YtnaefndclalepaaW.PrintLast Go.Proofs.YtnaefndclalepaaW.PrintMore Go.Proofs.Ytnaefndclalepaa.XN
/-- w' is w, but for what the blocks in S hold, and for new blocks. -/
structure Fr (S : Nat → Prop) (w w' : World) : Prop where
  os : w'.os = w.os
  tape : w'.tape = w.tape
  output : w'.output = w.output
  size : w.heap.size ≤ w'.heap.size
  block : ∀ k, k < w.heap.size → ¬ S k → w'.heap[k]? = w.heap[k]?
namespace Fr
variable {S S2 : Nat → Prop} {w w1 w2 : World}
theorem refl (S : Nat → Prop) (w : World) : Fr S w w := ⟨rfl, rfl, rfl, Nat.le_refl _, fun _ _ _ => rfl⟩
theorem of_below (h : Below w.heap.size w w1) (S : Nat → Prop) : Fr S w w1 := ⟨h.os, h.tape, h.output, h.size, fun k hk _ => h.block k hk⟩
theorem trans (h : Fr S w w1) (h2 : Fr S2 w1 w2) (hs : ∀ k, S2 k → k < w.heap.size → S k) : Fr S w w2 :=
  ⟨h2.os.trans h.os, h2.tape.trans h.tape, h2.output.trans h.output, Nat.le_trans h.size h2.size, fun k hk hn => (h2.block k (Nat.lt_of_lt_of_le hk h.size) (fun h' => hn (hs k h' hk))).trans (h.block k hk hn)⟩
theorem mono (h : Fr S w w1) (hs : ∀ k, S k → S2 k) : Fr S2 w w1 := ⟨h.os, h.tape, h.output, h.size, fun k hk hn => h.block k hk (fun h' => hn (hs k h'))⟩
theorem below {b : Nat} (h : Fr S w w1) (hb : b ≤ w.heap.size) (hs : ∀ k, S k → b ≤ k) : Below b w w1 := ⟨h.os, h.tape, h.output, h.size, fun k hk => h.block k (Nat.lt_of_lt_of_le hk hb) (fun h' => by have := hs k h'; omega)⟩
theorem alloc (h : Fr S w w1) (o : Obj) : Fr S w (w1.alloc o) := h.trans (of_below (below_alloc (Below.refl _ _) o) (fun _ => False)) (fun _ h _ => h.elim)
theorem drewN (h : Fr S w w1) (m : Nat) : Fr S w (w1.drewN m) := ⟨h.os, h.tape, h.output, h.size, h.block⟩
theorem drew (h : Fr S w w1) : Fr S w w1.drew := ⟨h.os, h.tape, h.output, h.size, h.block⟩
theorem setCell (h : Fr S w w1) {p : Addr} (hp : p.block < w.heap.size → S p.block) (u : Value) : Fr S w (w1.setCell p u) := by
  refine h.trans (S2 := fun k => k = p.block) (w2 := w1.setCell p u) ⟨?_, ?_, ?_, ?_, fun k _ hk => Below.heap_setCell w1 p u k hk⟩ (fun k e hk => by subst e; exact hp hk)
  all_goals (have hb := Below.setCell (Below.refl 0 w1) (p := p) (Nat.zero_le _) u)
  · exact hb.os
  · exact hb.tape
  · exact hb.output
  · exact hb.size
theorem grown {row : Option Nat} (h : Fr S w w1) (hg : w1.grownBy w2 row) (hb : Below 0 w1 w2) (hr : ∀ k, row = some k → k < w.heap.size → S k) : Fr S w w2 := by
  refine h.trans (S2 := fun k => row = some k) ⟨hb.os, hb.tape, hb.output, hb.size, fun k hk hn => hg.block k hk (fun e => hn e.symm)⟩ hr
end Fr
/-- A net: its messages, how many there may be, its nodes, and which links are cut. -/
structure NetS where
  all : List S33
  most : Int
  nodes : Int
  cut : Nat → Bool
/-- The net at block g; all that it leads to lies in fp. -/
def IsNet (W : World) (g : Nat) (fp : Nat → Prop) (n : NetS) : Prop :=
  ∃ (cs : Array Value) (vA : Value), W.heap[g]? = some (.cells cs 56 (0, 0)) ∧ cs.size = 259 ∧ cs[0]? = some vA ∧ cs[1]? = some (.int .i64 n.most) ∧ cs[2]? = some (.int .i64 n.nodes) ∧
    (∀ i, i < 256 → cs[3 + i]? = some (.bool (n.cut i))) ∧ fp g ∧ (∀ k, fp k → k < W.heap.size) ∧ Kd.N k33 33 W 0 (fun k => fp k ∧ k ≠ g) vA n.all
theorem IsNet.fr {W W' : World} {g : Nat} {fp S : Nat → Prop} {n : NetS} (h : IsNet W g fp n) (hf : Fr S W W') (hs : ∀ k, fp k → ¬ S k) : IsNet W' g fp n := by
  obtain ⟨cs, vA, hb, hsz, h0, h1, h2, hc, hg, hlt, hN⟩ := h
  exact ⟨cs, vA, (hf.block g (hlt g hg) (hs g hg)).trans hb, hsz, h0, h1, h2, hc, hg, fun k hk => Nat.lt_of_lt_of_le (hlt k hk) hf.size, Kd.N_step hN (fun k hk hlt => hf.block k hlt (hs k hk.1))⟩
theorem cells_at {W : World} {g : Nat} {cs : Array Value} {T : TypeId} {j : Nat} {v : Value} (hb : W.heap[g]? = some (.cells cs T (0, 0))) (h : cs[j]? = some v) : W.cell? ⟨g, j, none⟩ = some v ∧ W.frozen? ⟨g, j, none⟩ = false :=
  ⟨(blk_cell hb j).trans h, blk_frozen hb j⟩
/-- What is read of a net. -/
theorem IsNet.open_ {W : World} {g : Nat} {fp : Nat → Prop} {n : NetS} (h : IsNet W g fp n) : ∃ A c, W.cell? ⟨g, 0, none⟩ = some (.slice A n.all.length c) ∧ W.cell? ⟨g, 1, none⟩ = some (.int .i64 n.most) ∧ W.cell? ⟨g, 2, none⟩ = some (.int .i64 n.nodes) ∧
    (∀ i, i < 256 → W.cell? ⟨g, 3 + i, none⟩ = some (.bool (n.cut i))) ∧ n.all.length ≤ c ∧ Kd.C k33 W A n.all.length n.all := by
  obtain ⟨cs, vA, hb, hsz, h0, h1, h2, hc, hg, hlt, hN⟩ := h
  obtain ⟨A, c, rfl, hl, hC⟩ := Kd.N_reads hN
  exact ⟨A, c, (cells_at hb h0).1, (cells_at hb h1).1, (cells_at hb h2).1, fun i hi => (cells_at hb (hc i hi)).1, hl, hC⟩
theorem nodes_c (n : NetS) (g : Nat) (fp : Nat → Prop) (w : World) (h : IsNet w g fp n) : Calls Try.prog 25 #[.pointer (some ⟨g, 0, none⟩)] w fun e w' => e = .returned (.int .i64 n.nodes) ∧ w = w' := by
  obtain ⟨A, c, h0, h1, h2, hc, hl, hC⟩ := h.open_
  clear h hc hC h0 h1
  go_enter Try.func25, Try.ntmps25
  go_wp2
  go_ret
  exact ⟨rfl, rfl⟩
theorem nodes_nil (w : World) : Calls Try.prog 25 #[.pointer none] w fun e w' => e = .returned (.int .i64 0) ∧ w = w' := by
  go_enter Try.func25, Try.ntmps25
  go_wp2
  go_ret
  exact ⟨rfl, rfl⟩
end Go.Proofs.Ytnaefndclalepaa.Net
