/- Two nets and two of the document's, side by side. -/
import Derived.Test.YtnaefndclalepaaPla
namespace Go.Proofs.Ytnaefndclalepaa.Net
set_option linter.unusedVariables false
set_option linter.unusedSimpArgs false
open Go.RowKit Go.Shelf Go.Proofs.YtnaefndclalepaaW.PrintWords Go.Proofs.YtnaefndclalepaaW.PrintLast Go.Proofs.YtnaefndclalepaaW.PrintMore Go.Proofs.Ytnaefndclalepaa.XN
def runN (l : List S41) (n : NetS) : NetS := l.foldl (fun n x => stepN x n) n
def runR (l : List S41) (m : RefS) : RefS := l.foldl (fun m x => stepR x m) m
theorem take_succ' {α : Type} (l : List α) (z : α) (i : Nat) (h : i < l.length) : l.take (i + 1) = l.take i ++ [l.getD i z] := by
  rw [List.take_succ_eq_append_getElem h]
  simp [h]
theorem runN_succ (l : List S41) (n : NetS) (i : Nat) (h : i < l.length) : runN (l.take (i + 1)) n = stepN (l.getD i z41) (runN (l.take i) n) := by
  unfold runN
  rw [take_succ' l z41 i h, List.foldl_append]
  rfl
theorem runR_succ (l : List S41) (m : RefS) (i : Nat) (h : i < l.length) : runR (l.take (i + 1)) m = stepR (l.getD i z41) (runR (l.take i) m) := by
  unfold runR
  rw [take_succ' l z41 i h, List.foldl_append]
  rfl
theorem Rel.run (l : List S41) : ∀ (n : NetS) (m : RefS) (K : Nat), Rel n m K → Rel (runN l n) (runR l m) (K + l.length) ∧ (runR l m).N = m.N := by
  induction l with
  | nil => exact fun n m K h => ⟨h, rfl⟩
  | cons x l ih =>
    intro n m K h
    have h2 := ih _ _ _ (h.step x)
    refine ⟨h2.1.more (by simp only [List.length_cons]; omega), h2.2.trans (stepR_N x m)⟩
/-- Two pairs since w: what is done to the one changes nothing of the other. -/
def JJ (w W : World) (p : Option Addr) (n : NetS) (g : Nat) (m : RefS) (p2 : Option Addr) (n2 : NetS) (g2 : Nat) (m2 : RefS) : Prop :=
  ∃ fp fr fq fs : Nat → Prop, (Recv W p fp n ∧ Good n ∧ IsRef W g fr m ∧ m.Cuts.length ≤ 10000) ∧ (Recv W p2 fq n2 ∧ Good n2 ∧ IsRef W g2 fs m2 ∧ m2.Cuts.length ≤ 10000) ∧
    (∀ k, fp k → (k < W.heap.size ∧ w.heap.size ≤ k) ∧ ¬ fr k ∧ ¬ fq k ∧ ¬ fs k) ∧ (∀ k, fq k → (k < W.heap.size ∧ w.heap.size ≤ k) ∧ ¬ fr k ∧ ¬ fs k) ∧ (¬ fs g ∧ ¬ fr g2) ∧ (w.heap.size ≤ g ∧ w.heap.size ≤ g2) ∧ Below w.heap.size w W
section
variable {w W W' : World} {p p2 : Option Addr} {n n2 : NetS} {g g2 g' : Nat} {m m2 : RefS} {Q fp' : Nat → Prop}
theorem JJ.swap (h : JJ w W p n g m p2 n2 g2 m2) : JJ w W p2 n2 g2 m2 p n g m := by
  obtain ⟨fp, fr, fq, fs, a, b, h1, h2, h3, h4, h5⟩ := h
  exact ⟨fq, fs, fp, fr, b, a, fun k hk => ⟨(h2 k hk).1, (h2 k hk).2.2, fun hf => (h1 k hf).2.2.1 hk, (h2 k hk).2.1⟩, fun k hk => ⟨(h1 k hk).1, (h1 k hk).2.2.2, (h1 k hk).2.1⟩, ⟨h3.2, h3.1⟩, ⟨h4.2, h4.1⟩, h5⟩
theorem JJ.cross (h : JJ w W p n g m p2 n2 g2 m2) : JJ w W p n g2 m2 p2 n2 g m := by
  obtain ⟨fp, fr, fq, fs, ⟨a1, a2, a3, a4⟩, ⟨b1, b2, b3, b4⟩, h1, h2, h3, h4, h5⟩ := h
  exact ⟨fp, fs, fq, fr, ⟨a1, a2, b3, b4⟩, ⟨b1, b2, a3, a4⟩, fun k hk => ⟨(h1 k hk).1, (h1 k hk).2.2.2, (h1 k hk).2.2.1, (h1 k hk).2.1⟩, fun k hk => ⟨(h2 k hk).1, (h2 k hk).2.2, (h2 k hk).2.1⟩, ⟨h3.2, h3.1⟩, ⟨h4.2, h4.1⟩, h5⟩
theorem JJ.below_ (h : JJ w W p n g m p2 n2 g2 m2) : Below w.heap.size w W := by
  obtain ⟨_, _, _, _, _, _, _, _, _, _, h⟩ := h
  exact h
theorem JJ.past (h : JJ w W p n g m p2 n2 g2 m2) (hb : Below W.heap.size W W') : JJ w W' p n g m p2 n2 g2 m2 := by
  obtain ⟨fp, fr, fq, fs, ⟨a1, a2, a3, a4⟩, ⟨b1, b2, b3, b4⟩, h1, h2, h3, h4, h5⟩ := h
  exact ⟨fp, fr, fq, fs, ⟨a1.below hb, a2, a3.below hb, a4⟩, ⟨b1.below hb, b2, b3.below hb, b4⟩, fun k hk => ⟨⟨Nat.lt_of_lt_of_le (h1 k hk).1.1 hb.size, (h1 k hk).1.2⟩, (h1 k hk).2⟩, fun k hk => ⟨⟨Nat.lt_of_lt_of_le (h2 k hk).1.1 hb.size, (h2 k hk).1.2⟩, (h2 k hk).2⟩, h3, h4, below_then h5 h5.size hb⟩
theorem JJ.stands_ (h : JJ w W p n g m p2 n2 g2 m2) {K : Nat} (hR : Rel n m K) (hpos : 0 ≤ m.N) : Calls Try.prog 23 #[.pointer p, .pointer (some ⟨g, 0, none⟩)] W fun e W' => e = .returned (.bool true) ∧ JJ w W' p n g m p2 n2 g2 m2 := by
  have h0 := h
  obtain ⟨fp, fr, fq, fs, ⟨a1, a2, a3, a4⟩, b, h1, h2, h3, h4, h5⟩ := h
  have hJ : J W W p n g m fp fr (fun _ => False) (fun _ => False) := ⟨fp, fr, a1, a2, a3, a4, fun k hk => (h1 k hk).2.1, fun k hk => (h1 k hk).1.1, fun k hk => hk.elim, fun k hk => hk.elim, fun k hk => .inl hk, fun k hk => .inl hk, Fr.refl _ _⟩
  refine (stands_c hJ hR hpos).mono ?_
  rintro e W' ⟨rfl, hb⟩
  exact ⟨rfl, h0.past hb⟩
theorem JJ.act (h : JJ w W p n g m p2 n2 g2 m2) {K : Nat} (hR : Rel n m K) (hK : K < 9000) (d0 d1 d2 d3 : Int) (A4 : Option Addr) (c4 : Nat) (x4 : List Int) (hC : Kd.C (Kd.int .u8) w A4 x4.length x4) (hc4 : x4.length ≤ c4) (hx5 : x4.length ≤ 140737488355328) :
    Calls Try.prog 22 #[.pointer p, .pointer (some ⟨g, 0, none⟩), .agg #[.int .i64 d0, .int .i64 d1, .int .i64 d2, .int .i64 d3, .slice A4 x4.length c4]] W fun e W' => e = .returned (.bool true) ∧ JJ w W' p (stepN ⟨d0, d1, d2, d3, x4⟩ n) g (stepR ⟨d0, d1, d2, d3, x4⟩ m) p2 n2 g2 m2 := by
  obtain ⟨fp, fr, fq, fs, ⟨a1, a2, a3, a4⟩, ⟨b1, b2, b3, b4⟩, h1, h2, h3, h4, h5⟩ := h
  have hJ : J W W p n g m fp fr (fun k => (fq k ∨ fs k) ∨ k < w.heap.size) (fun _ => False) := ⟨fp, fr, a1, a2, a3, a4, fun k hk => (h1 k hk).2.1, fun k hk => (h1 k hk).1.1, fun k hk => by
    have hz := h5.size
    rcases hk with (hk | hk) | hk
    · exact ⟨(h2 k hk).1.1, fun hf => (h1 k hf).2.2.1 hk, fun e => by subst e; exact (h2 _ hk).2.1 a3.mine⟩
    · exact ⟨b3.lts k hk, fun hf => (h1 k hf).2.2.2 hk, fun e => by subst e; exact h3.1 hk⟩
    · exact ⟨by omega, fun hf => by have := (h1 k hf).1.2; omega, fun e => by have := h4.1; omega⟩, fun k hk => hk.elim, fun k hk => .inl hk, fun k hk => .inl hk, Fr.refl _ _⟩
  refine (act_c hJ hR hK d0 d1 d2 d3 A4 c4 x4 (F_came2 hC h5) (fun k hk => .inr hk) hc4 hx5).mono ?_
  rintro e W' ⟨rfl, hj, hk⟩
  refine ⟨rfl, ?_⟩
  obtain ⟨fp', fr', c1, c2, c3, c4, c5, c6, c7, c8, c9, c10, c11⟩ := hj
  have hz := c11.size
  have hz0 := h5.size
  have hg2 := b3.lts g2 b3.mine
  have hgp : ∀ k, fq k ∨ fs k → ¬ (fp k ∨ k = g) := fun k hk hf => by
    rcases hf with hf | rfl
    · rcases hk with hk | hk
      · exact (h1 k hf).2.2.1 hk
      · exact (h1 k hf).2.2.2 hk
    · rcases hk with hk | hk
      · exact (h2 _ hk).2.1 a3.mine
      · exact h3.1 hk
  refine ⟨fp', fr', fq, fs, ⟨c1, c2, c3, c4⟩, ⟨b1.fr c11 (fun k hk => hgp k (.inl hk)), b2, b3.fr c11 (fun k hk => hgp k (.inr hk)), b4⟩, fun k hk => ⟨⟨c6 k hk, ?_⟩, c5 k hk, fun hf => (c7 k (.inl (.inl hf))).2.1 hk, fun hf => (c7 k (.inl (.inr hf))).2.1 hk⟩, fun k hk => ⟨⟨Nat.lt_of_lt_of_le (h2 k hk).1.1 hz, (h2 k hk).1.2⟩, fun hf => ?_, (h2 k hk).2.2⟩, ⟨h3.1, fun hf => ?_⟩, h4, ?_⟩
  · rcases c9 k hk with h | h
    · exact (h1 k h).1.2
    · omega
  · rcases c10 k hf with h | h
    · exact (h2 k hk).2.1 h
    · have := (h2 k hk).1.1; omega
  · rcases c10 g2 hf with h | h
    · exact h3.2 h
    · omega
  · exact h5.trans (c11.below (b := w.heap.size) hz0 (fun k hk => by
      rcases hk with hk | rfl
      · exact (h1 k hk).1.2
      · exact h4.1))
/-- The copy and the snapshot. -/
theorem JJ.start (h : J w W p n g m (fun _ => False) (fun _ => False) Q fp') (hg : w.heap.size ≤ g) (hI : IsNet W g' fp' n) {vB vC : Value} (hb : W.heap[g]? = some (.cells #[.int .i64 m.N, vB, vC] 64 (0, 0))) : JJ w (W.alloc (.cells #[.int .i64 m.N, vB, vC] 64)) p n g m (some ⟨g', 0, none⟩) n W.heap.size m := by
  have hB := h.below_ hg
  obtain ⟨fp, fr, h1, h2, h3, h4, h5, h6, h7, h8, h9, h10, h11⟩ := h
  have hba := below_alloc (Below.refl W.heap.size W) (.cells #[.int .i64 m.N, vB, vC] 64)
  have hlt := h3.lts
  have hmine := h3.mine
  have hgl := hlt g hmine
  refine ⟨fp, fr, fp', fun k => k = W.heap.size ∨ (fr k ∧ k ≠ g), ⟨h1.below hba, h2, h3.below hba, h4⟩, ⟨.inr ⟨g', rfl, hI.fr (Fr.of_below hba (fun _ => False)) (fun _ _ h => h)⟩, h2, ?_, h4⟩, fun k hk => ⟨⟨Nat.lt_of_lt_of_le (h6 k hk) hba.size, (h9 k hk).elim (fun h => h.elim) id⟩, h5 k hk, fun hf => (h8 k hf).2.1 hk, fun hf => ?_⟩, fun k hk => ⟨⟨Nat.lt_of_lt_of_le (h8 k hk).1.2 hba.size, (h8 k hk).1.1⟩, (h8 k hk).2.2, fun hf => ?_⟩, ⟨fun hf => ?_, fun hf => ?_⟩, ⟨hg, h11.size⟩, below_then hB hB.size hba⟩
  · obtain ⟨vB', vC', b1, b2, b3, b4, b5⟩ := h3
    rw [hb] at b1
    injection b1 with b1
    injection b1 with b1 _ _
    have e1 : vB = vB' ∧ vC = vC' := by simpa using b1
    obtain ⟨rfl, rfl⟩ := e1
    refine ⟨vB, vC, heap_alloc_new W _, .inl rfl, fun k hk => ?_, Kd.V_mono (Kd.V_step b4 (fun k _ hk => hba.block k hk)) (fun k hk => ?_), Kd.V_mono (Kd.V_step b5 (fun k _ hk => hba.block k hk)) (fun k hk => ?_)⟩
    · have : (W.alloc (.cells #[.int .i64 m.N, vB, vC] 64)).heap.size = W.heap.size + 1 := by simp
      rcases hk with rfl | hk
      · omega
      · have := hlt k hk.1; omega
    · exact ⟨.inr hk, fun e => by have := hlt k hk.1; omega⟩
    · exact ⟨.inr hk, fun e => by have := hlt k hk.1; omega⟩
  · rcases hf with rfl | hf
    · have := h6 _ hk; omega
    · exact h5 k hk hf.1
  · rcases hf with rfl | hf
    · have := (h8 _ hk).1.2; omega
    · exact (h8 k hk).2.2 hf.1
  · rcases hf with e | hf
    · omega
    · exact hf.2 rfl
  · have := hlt _ hf; omega
end
end Go.Proofs.Ytnaefndclalepaa.Net
