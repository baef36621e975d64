/- NetNobody: the walk. -/
import Derived.Test.YtnaefndclalepaaAwk
import Derived.Deep.LoopGhost
namespace Go.Proofs.Ytnaefndclalepaa.Net
set_option linter.unusedVariables false
set_option linter.unusedSimpArgs false
open Go.RowKit Go.Shelf Go.Proofs.YtnaefndclalepaaW.PrintWords Go.Proofs.YtnaefndclalepaaW.PrintLast Go.Proofs.YtnaefndclalepaaW.PrintMore Go.Proofs.Ytnaefndclalepaa.XN
/-- Nobody's net. -/
def N0 : NetS := ⟨[], 0, 0, fun _ => false⟩
theorem n0_has (i : Int) : hasB N0 i = false := by
  unfold hasB N0
  simp
theorem n0_two (a b : Int) : twoB N0.nodes a b = false := by
  unfold twoB N0
  simp
  omega
theorem n0_openB (a b : Int) : openB N0 a b = false := by unfold openB; rw [n0_two]; rfl
section
variable {w0 W : World} {p : Option Addr} {Q : Nat → Prop}
theorem n0_nodes (h : St w0 W p N0 Q) : Calls Try.prog 25 #[.pointer p] W fun e W' => e = .returned (.int .i64 0) ∧ W = W' := h.nodes_
theorem n0_len (h : St w0 W p N0 Q) : Calls Try.prog 11 #[.pointer p] W fun e W' => e = .returned (.int .i64 0) ∧ W = W' := h.len_
theorem n0_open (h : St w0 W p N0 Q) (a b : Int) : Calls Try.prog 26 #[.pointer p, .int .i64 a, .int .i64 b] W fun e W' => e = .returned (.bool false) ∧ W = W' := by
  have := h.open_ a b
  rw [n0_openB] at this
  exact this
theorem n0_link (a b : Int) (c : Bool) : N0.link a b c = N0 ∧ linkE N0 a b = 1 := by
  unfold NetS.link linkE
  rw [if_neg (by rw [n0_two]; decide), if_neg (by rw [n0_two]; decide)]
  exact ⟨rfl, rfl⟩
theorem n0_cut (h : St w0 W p N0 Q) (a b : Int) : Calls Try.prog 18 #[.pointer p, .int .i64 a, .int .i64 b] W fun e W' => e = .returned (.int .i64 1) ∧ St w0 W' p N0 Q ∧ Keeps Q W W' := by
  have := h.cut_ a b
  rw [(n0_link a b true).1, (n0_link a b true).2] at this
  exact this
theorem n0_heal (h : St w0 W p N0 Q) (a b : Int) : Calls Try.prog 19 #[.pointer p, .int .i64 a, .int .i64 b] W fun e W' => e = .returned (.int .i64 1) ∧ St w0 W' p N0 Q ∧ Keeps Q W W' := by
  have := h.heal_ a b
  rw [(n0_link a b false).1, (n0_link a b false).2] at this
  exact this
theorem n0_send (h : St w0 W p N0 Q) (a b : Int) (A : Option Addr) (c : Nat) (l : List Int) (hC : Kd.C (Kd.int .u8) W A l.length l) (hc : l.length ≤ c) : Calls Try.prog 10 #[.pointer p, .int .i64 a, .int .i64 b, .slice A l.length c] W fun e W' => e = .returned (.int .i64 1) ∧ St w0 W' p N0 Q ∧ Keeps Q W W' := by
  have := h.send_ a b A c l hC hc
  have e1 : sendE N0 a b l = 1 := by unfold sendE; rw [if_neg (by rw [n0_two]; decide)]
  have e2 : sendN N0 a b l = N0 := by unfold sendN; rw [if_neg (by rw [n0_openB]; simp)]
  rw [e1, e2] at this
  exact this
theorem n0_drop (h : St w0 W p N0 Q) (i : Int) : Calls Try.prog 15 #[.pointer p, .int .i64 i] W fun e W' => e = .returned (.int .i64 4) ∧ St w0 W' p N0 Q ∧ Keeps Q W W' := by
  have := h.drop_ i
  have e1 : dropE N0 i = 4 := by unfold dropE; rw [if_neg (by rw [n0_has]; decide)]
  have e2 : dropN N0 i = N0 := by unfold dropN; rw [if_neg (by rw [n0_has]; decide)]
  rw [e1, e2] at this
  exact this
theorem n0_dbl (h : St w0 W p N0 Q) (i : Int) : Calls Try.prog 17 #[.pointer p, .int .i64 i] W fun e W' => e = .returned (.int .i64 4) ∧ St w0 W' p N0 Q ∧ Keeps Q W W' := by
  have := h.dbl_ i
  have e1 : dblE N0 i = 4 := by unfold dblE; rw [if_neg (by rw [n0_has]; decide)]
  have e2 : dblN N0 i = N0 := by unfold dblN; rw [if_neg (by rw [n0_has]; decide)]
  rw [e1, e2] at this
  exact this
theorem n0_find (h : St w0 W p N0 Q) (a i : Int) : Calls Try.prog 24 #[.pointer p, .int .i64 a, .int .i64 i] W fun e W' => e = .returned (.tuple #[.int .i64 0, .bool false]) ∧ St w0 W' p N0 Q ∧ Keeps Q W W' := by
  have := h.find_ a i
  have e1 : findO N0 a i = none := by unfold findO N0; simp
  have e2 : findI N0 a i = 0 := by unfold findI; rw [e1]
  have e3 : findB N0 a i = false := by unfold findB; rw [e1]; rfl
  rw [e2, e3] at this
  exact this
theorem n0_at (h : St w0 W p N0 Q) (i : Int) : Calls Try.prog 16 #[.pointer p, .int .i64 i] W fun e W' => ∃ vb, e = .returned (.tuple #[.agg #[.int .i64 0, .int .i64 0, vb], .int .i64 4]) ∧ (∃ A c, vb = .slice A 0 c) ∧ St w0 W' p N0 Q ∧ Keeps Q W W' := by
  have e1 : atM N0 i = z33 := by unfold atM; rw [if_neg (by rw [n0_has]; decide)]
  have e2 : atE N0 i = 4 := by unfold atE; rw [if_neg (by rw [n0_has]; decide)]
  have := h.at_ i
  rw [e1, e2] at this
  refine this.mono ?_
  rintro e W' ⟨vb, rfl, q, hR, hq, hS, hK⟩
  exact ⟨vb, rfl, Kd.R_slice hR, hS.weak (fun k hk => .inl hk), hK⟩
theorem n0_dlv (h : St w0 W p N0 Q) (i : Int) : Calls Try.prog 12 #[.pointer p, .int .i64 i] W fun e W' => ∃ vb, e = .returned (.tuple #[.agg #[.int .i64 0, .int .i64 0, vb], .int .i64 4]) ∧ (∃ A c, vb = .slice A 0 c) ∧ St w0 W' p N0 Q ∧ Keeps Q W W' := by
  have e2 : dlvE N0 i = 4 := by unfold dlvE; rw [if_neg (by rw [n0_has]; decide)]
  have e1 : dlvM N0 i = z33 := by unfold dlvM; rw [e2]; rfl
  have e3 : dlvN N0 i = N0 := by unfold dlvN; rw [e2]; rfl
  have := h.dlv_ i
  rw [e1, e2, e3] at this
  refine this.mono ?_
  rintro e W' ⟨vb, rfl, q, hR, hq, hS, hK⟩
  exact ⟨vb, rfl, Kd.R_slice hR, hS.weak (fun k hk => .inl hk), hK⟩
theorem n0_copy (h : St w0 W p N0 Q) : Calls Try.prog 21 #[.pointer p] W fun e W' => e = .returned (.pointer none) ∧ W = W' := by
  obtain ⟨fp, hR, _⟩ := h
  exact copy_no N0 p fp W hR rfl
end
theorem zero56b : ∃ Z : Array Value, (∀ w, (zeroValue 56).run Try.prog w = .ok (.agg Z) w) ∧ Z.size = 259 ∧ Z[0]? = some (.slice none 0 0) ∧ Z[1]? = some (.int .i64 0) ∧ Z[2]? = some (.int .i64 0) ∧ ∀ i, i < 256 → Z[3 + i]? = some (.bool false) := by
  refine ⟨#[.slice none 0 0, .int .i64 0, .int .i64 0] ++ Array.replicate 256 (.bool false), fun w => by kernel_rfl, by simp, ?_, ?_, ?_, fun i hi => ?_⟩
  · rw [Array.getElem?_append_left (by simp)]; rfl
  · rw [Array.getElem?_append_left (by simp)]; rfl
  · rw [Array.getElem?_append_left (by simp)]; rfl
  · rw [Array.getElem?_append_right (by simp)]
    simp [hi]
theorem zeroNet : ∃ Z : Array Value, (∀ w, (zeroValue 56).run Try.prog w = .ok (.agg Z) w) ∧ ∀ W g, W.heap[g]? = some (.cells Z 56 (0, 0)) → IsNet W g (fun k => k = g) N0 := by
  obtain ⟨Z, hz, z1, z2, z3, z4, z5⟩ := zero56b
  exact ⟨Z, hz, fun W g h => ⟨Z, .slice none 0 0, h, z1, z2, z3, z4, z5, rfl, fun k hk => by subst hk; exact blk_lt h, Kd.N_nil _ _ _ _ _⟩⟩
set_option maxHeartbeats 16000000 in
set_option maxRecDepth 100000 in
theorem scrivenerlaw05_NetNobody.calls (a0 a1 a2 a3 : Int) (A : Option Addr) (c : Nat) (l : List Int) (r : Bool) (w : World) (hr : Kd.C (Kd.int .u8) w A l.length l) (hc : l.length ≤ c) (h : true = r) :
    Calls Try.prog 6 #[.agg #[.int .i64 a0, .int .i64 a1, .int .i64 a2, .int .i64 a3, .slice A l.length c]] w fun e w' => e = .returned (.bool r) ∧ Below w.heap.size w w' := by
  subst h
  obtain ⟨Z, hz, hZ⟩ := zeroNet
  have HZ := Aside0.mk hZ
  have hC : ∀ {p : Option Addr} {Q : Nat → Prop} (W : World), St w W p N0 Q → Kd.C (Kd.int .u8) W A l.length l := fun W hS => Kd.C_below hr hS.below
  have hu41 := Try.underlying41
  clear hZ
  go_enter Try.func6, Try.ntmps6
  go_wp2
  have e0 := heap_alloc_new w (.cells #[.int .i64 a0, .int .i64 a1, .int .i64 a2, .int .i64 a3, .slice A l.length c] 41)
  have e1 := heap_alloc_new (w.alloc (.cells #[.int .i64 a0, .int .i64 a1, .int .i64 a2, .int .i64 a3, .slice A l.length c] 41)) (.cells Z 56)
  have e2 := heap_alloc_new ((w.alloc (.cells #[.int .i64 a0, .int .i64 a1, .int .i64 a2, .int .i64 a3, .slice A l.length c] 41)).alloc (.cells Z 56)) (.cells #[.pointer none, .pointer (some ⟨w.heap.size + 1, 0, none⟩)] 25)
  simp only [World.size_alloc] at e1 e2
  replace e0 := blk_alloc (blk_alloc e0 (.cells Z 56)) (.cells #[.pointer none, .pointer (some ⟨w.heap.size + 1, 0, none⟩)] 25)
  replace e1 := blk_alloc e1 (.cells #[.pointer none, .pointer (some ⟨w.heap.size + 1, 0, none⟩)] 25)
  have hB0 : Below w.heap.size w (((w.alloc (.cells #[.int .i64 a0, .int .i64 a1, .int .i64 a2, .int .i64 a3, .slice A l.length c] 41)).alloc (.cells Z 56)).alloc (.cells #[.pointer none, .pointer (some ⟨w.heap.size + 1, 0, none⟩)] 25)) := (below_alloc (below_alloc (Below.refl _ w) _) _).alloc (by simp; omega) _
  generalize (((w.alloc (.cells #[.int .i64 a0, .int .i64 a1, .int .i64 a2, .int .i64 a3, .slice A l.length c] 41)).alloc (.cells Z 56)).alloc (.cells #[.pointer none, .pointer (some ⟨w.heap.size + 1, 0, none⟩)] 25)) = WB at *
  obtain ⟨s0, hs0⟩ : ∃ s0, w.heap.size = s0 := ⟨_, rfl⟩
  rw [hs0] at e0 e1 e2 ⊢
  have HS0 := Aside0.mk hs0
  have E := Aside0.mk (And.intro e0 (And.intro e1 (And.intro e2 hB0)))
  have hC' := Aside0.mk @hC
  clear e0 e1 e2 hB0 hs0 hC hr hz
  go_loopg [5] 3 (fun gk v5 W => ∃ i : Nat, v5 = .int .i64 i ∧ i + gk = 3 ∧ i ≤ 2 ∧ Aside0 (Below w.heap.size w W ∧ s0 + 2 < W.heap.size ∧ (i < 2 → W.heap[s0]? = some (.cells #[.int .i64 a0, .int .i64 a1, .int .i64 a2, .int .i64 a3, .slice A l.length c] 41 (0, 0)) ∧ W.heap[s0 + 1]? = some (.cells Z 56 (0, 0)) ∧ W.heap[s0 + 1 + 1]? = some (.cells #[.pointer none, .pointer (some ⟨s0 + 1, 0, none⟩)] 25 (0, 0)))))
  case atStart => exact ⟨0, rfl, rfl, by omega, ⟨E.out.2.2.2, blk_lt E.out.2.2.1, fun _ => ⟨E.out.1, E.out.2.1, E.out.2.2.1⟩⟩⟩
  case round =>
    obtain ⟨i, rfl, hig, hi2, HI⟩ := hrel
    clear E
    by_cases hlt : i < 2
    · obtain ⟨p, hp, hS⟩ : ∃ p : Option Addr, wr.cell? ⟨s0 + 1 + 1, i, none⟩ = some (.pointer p) ∧ St w wr p N0 (fun k => k = s0 ∨ k = s0 + 1 + 1 ∨ (i = 0 ∧ k = s0 + 1)) := by
        have h2 := HI.out.2.2 hlt
        have hle := HS0.out
        have hgd : Good N0 := ⟨by decide, by decide, by decide, fun _ h => by cases h⟩
        obtain rfl | rfl : i = 0 ∨ i = 1 := by omega
        · exact ⟨none, (cells_at h2.2.2 (j := 0) rfl).1, fun _ => False, .inl ⟨rfl, rfl⟩, hgd, fun k h => h.elim, fun k hk => by have := HI.out.2.1; omega, HI.out.1⟩
        · exact ⟨some ⟨s0 + 1, 0, none⟩, (cells_at h2.2.2 (j := 1) rfl).1, fun k => k = s0 + 1, .inr ⟨_, rfl, HZ.out _ _ h2.2.1⟩, hgd, fun k h => by have := HI.out.2.1; omega, fun k hk => by have := HI.out.2.1; omega, HI.out.1⟩
      have HS := Aside0.mk hS
      have HX := Aside0.mk (HI.out.2.2 hlt).1
      have HK := Aside0.mk (Keeps.refl (fun k => k = s0 ∨ k = s0 + 1 + 1 ∨ (i = 0 ∧ k = s0 + 1)) wr)
      have HL := Aside0.mk (HI.out.2.2 hlt)
      clear hS
      obtain ⟨x1, _⟩ := cells_at HX.out (j := 1) rfl; obtain ⟨x2, _⟩ := cells_at HX.out (j := 2) rfl; obtain ⟨x3, _⟩ := cells_at HX.out (j := 3) rfl; obtain ⟨x4, _⟩ := cells_at HX.out (j := 4) rfl
      have hlt' : (i : Int) < 2 := by omega
      have hq : wrap64 ((i : Int) + 1) = (i : Int) + 1 := by unfold wrap64; omega
      go_wp2_with (first
        | (go_at_call 16; clear x1 x2 x3 x4; refine (n0_at HS.out _).mono ?_; rintro e w' ⟨vb, rfl, hv, hS, hK⟩; obtain ⟨Av, cv, rfl⟩ := hv; have HS2 := Aside0.mk ((hS.alloc (.cells #[.int .i64 0, .int .i64 0, .slice Av 0 cv] 33)).weak (fun k hk => .inl hk)); have HX2 := Aside0.mk (blk_alloc ((hK.2 s0 (.inl rfl)).trans HX.out) (.cells #[.int .i64 0, .int .i64 0, .slice Av 0 cv] 33)); have HK2 := Aside0.mk ((HK.out.trans hK).trans (Keeps.alloc _ _ (.cells #[.int .i64 0, .int .i64 0, .slice Av 0 cv] 33) hS.lt)); clear HS HX HK hS hK; have HS := HS2; have HX := HX2; have HK := HK2; clear HS2 HX2 HK2; obtain ⟨x1, _⟩ := cells_at HX.out (j := 1) rfl; obtain ⟨x2, _⟩ := cells_at HX.out (j := 2) rfl; obtain ⟨x3, _⟩ := cells_at HX.out (j := 3) rfl; obtain ⟨x4, _⟩ := cells_at HX.out (j := 4) rfl)
        | (go_at_call 12; clear x1 x2 x3 x4; refine (n0_dlv HS.out _).mono ?_; rintro e w' ⟨vb, rfl, hv, hS, hK⟩; obtain ⟨Av, cv, rfl⟩ := hv; have HS2 := Aside0.mk ((hS.alloc (.cells #[.int .i64 0, .int .i64 0, .slice Av 0 cv] 33)).weak (fun k hk => .inl hk)); have HX2 := Aside0.mk (blk_alloc ((hK.2 s0 (.inl rfl)).trans HX.out) (.cells #[.int .i64 0, .int .i64 0, .slice Av 0 cv] 33)); have HK2 := Aside0.mk ((HK.out.trans hK).trans (Keeps.alloc _ _ (.cells #[.int .i64 0, .int .i64 0, .slice Av 0 cv] 33) hS.lt)); clear HS HX HK hS hK; have HS := HS2; have HX := HX2; have HK := HK2; clear HS2 HX2 HK2; obtain ⟨x1, _⟩ := cells_at HX.out (j := 1) rfl; obtain ⟨x2, _⟩ := cells_at HX.out (j := 2) rfl; obtain ⟨x3, _⟩ := cells_at HX.out (j := 3) rfl; obtain ⟨x4, _⟩ := cells_at HX.out (j := 4) rfl)
        | (go_at_call 24; clear x1 x2 x3 x4; refine (n0_find HS.out _ _).mono ?_; rintro e w' ⟨rfl, hS, hK⟩; have HS2 := Aside0.mk hS; have HX2 := Aside0.mk ((hK.2 s0 (.inl rfl)).trans HX.out); have HK2 := Aside0.mk (HK.out.trans hK); clear HS HX HK hS hK; have HS := HS2; have HX := HX2; have HK := HK2; clear HS2 HX2 HK2; obtain ⟨x1, _⟩ := cells_at HX.out (j := 1) rfl; obtain ⟨x2, _⟩ := cells_at HX.out (j := 2) rfl; obtain ⟨x3, _⟩ := cells_at HX.out (j := 3) rfl; obtain ⟨x4, _⟩ := cells_at HX.out (j := 4) rfl)
        | (go_at_call 18; clear x1 x2 x3 x4; refine (n0_cut HS.out _ _).mono ?_; rintro e w' ⟨rfl, hS, hK⟩; have HS2 := Aside0.mk hS; have HX2 := Aside0.mk ((hK.2 s0 (.inl rfl)).trans HX.out); have HK2 := Aside0.mk (HK.out.trans hK); clear HS HX HK hS hK; have HS := HS2; have HX := HX2; have HK := HK2; clear HS2 HX2 HK2; obtain ⟨x1, _⟩ := cells_at HX.out (j := 1) rfl; obtain ⟨x2, _⟩ := cells_at HX.out (j := 2) rfl; obtain ⟨x3, _⟩ := cells_at HX.out (j := 3) rfl; obtain ⟨x4, _⟩ := cells_at HX.out (j := 4) rfl)
        | (go_at_call 19; clear x1 x2 x3 x4; refine (n0_heal HS.out _ _).mono ?_; rintro e w' ⟨rfl, hS, hK⟩; have HS2 := Aside0.mk hS; have HX2 := Aside0.mk ((hK.2 s0 (.inl rfl)).trans HX.out); have HK2 := Aside0.mk (HK.out.trans hK); clear HS HX HK hS hK; have HS := HS2; have HX := HX2; have HK := HK2; clear HS2 HX2 HK2; obtain ⟨x1, _⟩ := cells_at HX.out (j := 1) rfl; obtain ⟨x2, _⟩ := cells_at HX.out (j := 2) rfl; obtain ⟨x3, _⟩ := cells_at HX.out (j := 3) rfl; obtain ⟨x4, _⟩ := cells_at HX.out (j := 4) rfl)
        | (go_at_call 15; clear x1 x2 x3 x4; refine (n0_drop HS.out _).mono ?_; rintro e w' ⟨rfl, hS, hK⟩; have HS2 := Aside0.mk hS; have HX2 := Aside0.mk ((hK.2 s0 (.inl rfl)).trans HX.out); have HK2 := Aside0.mk (HK.out.trans hK); clear HS HX HK hS hK; have HS := HS2; have HX := HX2; have HK := HK2; clear HS2 HX2 HK2; obtain ⟨x1, _⟩ := cells_at HX.out (j := 1) rfl; obtain ⟨x2, _⟩ := cells_at HX.out (j := 2) rfl; obtain ⟨x3, _⟩ := cells_at HX.out (j := 3) rfl; obtain ⟨x4, _⟩ := cells_at HX.out (j := 4) rfl)
        | (go_at_call 17; clear x1 x2 x3 x4; refine (n0_dbl HS.out _).mono ?_; rintro e w' ⟨rfl, hS, hK⟩; have HS2 := Aside0.mk hS; have HX2 := Aside0.mk ((hK.2 s0 (.inl rfl)).trans HX.out); have HK2 := Aside0.mk (HK.out.trans hK); clear HS HX HK hS hK; have HS := HS2; have HX := HX2; have HK := HK2; clear HS2 HX2 HK2; obtain ⟨x1, _⟩ := cells_at HX.out (j := 1) rfl; obtain ⟨x2, _⟩ := cells_at HX.out (j := 2) rfl; obtain ⟨x3, _⟩ := cells_at HX.out (j := 3) rfl; obtain ⟨x4, _⟩ := cells_at HX.out (j := 4) rfl)
        | (go_at_call 10; clear x1 x2 x3 x4; refine (n0_send HS.out _ _ _ _ _ (hC'.out _ HS.out) hc).mono ?_; rintro e w' ⟨rfl, hS, hK⟩; have HS2 := Aside0.mk hS; have HX2 := Aside0.mk ((hK.2 s0 (.inl rfl)).trans HX.out); have HK2 := Aside0.mk (HK.out.trans hK); clear HS HX HK hS hK; have HS := HS2; have HX := HX2; have HK := HK2; clear HS2 HX2 HK2; obtain ⟨x1, _⟩ := cells_at HX.out (j := 1) rfl; obtain ⟨x2, _⟩ := cells_at HX.out (j := 2) rfl; obtain ⟨x3, _⟩ := cells_at HX.out (j := 3) rfl; obtain ⟨x4, _⟩ := cells_at HX.out (j := 4) rfl)
        | (go_at_call 25; refine (n0_nodes HS.out).mono ?_; rintro e w' ⟨rfl, rfl⟩)
        | (go_at_call 11; refine (n0_len HS.out).mono ?_; rintro e w' ⟨rfl, rfl⟩)
        | (go_at_call 26; refine (n0_open HS.out _ _).mono ?_; rintro e w' ⟨rfl, rfl⟩)
        | (go_at_call 21; refine (n0_copy HS.out).mono ?_; rintro e w' ⟨rfl, rfl⟩))
      obtain ⟨k1, rfl⟩ : ∃ k1, gk = k1 + 1 := ⟨gk - 1, by omega⟩
      go_roundg k1
      case measure => omega
      case rel =>
        have hk := HK.out
        have hl := HL.out
        have hsz := HI.out.2.1
        refine ⟨i + 1, rfl, by omega, by omega, ⟨HS.out.below, Nat.lt_of_lt_of_le hsz hk.1, fun h => ?_⟩⟩
        exact ⟨(hk.2 s0 (.inl rfl)).trans hl.1, (hk.2 (s0 + 1) (.inr (.inr ⟨by omega, rfl⟩))).trans hl.2.1, (hk.2 (s0 + 1 + 1) (.inr (.inl rfl))).trans hl.2.2⟩
    · obtain rfl : i = 2 := by omega
      have HB := Aside0.mk HI.out.1
      clear HI
      go_wp2_with (first | (go_at_call 8; refine (awake_c _).mono ?_; rintro e w' ⟨rfl, hb⟩; have HB2 := Aside0.mk (HB.out.trans (hb.mono HB.out.size)); clear hb))
      go_ret
      exact ⟨rfl, HB2.out⟩
end Go.Proofs.Ytnaefndclalepaa.Net
