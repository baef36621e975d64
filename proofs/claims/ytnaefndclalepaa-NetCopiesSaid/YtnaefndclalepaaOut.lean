/- A message is taken out of the net. -/
import Derived.Test.YtnaefndclalepaaDel
namespace Go.Proofs.Ytnaefndclalepaa.Net
set_option linter.unusedVariables false
set_option linter.unusedSimpArgs false
open Go.RowKit Go.Proofs.YtnaefndclalepaaW.PrintWords Go.Proofs.YtnaefndclalepaaW.PrintLast Go.Proofs.YtnaefndclalepaaW.PrintMore Go.Proofs.Ytnaefndclalepaa.XN
def take.T1 : Bool × List (List Nat × List Nat) := (true, [([], []), ([0], [0]), ([1], [1]), ([2], [2]), ([], []), ([3, 4], [3, 4]), ([5], [5]), ([], []), ([7, 6, 0, 1, 2, 3, 4, 5, 6, 7], [6, 7])])
def take.B1 : List Nat := [0, 1, 3, 7, 0, 31, 63, 0, 255]
theorem take.tab1 : rtab .any (opsOf Try.f30 1) = take.T1 := by kernel_rfl
theorem take.bits1 : waitsOk take.T1.2 take.B1 = true := by kernel_rfl
def take.T2 : Bool × List (List Nat × List Nat) := (true, [([], []), ([], []), ([1], [1]), ([2], [2]), ([3], [3]), ([4], [4]), ([], []), ([], []), ([7], [7]), ([5, 6, 8, 5], [5, 6, 8]), ([0, 0, 1, 2, 3, 4, 5, 6, 7, 8, 9], [0]), ([10, 0, 1, 2, 3, 4, 5, 6, 7, 8, 9], [10]), ([11, 9, 9, 0, 1, 2, 3, 4, 5, 6, 7, 8, 9], [9, 11])])
def take.B2 : List Nat := [0, 0, 2, 6, 14, 30, 0, 0, 128, 510, 1023, 2047, 4095]
theorem take.tab2 : rtab .any (opsOf Try.f30 2) = take.T2 := by kernel_rfl
theorem take.bits2 : waitsOk take.T2.2 take.B2 = true := by kernel_rfl
def take.T3 : Bool × List (List Nat × List Nat) := (true, [([], []), ([0, 0], [0])])
def take.B3 : List Nat := [0, 1]
theorem take.tab3 : rtab .any (opsOf Try.f30 3) = take.T3 := by kernel_rfl
theorem take.bits3 : waitsOk take.T3.2 take.B3 = true := by kernel_rfl
theorem IsNet.lt {W : World} {g : Nat} {fp : Nat → Prop} {n : NetS} (h : IsNet W g fp n) : g < W.heap.size := by
  obtain ⟨cs, vA, hb, _⟩ := h
  exact blk_lt hb
theorem IsNet.lts {W : World} {g : Nat} {fp : Nat → Prop} {n : NetS} (h : IsNet W g fp n) : ∀ k, fp k → k < W.heap.size := by
  obtain ⟨cs, vA, hb, _, _, _, _, _, _, hlt, _⟩ := h
  exact hlt
/-- The i-th message, as it lies. -/
theorem IsNet.elem {W : World} {g : Nat} {fp : Nat → Prop} {n : NetS} (h : IsNet W g fp n) (i : Nat) (hi : i < n.all.length) :
    ∃ b c A2 c2, W.cell? ⟨g, 0, none⟩ = some (.slice (some ⟨b, 0, none⟩) n.all.length c) ∧ W.cell? ⟨b, i * 3, none⟩ = some (.int .i64 n.all[i].f0) ∧ W.cell? ⟨b, i * 3 + 1, none⟩ = some (.int .i64 n.all[i].f1) ∧ W.cell? ⟨b, i * 3 + 2, none⟩ = some (.slice A2 n.all[i].f2.length c2) ∧
      n.all[i].f2.length ≤ c2 ∧ Kd.F (Kd.int .u8) W fp A2 n.all[i].f2.length n.all[i].f2 ∧ n.all.length ≤ c := by
  obtain ⟨cs, vA, hb, hsz, h0, h1, h2, hc, hg, hlt, hN⟩ := h
  obtain ⟨b, c, rfl, _, _, _⟩ := Kd.N_form hN (by omega)
  obtain ⟨cc, hcl, hK, hcc, _⟩ := Kd.N_elem hN z33 (i : Int) (by omega) (by omega)
  have hx : n.all.getD (i : Int).toNat z33 = n.all[i] := by simp [hi]
  rw [hx] at hK
  obtain ⟨A2, c2, rfl, hl2, _⟩ := k33_open (Kd.FK_now hK)
  have hF : Kd.F (Kd.int .u8) W fp A2 n.all[i].f2.length n.all[i].f2 := by
    intro W' hW'
    obtain ⟨A2', c2', he, _, hC⟩ := k33_open (hK W' (fun k hk hlt => hW' k hk.1.1 hlt))
    injection he with _ he
    injection he with _ he
    injection he with he _
    injection he with e1 _ e3
    rw [e1]
    exact hC
  refine ⟨b, c, A2, c2, (cells_at hb h0).1, hcc 0 _ rfl, hcc 1 _ rfl, hcc 2 _ rfl, hl2, hF, (Kd.N_reads' hN).2.1⟩

theorem take_end {w wa w2 w3 : World} {g b2 cp2 i : Nat} {fp : Nat → Prop} {n : NetS} {cs : Array Value} (s0 : cs.size = 259) (s1 : cs[1]? = some (.int .i64 n.most)) (s2 : cs[2]? = some (.int .i64 n.nodes)) (s3 : ∀ i, i < 256 → cs[3 + i]? = some (.bool (n.cut i)))
    (hg : fp g) (hb : w3.heap[g]? = some (.cells cs 56 (0, 0))) (hN : Kd.N k33 33 w3 0 (fun k => (fp k ∧ k ≠ g) ∨ wa.heap.size ≤ k) (.slice (some ⟨b2, 0, none⟩) (n.all.length - 1) cp2) (n.all.eraseIdx i))
    (hF0 : ∀ k, fp k → k < w.heap.size) (hgb : g < wa.heap.size) (hsz1 : wa.heap.size = w.heap.size + 2) (hF2 : Fr fp w w2) (hF3 : Fr (fun k => k = b2) w2 w3) (hle : wa.heap.size ≤ b2) (e : Ending) (va vb vc vd : Value) (hV : vd = .slice (some ⟨b2, 0, none⟩) (n.all.length - 1) cp2) (he : ∃ v, e = .returned v) :
    (∃ v, e = .returned v) ∧ (∃ fp' : Nat → Prop, IsNet ((((w3.setCell ⟨g, 0, none⟩ vd).setCell ⟨w.heap.size, 0, none⟩ va).setCell ⟨w.heap.size, 1, none⟩ vb).setCell ⟨w.heap.size, 2, none⟩ vc) g fp' { n with all := n.all.eraseIdx i } ∧ (∀ k, fp' k → fp k ∨ w.heap.size ≤ k)) ∧
      Fr fp w ((((w3.setCell ⟨g, 0, none⟩ vd).setCell ⟨w.heap.size, 0, none⟩ va).setCell ⟨w.heap.size, 1, none⟩ vb).setCell ⟨w.heap.size, 2, none⟩ vc) := by
  subst hV
  have hI4 : IsNet (w3.setCell ⟨g, 0, none⟩ (.slice (some ⟨b2, 0, none⟩) (n.all.length - 1) cp2)) g (fun k => (fp k ∨ wa.heap.size ≤ k) ∧ k < w3.heap.size) { n with all := n.all.eraseIdx i } :=
    IsNet.setAll hb s0 s1 s2 s3 ⟨.inl hg, blk_lt hb⟩ (S := fun k => (fp k ∨ wa.heap.size ≤ k) ∧ k < w3.heap.size) (Kd.N_mono (Kd.N_bound hN) (fun k hk => by
      rcases hk with ⟨⟨h1, h2⟩ | h1, h3⟩
      · exact ⟨⟨.inl h1, h3⟩, h2⟩
      · exact ⟨⟨.inr h1, h3⟩, by omega⟩)) (fun k hk => hk) (fun k hk => hk.2)
  have hF3' : Fr fp w w3 := hF2.trans hF3 (fun k e hk => by omega)
  have hne : ∀ k, (fp k ∨ wa.heap.size ≤ k) ∧ k < w3.heap.size → ¬ k = w.heap.size := fun k hk e => by
    rcases hk.1 with h1 | h1
    · have := hF0 k h1; omega
    · omega
  have hx : Fr (fun k => k = w.heap.size) (w3.setCell ⟨g, 0, none⟩ (.slice (some ⟨b2, 0, none⟩) (n.all.length - 1) cp2)) ((((w3.setCell ⟨g, 0, none⟩ (.slice (some ⟨b2, 0, none⟩) (n.all.length - 1) cp2)).setCell ⟨w.heap.size, 0, none⟩ va).setCell ⟨w.heap.size, 1, none⟩ vb).setCell ⟨w.heap.size, 2, none⟩ vc) :=
    (((Fr.refl (fun k => k = w.heap.size) _).setCell (p := ⟨w.heap.size, 0, none⟩) (fun _ => rfl) _).setCell (p := ⟨w.heap.size, 1, none⟩) (fun _ => rfl) _).setCell (p := ⟨w.heap.size, 2, none⟩) (fun _ => rfl) _
  refine ⟨he, ⟨_, hI4.fr hx hne, fun k hk => hk.1.imp id (fun h => by omega)⟩, ?_⟩
  exact (hF3'.setCell (p := ⟨g, 0, none⟩) (fun _ => hg) _).trans hx (fun k e hk => by omega)
set_option maxHeartbeats 4000000 in
set_option maxRecDepth 100000 in
theorem take_c (n : NetS) (g : Nat) (fp : Nat → Prop) (w : World) (h : IsNet w g fp n) (i : Nat) (hi : i < n.all.length) (hl : n.all.length < 1000000) :
    Calls Try.prog 30 #[.pointer (some ⟨g, 0, none⟩), .int .i64 i] w fun e w' => (∃ v, e = .returned v) ∧ (∃ fp' : Nat → Prop, IsNet w' g fp' { n with all := n.all.eraseIdx i } ∧ (∀ k, fp' k → fp k ∨ w.heap.size ≤ k)) ∧ Fr fp w w' := by
  have HL := Aside0.mk hl
  have hq2 : wrap64 ((i : Int) + 1) = (i : Int) + 1 := by unfold wrap64; omega
  clear hl
  have hq0 : (i : Int) < (n.all.length : Int) := by omega
  have hq1 : 0 ≤ (i : Int) := by omega
  have I0 := Aside0.mk (h.fr ((Fr.refl (fun _ => False) w).alloc (.cells #[.int .i64 0, .int .i64 0, .slice none 0 0] 33)) (fun _ _ h => h))
  have F0 := Aside0.mk ((Fr.refl fp w).alloc (.cells #[.int .i64 0, .int .i64 0, .slice none 0 0] 33))
  have h0w := h
  clear h
  obtain ⟨b, c, A2, cc2, c0, c1, c2, c3, _, _, hlc⟩ := I0.out.elem i hi
  generalize n.all[i].f0 = f at *
  generalize n.all[i].f1 = t at *
  generalize n.all[i].f2.length = ll at *
  have hbg : b ≠ g := by
    obtain ⟨cs, vA, hb, hsz, h0, h1, h2, hc, hg, hlt, hN⟩ := I0.out
    have e : vA = .slice (some ⟨b, 0, none⟩) n.all.length c := by
      have := (cells_at hb h0).1
      rw [this] at c0
      injection c0
    rw [e] at hN
    exact (hN.1 b rfl).2
  have SZ0 := Aside0.mk (show (w.alloc (.cells #[.int .i64 0, .int .i64 0, .slice none 0 0] 33)).heap.size = w.heap.size + 1 by simp)
  have BR0 := Aside0.mk (heap_alloc_new w (.cells #[.int .i64 0, .int .i64 0, .slice none 0 0] 33))
  have I1 := Aside0.mk (I0.out.fr ((Fr.refl (fun _ => False) _).alloc (.cells #[.int .i64 f, .int .i64 t, .slice A2 ll cc2] 33)) (fun _ _ h => h))
  have F1 := Aside0.mk (F0.out.alloc (.cells #[.int .i64 f, .int .i64 t, .slice A2 ll cc2] 33))
  have SZ1 := Aside0.mk (show ((w.alloc (.cells #[.int .i64 0, .int .i64 0, .slice none 0 0] 33)).alloc (.cells #[.int .i64 f, .int .i64 t, .slice A2 ll cc2] 33)).heap.size = w.heap.size + 2 by simp)
  have BR1 := Aside0.mk (blk_alloc BR0.out (.cells #[.int .i64 f, .int .i64 t, .slice A2 ll cc2] 33))
  have BX1 := Aside0.mk (show ((w.alloc (.cells #[.int .i64 0, .int .i64 0, .slice none 0 0] 33)).alloc (.cells #[.int .i64 f, .int .i64 t, .slice A2 ll cc2] 33)).heap[w.heap.size + 1]? = some (.cells #[.int .i64 f, .int .i64 t, .slice A2 ll cc2] 33 (0, 0)) by rw [← SZ0.out]; exact heap_alloc_new _ _)
  have d0 : ((w.alloc (.cells #[.int .i64 0, .int .i64 0, .slice none 0 0] 33)).alloc (.cells #[.int .i64 f, .int .i64 t, .slice A2 ll cc2] 33)).cell? ⟨g, 0, none⟩ = some (.slice (some ⟨b, 0, none⟩) n.all.length c) :=
    ((below_alloc (Below.refl _ _) _).cell (World.block_lt_of_cell? _ _ c0)).trans c0
  have hI := I1.out
  obtain ⟨cs, vA, hb, hsz, hc0, hc1, hc2, hcc, hg, hlt, hN⟩ := hI
  have e : vA = .slice (some ⟨b, 0, none⟩) n.all.length c := by
    have := (cells_at hb hc0).1
    rw [this] at d0
    injection d0
  rw [e] at hN hc0
  have HN1 := Aside0.mk hN
  have BK1 := Aside0.mk hb
  have HC0 := Aside0.mk hc0
  have HC := Aside0.mk (And.intro hsz (And.intro hc1 (And.intro hc2 hcc)))
  have HG := Aside0.mk hg
  have HLT := Aside0.mk hlt
  have HLC := Aside0.mk hlc
  have HF0 := Aside0.mk (IsNet.lts h0w)
  have HGG := Aside0.mk (show w.heap.size ≠ g ∧ w.heap.size + 1 ≠ g by have := IsNet.lt h0w; omega)
  clear hb hsz hc0 hc1 hc2 hcc hg hlt hN e I1 hlc h0w
  go_enter Try.func30, Try.ntmps30
  go_wp2_with (first
    | (go_at_call 46; clear c0 c1 c2 c3 d0 I0 F0 SZ0 BR0; generalize ((w.alloc (.cells #[.int .i64 0, .int .i64 0, .slice none 0 0] 33)).alloc (.cells #[.int .i64 f, .int .i64 t, .slice A2 ll cc2] 33)) = wa at *; refine (clone_c _ _ _ _ _ (Kd.N_F HN1.out) HLC.out (fun k hk => HLT.out k hk.1) HL.out).mono ?_; rintro e w2 ⟨v2, rfl, hN2, hB2⟩; obtain ⟨b2, cp2, rfl, hle2, _, _⟩ := Kd.N_form hN2 (by omega); have HN2 := Aside0.mk (Kd.N_lower hN2 (Nat.zero_le _)); have HLE := Aside0.mk hle2; have HB2 := Aside0.mk hB2; clear hN2 hB2 hle2)
    | (go_at_call 45; go_loud (rw [hq2]; refine (delete_c b2 cp2 i n.all w2 _ HN2.out hi HL.out).mono ?_; rintro e w3 ⟨rfl, hN3, hF3⟩; have HN3 := Aside0.mk hN3; have F3 := Aside0.mk hF3; clear hN3 hF3; have hkb : wa.heap.size ≤ b2 := HLE.out; have hgw : g < wa.heap.size := blk_lt BK1.out; have hw0 : w.heap.size + 1 < wa.heap.size := (by have := SZ1.out; omega); have hW3 : ∀ k, k < wa.heap.size → w3.heap[k]? = wa.heap[k]? := (fun k hk => (F3.out.block k (Nat.lt_of_lt_of_le hk HB2.out.size) (fun e => by omega)).trans (HB2.out.block k hk)); have BK3 := Aside0.mk ((hW3 g hgw).trans BK1.out); have BR3 := Aside0.mk ((hW3 w.heap.size (by omega)).trans BR1.out); have BX3 := Aside0.mk ((hW3 (w.heap.size + 1) hw0).trans BX1.out); clear hW3; obtain ⟨hc3, hf3⟩ := cells_at BK3.out HC0.out; have BX4 := Aside0.mk ((Below.heap_setCell w3 ⟨g, 0, none⟩ (.slice (some ⟨b2, 0, none⟩) (n.all.length - 1) cp2) (w.heap.size + 1) (HGG.out.2)).trans BX3.out); have BR4 := Aside0.mk ((Below.heap_setCell w3 ⟨g, 0, none⟩ (.slice (some ⟨b2, 0, none⟩) (n.all.length - 1) cp2) w.heap.size (HGG.out.1)).trans BR3.out); obtain ⟨x0, _⟩ := cells_at BX4.out (j := 0) rfl; obtain ⟨x1, _⟩ := cells_at BX4.out (j := 1) rfl; obtain ⟨x2, _⟩ := cells_at BX4.out (j := 2) rfl; obtain ⟨y0, z0⟩ := cells_at BR4.out (j := 0) rfl; obtain ⟨y1, z1⟩ := cells_at BR4.out (j := 1) rfl; obtain ⟨y2, z2⟩ := cells_at BR4.out (j := 2) rfl)))
  refine bodyPost_ret (results_cell_row rfl _ _ w.heap.size 33 #[.int .i64 f, .int .i64 t, .slice A2 ll cc2] (0, 0) _ rfl (by refine blk_put (cs := #[.int .i64 f, .int .i64 t, .slice none 0 0]) ?_ 2 _ rfl; refine blk_put (cs := #[.int .i64 f, .int .i64 0, .slice none 0 0]) ?_ 1 _ rfl; refine blk_put (cs := #[.int .i64 0, .int .i64 0, .slice none 0 0]) ?_ 0 _ rfl; exact BR4.out) Try.underlying33 rfl (by kernel_rfl)) rfl ?_
  clear x0 x1 x2 y0 y1 y2 z0 z1 z2 hc3 hf3 hq0 hq1 hq2
  have hsz := HC.out
  have hgb := blk_lt BK1.out
  have hsz1 := SZ1.out
  have hle := HLE.out
  exact take_end hsz.1 hsz.2.1 hsz.2.2.1 hsz.2.2.2 HG.out BK3.out HN3.out HF0.out hgb hsz1 (F1.out.trans (Fr.of_below HB2.out (fun _ => False)) (fun _ h _ => h.elim)) F3.out hle _ _ _ _ _ rfl ⟨_, rfl⟩
end Go.Proofs.Ytnaefndclalepaa.Net
