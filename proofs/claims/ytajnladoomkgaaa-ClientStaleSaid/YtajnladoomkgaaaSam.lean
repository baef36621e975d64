/- Is a client the same as itself, read twice? -/
import Derived.Test.YtajnladoomkgaaaHlp
namespace Go.Proofs.Ytajnladoomkgaaa.Cli
set_option linter.unusedVariables false
set_option linter.unusedSimpArgs false
open RowOf Go.RowKit Go.Proofs.YtajnladoomkgaaaW.PrintWords Go.Proofs.YtajnladoomkgaaaW.PrintLast Go.Proofs.YtajnladoomkgaaaW.PrintMore Go.Proofs.Ytajnladoomkgaaa.XC
attribute [local go_sem] max2_int min2_int max_two min_two

theorem eqb_l (d : Nat) : ∀ (k : Nat) (l : List Int) (n i : Int), 0 ≤ i → i + d = n → n = l.length → n < 9223372036854775807 → d < k → slices_Equal_byte_byte.l0 k l l n i = some true := by
  induction d with
  | zero =>
    intro k l n i h0 h1 h2 h3 hk
    obtain ⟨k, rfl⟩ : ∃ m, k = m + 1 := ⟨k - 1, by omega⟩
    simp only [slices_Equal_byte_byte.l0]
    rw [if_neg (by omega)]
  | succ d ih =>
    intro k l n i h0 h1 h2 h3 hk
    obtain ⟨k, rfl⟩ : ∃ m, k = m + 1 := ⟨k - 1, by omega⟩
    have hq : wrap64 (i + 1) = i + 1 := by unfold wrap64; omega
    have hi : i < n := by omega
    have hlt : i < (l.length : Int) := by omega
    simp only [slices_Equal_byte_byte.l0, hi, h0, hlt, if_true, hq]
    exact ih k l n (i + 1) (by omega) (by omega) h2 h3 (by omega)
theorem eqi_l (d : Nat) : ∀ (k : Nat) (l : List Int) (n i : Int), 0 ≤ i → i + d = n → n = l.length → n < 9223372036854775807 → d < k → slices_Equal_int_int.l0 k l l n i = some true := by
  induction d with
  | zero =>
    intro k l n i h0 h1 h2 h3 hk
    obtain ⟨k, rfl⟩ : ∃ m, k = m + 1 := ⟨k - 1, by omega⟩
    simp only [slices_Equal_int_int.l0]
    rw [if_neg (by omega)]
  | succ d ih =>
    intro k l n i h0 h1 h2 h3 hk
    obtain ⟨k, rfl⟩ : ∃ m, k = m + 1 := ⟨k - 1, by omega⟩
    have hq : wrap64 (i + 1) = i + 1 := by unfold wrap64; omega
    have hi : i < n := by omega
    have hlt : i < (l.length : Int) := by omega
    simp only [slices_Equal_int_int.l0, hi, h0, hlt, if_true, hq]
    exact ih k l n (i + 1) (by omega) (by omega) h2 h3 (by omega)
theorem eqb_self (l : List Int) (h : l.length ≤ 140737488351232) : slices_Equal_byte_byte.f (l.length + 1) l l = some true := by
  unfold slices_Equal_byte_byte.f
  rw [if_pos rfl]
  exact eqb_l l.length _ l _ 0 (Int.le_refl _) (by omega) rfl (by omega) (by omega)
theorem eqi_self (l : List Int) (h : l.length < 1000000) : slices_Equal_int_int.f (l.length + 1) l l = some true := by
  unfold slices_Equal_int_int.f
  rw [if_pos rfl]
  exact eqi_l l.length _ l _ 0 (Int.le_refl _) (by omega) rfl (by omega) (by omega)
def sam.T1 : Bool × List (List Nat × List Nat) := (true, [([], []), ([0], [0]), ([], []), ([2], [2]), ([], []), ([], []), ([4, 1, 0, 1, 4, 5], [1, 4]), ([5, 3, 6, 0, 1, 2, 3, 4, 5, 6], [3, 5])])
def sam.B1 : List Nat := [0, 1, 0, 4, 0, 0, 51, 127]
theorem sam.tab1 : rtab .any (opsOf Try.f15 1) = sam.T1 := by kernel_rfl
theorem sam.bits1 : waitsOk sam.T1.2 sam.B1 = true := by kernel_rfl
set_option maxHeartbeats 8000000 in
set_option maxRecDepth 100000 in
theorem same_c (c : CliS) (A1 : Option Addr) (k1 : Nat) (A2 : Option Addr) (k2 : Nat) (B1 : Option Addr) (j1 : Nat) (B2 : Option Addr) (j2 : Nat) (w : World) (ha : CliIn w c A1 k1 A2 k2) (hb : CliIn w c B1 j1 B2 j2) (hb1 : c.Br.length < 1000000) (hb2 : c.Call.f8.length ≤ 140737488351232) :
    Calls Try.prog 15 #[.agg (rL_ c A1 k1 A2 k2), .agg (rL_ c B1 j1 B2 j2)] w fun e w' => e = .returned (.bool true) ∧ Below w.heap.size w w' := by
  have HA := Aside0.mk ha
  have HB := Aside0.mk hb
  have HU := Aside0.mk (show (w.alloc (.cells (rL_ c A1 k1 A2 k2) 29)).heap.size = w.heap.size + 1 by simp)
  have H00 := Aside0.mk (blk_alloc (heap_alloc_new w (.cells (rL_ c A1 k1 A2 k2) 29)) (.cells (rL_ c B1 j1 B2 j2) 29))
  have H10 := Aside0.mk (HU.out ▸ heap_alloc_new (w.alloc (.cells (rL_ c A1 k1 A2 k2) 29)) (.cells (rL_ c B1 j1 B2 j2) 29))
  have HFR0 := Aside0.mk (((Fr.refl (fun _ => False) w).alloc (.cells (rL_ c A1 k1 A2 k2) 29)).alloc (.cells (rL_ c B1 j1 B2 j2) 29))
  have HL0 := Aside0.mk (show ((w.alloc (.cells (rL_ c A1 k1 A2 k2) 29)).alloc (.cells (rL_ c B1 j1 B2 j2) 29)).heap.size = w.heap.size + 2 by simp)
  clear ha hb HU
  go_enter Try.func15, Try.ntmps15
  go_wp2
  generalize World.alloc _ _ = WX at H00 H10 HFR0 HL0 ⊢
  have d0 := H00.out
  have d1 := H10.out
  refine start_ (n := 8) (S := fun w' => w'.heap[w.heap.size]? = some (.cells (rL_ c A1 k1 A2 k2) 29 (0, 0)) ∧ w'.heap[w.heap.size + 1]? = some (.cells (rL_ c B1 j1 B2 j2) 29 (0, 0))) (ds := []) #[false, false, false, false, false, false, false, false] (by kernel_rfl) rfl rfl ⟨d0, d1⟩ (fun hHeld => ?_)
  refine with_tabW sam.tab1 sam.bits1 (fun HT_ HW_ => ?_)
  have HFR := Aside0.mk HFR0.out.drew
  have HL := Aside0.mk (show WX.drew.heap.size = w.heap.size + 2 from HL0.out)
  clear d0 d1 H00 H10 HFR0 HL0
  generalize WX.drew = W0 at HFR HL hHeld ⊢
  refine pure_ (i := 0) (N := some 8) (v := ?_) (a' := ?_) #[true, false, false, false, false, false, false, false] rfl rfl (any_of HT_.out (by kernel_rfl)) (fun _ _ _ h => h) (Or.inl ⟨by rfl, ?_⟩) ?_ ?_
  rotate_left; (intro w'; go_simp; with_reducible rfl); rotate_left; (simp only [Act.put, List.setIfInBounds_toArray, List.set_cons_zero, List.set_cons_succ, i64_w, i32_w]; rfl)
  refine pure_ (i := 2) (N := some 10) (v := ?_) (a' := ?_) #[true, false, true, false, false, false, false, false] rfl rfl (any_of HT_.out (by kernel_rfl)) (fun _ _ _ h => h) (Or.inl ⟨by rfl, ?_⟩) ?_ ?_
  rotate_left; (intro w'; go_simp; with_reducible rfl); rotate_left; (simp only [Act.put, List.setIfInBounds_toArray, List.set_cons_zero, List.set_cons_succ, i64_w, i32_w]; rfl)
  refine take_ (i := 1) (N := some 9) (a' := ?_) #[true, true, true, false, false, false, false, false] rfl rfl (take_ofW HT_.out HW_.out (by kernel_rfl)) (fun _ _ _ h => h) (yieldsIf_load_mid (by rfl) 27 (.tmp 8) rfl w.heap.size 5 (by rfl) [.int .i64 c.Call.f0, .int .u64 c.Call.f1, .int .u64 c.Call.f2, .int .i64 c.Call.f3, .int .i64 c.Call.f4, .int .i64 c.Call.f5, .int .u64 c.Call.f6, .int .u64 c.Call.f7, .slice A2 c.Call.f8.length k2] _ (fun w' s => blk_range s.1 5 _ rfl) Try.underlying27 rfl (by kernel_rfl)) hHeld ?_ ?_
  rotate_left; (simp only [Act.put, List.setIfInBounds_toArray, List.set_cons_zero, List.set_cons_succ, List.toArray, i64_w, i32_w]; rfl)
  refine take_ (i := 3) (N := some 11) (a' := ?_) #[true, true, true, true, false, false, false, false] rfl rfl (take_ofW HT_.out HW_.out (by kernel_rfl)) (fun _ _ _ h => h) (yieldsIf_load_mid (by rfl) 27 (.tmp 10) rfl (w.heap.size + 1) 5 (by rfl) [.int .i64 c.Call.f0, .int .u64 c.Call.f1, .int .u64 c.Call.f2, .int .i64 c.Call.f3, .int .i64 c.Call.f4, .int .i64 c.Call.f5, .int .u64 c.Call.f6, .int .u64 c.Call.f7, .slice B2 c.Call.f8.length j2] _ (fun w' s => blk_range s.2 5 _ rfl) Try.underlying27 rfl (by kernel_rfl)) hHeld ?_ ?_
  rotate_left; (simp only [Act.put, List.setIfInBounds_toArray, List.set_cons_zero, List.set_cons_succ, List.toArray, i64_w, i32_w]; rfl)
  refine two_ (i := 4) (j := 5) (Ni := some 5) (Nj := some 6) #[true, true, true, true, true, false, false, false] #[true, true, true, true, false, true, false, false] rfl rfl rfl rfl (two_of HT_.out (by kernel_rfl)) (by decide) (by decide) (fun K hK => ?_) (fun K hK => ?_)
  · refine value_ (w1 := W0.alloc (.cells #[.int .i64 0, .int .u64 0, .int .u64 0, .int .i64 0, .int .i64 0, .int .i64 0, .int .u64 0, .int .u64 0, .slice none 0 0] 27)) (v := .pointer (some ⟨W0.heap.size, 0, none⟩)) (by rfl) rfl ?_ ?_
    · go_simp
    refine hK.out _ _ ⟨blk_alloc hHeld.1 _, blk_alloc hHeld.2 _⟩ (fun hHeld => ?_)
    clear hK K
    refine norm_ (a' := ?_) ?_ ?_
    rotate_left; (show Act.put _ (some 5) _ = _; simp only [Act.put, List.setIfInBounds_toArray, List.set_cons_zero, List.set_cons_succ, i64_w, i32_w]; rfl)
    refine one_ (i := 5) (N := some 6) #[true, true, true, true, true, true, false, false] rfl rfl (one_of HT_.out (by kernel_rfl)) (by decide) (fun K hK => ?_)
    refine value_ (w1 := (W0.alloc (.cells #[.int .i64 0, .int .u64 0, .int .u64 0, .int .i64 0, .int .i64 0, .int .i64 0, .int .u64 0, .int .u64 0, .slice none 0 0] 27)).alloc (.cells #[.int .i64 0, .int .u64 0, .int .u64 0, .int .i64 0, .int .i64 0, .int .i64 0, .int .u64 0, .int .u64 0, .slice none 0 0] 27)) (v := .pointer (some ⟨W0.heap.size + 1, 0, none⟩)) (by rfl) rfl ?_ ?_
    · go_simp
    refine hK.out _ _ ⟨blk_alloc hHeld.1 _, blk_alloc hHeld.2 _⟩ (fun hHeld => ?_)
    clear hK K
    refine norm_ (a' := ?_) ?_ ?_
    rotate_left; (show Act.put _ (some 6) _ = _; simp only [Act.put, List.setIfInBounds_toArray, List.set_cons_zero, List.set_cons_succ, i64_w, i32_w]; rfl)
    refine one_ (i := 6) (N := none) #[true, true, true, true, true, true, true, false] rfl rfl (one_of HT_.out (by kernel_rfl)) (by decide) (fun K hK => ?_)
    refine row_ 27 (.tmp 5) (.tmp 9) W0.heap.size (rK_ c.Call A2 k2) 27 #[.int .i64 0, .int .u64 0, .int .u64 0, .int .i64 0, .int .i64 0, .int .i64 0, .int .u64 0, .int .u64 0, .slice none 0 0] (by rfl) rfl rfl (by rfl) (by rfl) (blk_alloc (heap_alloc_new W0 (.cells #[.int .i64 0, .int .u64 0, .int .u64 0, .int .i64 0, .int .i64 0, .int .i64 0, .int .u64 0, .int .u64 0, .slice none 0 0] 27)) (.cells #[.int .i64 0, .int .u64 0, .int .u64 0, .int .i64 0, .int .i64 0, .int .i64 0, .int .u64 0, .int .u64 0, .slice none 0 0] 27)) (by kernel_rfl) (by rfl) (by kernel_rfl) ?_
    refine hK.out _ _ ⟨(setRow_other _ _ _ _ (by have := HL.out; omega)).trans hHeld.1, (setRow_other _ _ _ _ (by have := HL.out; omega)).trans hHeld.2⟩ (fun hHeld => ?_)
    clear hK K
    refine one_ (i := 7) (N := none) #[true, true, true, true, true, true, true, true] rfl rfl (one_of HT_.out (by kernel_rfl)) (by decide) (fun K hK => ?_)
    refine row_ 27 (.tmp 6) (.tmp 11) (W0.heap.size + 1) (rK_ c.Call B2 j2) 27 #[.int .i64 0, .int .u64 0, .int .u64 0, .int .i64 0, .int .i64 0, .int .i64 0, .int .u64 0, .int .u64 0, .slice none 0 0] (by rfl) rfl rfl (by rfl) (by rfl) (blk_row_far ((show (W0.alloc (.cells #[.int .i64 0, .int .u64 0, .int .u64 0, .int .i64 0, .int .i64 0, .int .i64 0, .int .u64 0, .int .u64 0, .slice none 0 0] 27)).heap.size = W0.heap.size + 1 by simp) ▸ heap_alloc_new (W0.alloc (.cells #[.int .i64 0, .int .u64 0, .int .u64 0, .int .i64 0, .int .i64 0, .int .i64 0, .int .u64 0, .int .u64 0, .slice none 0 0] 27)) (.cells #[.int .i64 0, .int .u64 0, .int .u64 0, .int .i64 0, .int .i64 0, .int .i64 0, .int .u64 0, .int .u64 0, .slice none 0 0] 27)) (rK_ c.Call A2 k2) (show (W0.heap.size + 1) ≠ W0.heap.size by omega)) (by kernel_rfl) (by rfl) (by kernel_rfl) ?_
    refine hK.out _ _ ⟨(setRow_other _ _ _ _ (by have := HL.out; omega)).trans hHeld.1, (setRow_other _ _ _ _ (by have := HL.out; omega)).trans hHeld.2⟩ (fun hHeld => ?_)
    clear hK K
    refine done_ (done_of HT_.out (by kernel_rfl)) ?_
    clear HT_ HW_
    have BA := Aside0.mk (blk_row_far (blk_row (blk_alloc (heap_alloc_new W0 (.cells #[.int .i64 0, .int .u64 0, .int .u64 0, .int .i64 0, .int .i64 0, .int .i64 0, .int .u64 0, .int .u64 0, .slice none 0 0] 27)) (.cells #[.int .i64 0, .int .u64 0, .int .u64 0, .int .i64 0, .int .i64 0, .int .i64 0, .int .u64 0, .int .u64 0, .slice none 0 0] 27)) (rK_ c.Call A2 k2)) (rK_ c.Call B2 j2) (show W0.heap.size ≠ (W0.heap.size + 1) by omega))
    have BB := Aside0.mk (blk_row (blk_row_far ((show (W0.alloc (.cells #[.int .i64 0, .int .u64 0, .int .u64 0, .int .i64 0, .int .i64 0, .int .i64 0, .int .u64 0, .int .u64 0, .slice none 0 0] 27)).heap.size = W0.heap.size + 1 by simp) ▸ heap_alloc_new (W0.alloc (.cells #[.int .i64 0, .int .u64 0, .int .u64 0, .int .i64 0, .int .i64 0, .int .i64 0, .int .u64 0, .int .u64 0, .slice none 0 0] 27)) (.cells #[.int .i64 0, .int .u64 0, .int .u64 0, .int .i64 0, .int .i64 0, .int .i64 0, .int .u64 0, .int .u64 0, .slice none 0 0] 27)) (rK_ c.Call A2 k2) (show (W0.heap.size + 1) ≠ W0.heap.size by omega)) (rK_ c.Call B2 j2))
    have FR := Aside0.mk ((((HFR.out.alloc (.cells #[.int .i64 0, .int .u64 0, .int .u64 0, .int .i64 0, .int .i64 0, .int .i64 0, .int .u64 0, .int .u64 0, .slice none 0 0] 27)).alloc (.cells #[.int .i64 0, .int .u64 0, .int .u64 0, .int .i64 0, .int .i64 0, .int .i64 0, .int .u64 0, .int .u64 0, .slice none 0 0] 27)).setRow W0.heap.size (rK_ c.Call A2 k2) (fun h => by have := HL.out; omega)).setRow (W0.heap.size + 1) (rK_ c.Call B2 j2) (fun h => by have := HL.out; omega))
    have H0 := Aside0.mk hHeld.1
    have H1 := Aside0.mk hHeld.2
    clear hHeld HFR
    generalize World.setRow _ _ _ = WC at BA BB FR H0 H1 ⊢
    have HBW := Aside0.mk (FR.out.below (Nat.le_refl _) (fun _ h => h.elim))
    have HQ := Aside0.mk (slices_Equal_byte_byte.calls (c.Call.f8.length + 1) A2 k2 c.Call.f8 B2 j2 c.Call.f8 true WC (Kd.C_below HA.out.C2 HBW.out) HA.out.l2 (Kd.C_below HB.out.C2 HBW.out) HB.out.l2 (eqb_self _ hb2))
    have HJ := Aside0.mk (fun (W : World) (h : Below WC.heap.size WC W) => slices_Equal_int_int.calls (c.Br.length + 1) A1 k1 c.Br B1 j1 c.Br true W (Kd.C_below HA.out.C1 (below_then HBW.out HBW.out.size h)) HA.out.l1 (Kd.C_below HB.out.C1 (below_then HBW.out HBW.out.size h)) HB.out.l1 (eqi_self _ hb1))
    have a0 : WC.cell? ⟨W0.heap.size, 0, none⟩ = some (.int .i64 c.Call.f0) := (cells_at BA.out rfl).1
    have a1 : WC.cell? ⟨W0.heap.size, 1, none⟩ = some (.int .u64 c.Call.f1) := (cells_at BA.out rfl).1
    have a2 : WC.cell? ⟨W0.heap.size, 2, none⟩ = some (.int .u64 c.Call.f2) := (cells_at BA.out rfl).1
    have a3 : WC.cell? ⟨W0.heap.size, 3, none⟩ = some (.int .i64 c.Call.f3) := (cells_at BA.out rfl).1
    have a4 : WC.cell? ⟨W0.heap.size, 4, none⟩ = some (.int .i64 c.Call.f4) := (cells_at BA.out rfl).1
    have a5 : WC.cell? ⟨W0.heap.size, 5, none⟩ = some (.int .i64 c.Call.f5) := (cells_at BA.out rfl).1
    have a6 : WC.cell? ⟨W0.heap.size, 6, none⟩ = some (.int .u64 c.Call.f6) := (cells_at BA.out rfl).1
    have a7 : WC.cell? ⟨W0.heap.size, 7, none⟩ = some (.int .u64 c.Call.f7) := (cells_at BA.out rfl).1
    have a8 : WC.cell? ⟨W0.heap.size, 8, none⟩ = some (.slice A2 c.Call.f8.length k2) := (cells_at BA.out rfl).1
    have b0 : WC.cell? ⟨(W0.heap.size + 1), 0, none⟩ = some (.int .i64 c.Call.f0) := (cells_at BB.out rfl).1
    have b1 : WC.cell? ⟨(W0.heap.size + 1), 1, none⟩ = some (.int .u64 c.Call.f1) := (cells_at BB.out rfl).1
    have b2 : WC.cell? ⟨(W0.heap.size + 1), 2, none⟩ = some (.int .u64 c.Call.f2) := (cells_at BB.out rfl).1
    have b3 : WC.cell? ⟨(W0.heap.size + 1), 3, none⟩ = some (.int .i64 c.Call.f3) := (cells_at BB.out rfl).1
    have b4 : WC.cell? ⟨(W0.heap.size + 1), 4, none⟩ = some (.int .i64 c.Call.f4) := (cells_at BB.out rfl).1
    have b5 : WC.cell? ⟨(W0.heap.size + 1), 5, none⟩ = some (.int .i64 c.Call.f5) := (cells_at BB.out rfl).1
    have b6 : WC.cell? ⟨(W0.heap.size + 1), 6, none⟩ = some (.int .u64 c.Call.f6) := (cells_at BB.out rfl).1
    have b7 : WC.cell? ⟨(W0.heap.size + 1), 7, none⟩ = some (.int .u64 c.Call.f7) := (cells_at BB.out rfl).1
    have b8 : WC.cell? ⟨(W0.heap.size + 1), 8, none⟩ = some (.slice B2 c.Call.f8.length j2) := (cells_at BB.out rfl).1
    go_wp2_with (go_at_call 31; refine HQ.out.mono ?_; rintro e WD ⟨rfl, hd⟩; have HD := Aside0.mk (Drawn0.below hd); have x0 : WD.cell? ⟨w.heap.size, 0, none⟩ = some (.int .i64 c.Id) := (cells_at (blk_below H0.out HD.out) rfl).1; have y0 : WD.cell? ⟨w.heap.size + 1, 0, none⟩ = some (.int .i64 c.Id) := (cells_at (blk_below H1.out HD.out) rfl).1; have x1 : WD.cell? ⟨w.heap.size, 1, none⟩ = some (.int .u64 c.Inc) := (cells_at (blk_below H0.out HD.out) rfl).1; have y1 : WD.cell? ⟨w.heap.size + 1, 1, none⟩ = some (.int .u64 c.Inc) := (cells_at (blk_below H1.out HD.out) rfl).1; have x2 : WD.cell? ⟨w.heap.size, 2, none⟩ = some (.int .u64 c.N) := (cells_at (blk_below H0.out HD.out) rfl).1; have y2 : WD.cell? ⟨w.heap.size + 1, 2, none⟩ = some (.int .u64 c.N) := (cells_at (blk_below H1.out HD.out) rfl).1; have x3 : WD.cell? ⟨w.heap.size, 3, none⟩ = some (.slice A1 c.Br.length k1) := (cells_at (blk_below H0.out HD.out) rfl).1; have y3 : WD.cell? ⟨w.heap.size + 1, 3, none⟩ = some (.slice B1 c.Br.length j1) := (cells_at (blk_below H1.out HD.out) rfl).1; clear hd HQ a0 b0 a1 b1 a2 b2 a3 b3 a4 b4 a5 b5 a6 b6 a7 b7 a8 b8)
    go_wp2_with (go_at_call 32; refine (HJ.out WD HD.out).mono ?_; rintro e WE ⟨rfl, hd⟩; have HE := Aside0.mk (below_then HD.out HD.out.size (Drawn0.below hd)); clear x0 x1 x2 x3 y0 y1 y2 y3; have x4 : WE.cell? ⟨w.heap.size, 4, none⟩ = some (.int .i64 c.Busy) := (cells_at (blk_below H0.out HE.out) rfl).1; have y4 : WE.cell? ⟨w.heap.size + 1, 4, none⟩ = some (.int .i64 c.Busy) := (cells_at (blk_below H1.out HE.out) rfl).1; have x14 : WE.cell? ⟨w.heap.size, 14, none⟩ = some (.int .i64 c.At) := (cells_at (blk_below H0.out HE.out) rfl).1; have y14 : WE.cell? ⟨w.heap.size + 1, 14, none⟩ = some (.int .i64 c.At) := (cells_at (blk_below H1.out HE.out) rfl).1; have x15 : WE.cell? ⟨w.heap.size, 15, none⟩ = some (.int .u64 c.Born) := (cells_at (blk_below H0.out HE.out) rfl).1; have y15 : WE.cell? ⟨w.heap.size + 1, 15, none⟩ = some (.int .u64 c.Born) := (cells_at (blk_below H1.out HE.out) rfl).1; have x16 : WE.cell? ⟨w.heap.size, 16, none⟩ = some (.int .u64 c.Since) := (cells_at (blk_below H0.out HE.out) rfl).1; have y16 : WE.cell? ⟨w.heap.size + 1, 16, none⟩ = some (.int .u64 c.Since) := (cells_at (blk_below H1.out HE.out) rfl).1; clear hd HJ)
    go_ret
    exact ⟨rfl, below_then HBW.out HBW.out.size HE.out⟩
  · refine value_ (w1 := W0.alloc (.cells #[.int .i64 0, .int .u64 0, .int .u64 0, .int .i64 0, .int .i64 0, .int .i64 0, .int .u64 0, .int .u64 0, .slice none 0 0] 27)) (v := .pointer (some ⟨W0.heap.size, 0, none⟩)) (by rfl) rfl ?_ ?_
    · go_simp
    refine hK.out _ _ ⟨blk_alloc hHeld.1 _, blk_alloc hHeld.2 _⟩ (fun hHeld => ?_)
    clear hK K
    refine norm_ (a' := ?_) ?_ ?_
    rotate_left; (show Act.put _ (some 6) _ = _; simp only [Act.put, List.setIfInBounds_toArray, List.set_cons_zero, List.set_cons_succ, i64_w, i32_w]; rfl)
    refine one_ (i := 4) (N := some 5) #[true, true, true, true, true, true, false, false] rfl rfl (one_of HT_.out (by kernel_rfl)) (by decide) (fun K hK => ?_)
    refine value_ (w1 := (W0.alloc (.cells #[.int .i64 0, .int .u64 0, .int .u64 0, .int .i64 0, .int .i64 0, .int .i64 0, .int .u64 0, .int .u64 0, .slice none 0 0] 27)).alloc (.cells #[.int .i64 0, .int .u64 0, .int .u64 0, .int .i64 0, .int .i64 0, .int .i64 0, .int .u64 0, .int .u64 0, .slice none 0 0] 27)) (v := .pointer (some ⟨W0.heap.size + 1, 0, none⟩)) (by rfl) rfl ?_ ?_
    · go_simp
    refine hK.out _ _ ⟨blk_alloc hHeld.1 _, blk_alloc hHeld.2 _⟩ (fun hHeld => ?_)
    clear hK K
    refine norm_ (a' := ?_) ?_ ?_
    rotate_left; (show Act.put _ (some 5) _ = _; simp only [Act.put, List.setIfInBounds_toArray, List.set_cons_zero, List.set_cons_succ, i64_w, i32_w]; rfl)
    refine one_ (i := 6) (N := none) #[true, true, true, true, true, true, true, false] rfl rfl (one_of HT_.out (by kernel_rfl)) (by decide) (fun K hK => ?_)
    refine row_ 27 (.tmp 5) (.tmp 9) (W0.heap.size + 1) (rK_ c.Call A2 k2) 27 #[.int .i64 0, .int .u64 0, .int .u64 0, .int .i64 0, .int .i64 0, .int .i64 0, .int .u64 0, .int .u64 0, .slice none 0 0] (by rfl) rfl rfl (by rfl) (by rfl) ((show (W0.alloc (.cells #[.int .i64 0, .int .u64 0, .int .u64 0, .int .i64 0, .int .i64 0, .int .i64 0, .int .u64 0, .int .u64 0, .slice none 0 0] 27)).heap.size = W0.heap.size + 1 by simp) ▸ heap_alloc_new (W0.alloc (.cells #[.int .i64 0, .int .u64 0, .int .u64 0, .int .i64 0, .int .i64 0, .int .i64 0, .int .u64 0, .int .u64 0, .slice none 0 0] 27)) (.cells #[.int .i64 0, .int .u64 0, .int .u64 0, .int .i64 0, .int .i64 0, .int .i64 0, .int .u64 0, .int .u64 0, .slice none 0 0] 27)) (by kernel_rfl) (by rfl) (by kernel_rfl) ?_
    refine hK.out _ _ ⟨(setRow_other _ _ _ _ (by have := HL.out; omega)).trans hHeld.1, (setRow_other _ _ _ _ (by have := HL.out; omega)).trans hHeld.2⟩ (fun hHeld => ?_)
    clear hK K
    refine one_ (i := 7) (N := none) #[true, true, true, true, true, true, true, true] rfl rfl (one_of HT_.out (by kernel_rfl)) (by decide) (fun K hK => ?_)
    refine row_ 27 (.tmp 6) (.tmp 11) W0.heap.size (rK_ c.Call B2 j2) 27 #[.int .i64 0, .int .u64 0, .int .u64 0, .int .i64 0, .int .i64 0, .int .i64 0, .int .u64 0, .int .u64 0, .slice none 0 0] (by rfl) rfl rfl (by rfl) (by rfl) (blk_row_far (blk_alloc (heap_alloc_new W0 (.cells #[.int .i64 0, .int .u64 0, .int .u64 0, .int .i64 0, .int .i64 0, .int .i64 0, .int .u64 0, .int .u64 0, .slice none 0 0] 27)) (.cells #[.int .i64 0, .int .u64 0, .int .u64 0, .int .i64 0, .int .i64 0, .int .i64 0, .int .u64 0, .int .u64 0, .slice none 0 0] 27)) (rK_ c.Call A2 k2) (show W0.heap.size ≠ (W0.heap.size + 1) by omega)) (by kernel_rfl) (by rfl) (by kernel_rfl) ?_
    refine hK.out _ _ ⟨(setRow_other _ _ _ _ (by have := HL.out; omega)).trans hHeld.1, (setRow_other _ _ _ _ (by have := HL.out; omega)).trans hHeld.2⟩ (fun hHeld => ?_)
    clear hK K
    refine done_ (done_of HT_.out (by kernel_rfl)) ?_
    clear HT_ HW_
    have BA := Aside0.mk (blk_row_far (blk_row ((show (W0.alloc (.cells #[.int .i64 0, .int .u64 0, .int .u64 0, .int .i64 0, .int .i64 0, .int .i64 0, .int .u64 0, .int .u64 0, .slice none 0 0] 27)).heap.size = W0.heap.size + 1 by simp) ▸ heap_alloc_new (W0.alloc (.cells #[.int .i64 0, .int .u64 0, .int .u64 0, .int .i64 0, .int .i64 0, .int .i64 0, .int .u64 0, .int .u64 0, .slice none 0 0] 27)) (.cells #[.int .i64 0, .int .u64 0, .int .u64 0, .int .i64 0, .int .i64 0, .int .i64 0, .int .u64 0, .int .u64 0, .slice none 0 0] 27)) (rK_ c.Call A2 k2)) (rK_ c.Call B2 j2) (show (W0.heap.size + 1) ≠ W0.heap.size by omega))
    have BB := Aside0.mk (blk_row (blk_row_far (blk_alloc (heap_alloc_new W0 (.cells #[.int .i64 0, .int .u64 0, .int .u64 0, .int .i64 0, .int .i64 0, .int .i64 0, .int .u64 0, .int .u64 0, .slice none 0 0] 27)) (.cells #[.int .i64 0, .int .u64 0, .int .u64 0, .int .i64 0, .int .i64 0, .int .i64 0, .int .u64 0, .int .u64 0, .slice none 0 0] 27)) (rK_ c.Call A2 k2) (show W0.heap.size ≠ (W0.heap.size + 1) by omega)) (rK_ c.Call B2 j2))
    have FR := Aside0.mk ((((HFR.out.alloc (.cells #[.int .i64 0, .int .u64 0, .int .u64 0, .int .i64 0, .int .i64 0, .int .i64 0, .int .u64 0, .int .u64 0, .slice none 0 0] 27)).alloc (.cells #[.int .i64 0, .int .u64 0, .int .u64 0, .int .i64 0, .int .i64 0, .int .i64 0, .int .u64 0, .int .u64 0, .slice none 0 0] 27)).setRow (W0.heap.size + 1) (rK_ c.Call A2 k2) (fun h => by have := HL.out; omega)).setRow W0.heap.size (rK_ c.Call B2 j2) (fun h => by have := HL.out; omega))
    have H0 := Aside0.mk hHeld.1
    have H1 := Aside0.mk hHeld.2
    clear hHeld HFR
    generalize World.setRow _ _ _ = WC at BA BB FR H0 H1 ⊢
    have HBW := Aside0.mk (FR.out.below (Nat.le_refl _) (fun _ h => h.elim))
    have HQ := Aside0.mk (slices_Equal_byte_byte.calls (c.Call.f8.length + 1) A2 k2 c.Call.f8 B2 j2 c.Call.f8 true WC (Kd.C_below HA.out.C2 HBW.out) HA.out.l2 (Kd.C_below HB.out.C2 HBW.out) HB.out.l2 (eqb_self _ hb2))
    have HJ := Aside0.mk (fun (W : World) (h : Below WC.heap.size WC W) => slices_Equal_int_int.calls (c.Br.length + 1) A1 k1 c.Br B1 j1 c.Br true W (Kd.C_below HA.out.C1 (below_then HBW.out HBW.out.size h)) HA.out.l1 (Kd.C_below HB.out.C1 (below_then HBW.out HBW.out.size h)) HB.out.l1 (eqi_self _ hb1))
    have a0 : WC.cell? ⟨(W0.heap.size + 1), 0, none⟩ = some (.int .i64 c.Call.f0) := (cells_at BA.out rfl).1
    have a1 : WC.cell? ⟨(W0.heap.size + 1), 1, none⟩ = some (.int .u64 c.Call.f1) := (cells_at BA.out rfl).1
    have a2 : WC.cell? ⟨(W0.heap.size + 1), 2, none⟩ = some (.int .u64 c.Call.f2) := (cells_at BA.out rfl).1
    have a3 : WC.cell? ⟨(W0.heap.size + 1), 3, none⟩ = some (.int .i64 c.Call.f3) := (cells_at BA.out rfl).1
    have a4 : WC.cell? ⟨(W0.heap.size + 1), 4, none⟩ = some (.int .i64 c.Call.f4) := (cells_at BA.out rfl).1
    have a5 : WC.cell? ⟨(W0.heap.size + 1), 5, none⟩ = some (.int .i64 c.Call.f5) := (cells_at BA.out rfl).1
    have a6 : WC.cell? ⟨(W0.heap.size + 1), 6, none⟩ = some (.int .u64 c.Call.f6) := (cells_at BA.out rfl).1
    have a7 : WC.cell? ⟨(W0.heap.size + 1), 7, none⟩ = some (.int .u64 c.Call.f7) := (cells_at BA.out rfl).1
    have a8 : WC.cell? ⟨(W0.heap.size + 1), 8, none⟩ = some (.slice A2 c.Call.f8.length k2) := (cells_at BA.out rfl).1
    have b0 : WC.cell? ⟨W0.heap.size, 0, none⟩ = some (.int .i64 c.Call.f0) := (cells_at BB.out rfl).1
    have b1 : WC.cell? ⟨W0.heap.size, 1, none⟩ = some (.int .u64 c.Call.f1) := (cells_at BB.out rfl).1
    have b2 : WC.cell? ⟨W0.heap.size, 2, none⟩ = some (.int .u64 c.Call.f2) := (cells_at BB.out rfl).1
    have b3 : WC.cell? ⟨W0.heap.size, 3, none⟩ = some (.int .i64 c.Call.f3) := (cells_at BB.out rfl).1
    have b4 : WC.cell? ⟨W0.heap.size, 4, none⟩ = some (.int .i64 c.Call.f4) := (cells_at BB.out rfl).1
    have b5 : WC.cell? ⟨W0.heap.size, 5, none⟩ = some (.int .i64 c.Call.f5) := (cells_at BB.out rfl).1
    have b6 : WC.cell? ⟨W0.heap.size, 6, none⟩ = some (.int .u64 c.Call.f6) := (cells_at BB.out rfl).1
    have b7 : WC.cell? ⟨W0.heap.size, 7, none⟩ = some (.int .u64 c.Call.f7) := (cells_at BB.out rfl).1
    have b8 : WC.cell? ⟨W0.heap.size, 8, none⟩ = some (.slice B2 c.Call.f8.length j2) := (cells_at BB.out rfl).1
    go_wp2_with (go_at_call 31; refine HQ.out.mono ?_; rintro e WD ⟨rfl, hd⟩; have HD := Aside0.mk (Drawn0.below hd); have x0 : WD.cell? ⟨w.heap.size, 0, none⟩ = some (.int .i64 c.Id) := (cells_at (blk_below H0.out HD.out) rfl).1; have y0 : WD.cell? ⟨w.heap.size + 1, 0, none⟩ = some (.int .i64 c.Id) := (cells_at (blk_below H1.out HD.out) rfl).1; have x1 : WD.cell? ⟨w.heap.size, 1, none⟩ = some (.int .u64 c.Inc) := (cells_at (blk_below H0.out HD.out) rfl).1; have y1 : WD.cell? ⟨w.heap.size + 1, 1, none⟩ = some (.int .u64 c.Inc) := (cells_at (blk_below H1.out HD.out) rfl).1; have x2 : WD.cell? ⟨w.heap.size, 2, none⟩ = some (.int .u64 c.N) := (cells_at (blk_below H0.out HD.out) rfl).1; have y2 : WD.cell? ⟨w.heap.size + 1, 2, none⟩ = some (.int .u64 c.N) := (cells_at (blk_below H1.out HD.out) rfl).1; have x3 : WD.cell? ⟨w.heap.size, 3, none⟩ = some (.slice A1 c.Br.length k1) := (cells_at (blk_below H0.out HD.out) rfl).1; have y3 : WD.cell? ⟨w.heap.size + 1, 3, none⟩ = some (.slice B1 c.Br.length j1) := (cells_at (blk_below H1.out HD.out) rfl).1; clear hd HQ a0 b0 a1 b1 a2 b2 a3 b3 a4 b4 a5 b5 a6 b6 a7 b7 a8 b8)
    go_wp2_with (go_at_call 32; refine (HJ.out WD HD.out).mono ?_; rintro e WE ⟨rfl, hd⟩; have HE := Aside0.mk (below_then HD.out HD.out.size (Drawn0.below hd)); clear x0 x1 x2 x3 y0 y1 y2 y3; have x4 : WE.cell? ⟨w.heap.size, 4, none⟩ = some (.int .i64 c.Busy) := (cells_at (blk_below H0.out HE.out) rfl).1; have y4 : WE.cell? ⟨w.heap.size + 1, 4, none⟩ = some (.int .i64 c.Busy) := (cells_at (blk_below H1.out HE.out) rfl).1; have x14 : WE.cell? ⟨w.heap.size, 14, none⟩ = some (.int .i64 c.At) := (cells_at (blk_below H0.out HE.out) rfl).1; have y14 : WE.cell? ⟨w.heap.size + 1, 14, none⟩ = some (.int .i64 c.At) := (cells_at (blk_below H1.out HE.out) rfl).1; have x15 : WE.cell? ⟨w.heap.size, 15, none⟩ = some (.int .u64 c.Born) := (cells_at (blk_below H0.out HE.out) rfl).1; have y15 : WE.cell? ⟨w.heap.size + 1, 15, none⟩ = some (.int .u64 c.Born) := (cells_at (blk_below H1.out HE.out) rfl).1; have x16 : WE.cell? ⟨w.heap.size, 16, none⟩ = some (.int .u64 c.Since) := (cells_at (blk_below H0.out HE.out) rfl).1; have y16 : WE.cell? ⟨w.heap.size + 1, 16, none⟩ = some (.int .u64 c.Since) := (cells_at (blk_below H1.out HE.out) rfl).1; clear hd HJ)
    go_ret
    exact ⟨rfl, below_then HBW.out HBW.out.size HE.out⟩
end Go.Proofs.Ytajnladoomkgaaa.Cli
