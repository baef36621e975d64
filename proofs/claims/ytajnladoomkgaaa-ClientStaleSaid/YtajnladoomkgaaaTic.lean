/- A tick. -/
import Derived.Test.YtajnladoomkgaaaHlp
namespace Go.Proofs.Ytajnladoomkgaaa.Cli
set_option linter.unusedVariables false
set_option linter.unusedSimpArgs false
open RowOf Go.RowKit Go.Proofs.YtajnladoomkgaaaW.PrintWords Go.Proofs.YtajnladoomkgaaaW.PrintLast Go.Proofs.YtajnladoomkgaaaW.PrintMore Go.Proofs.Ytajnladoomkgaaa.XC
attribute [local go_sem] max2_int min2_int max_two min_two
def tic.T10 : Bool × List (List Nat × List Nat) := (true, [([], []), ([0], [0]), ([1], [1]), ([2], [2]), ([], []), ([4], [4]), ([5], [5]), ([6], [6]), ([], []), ([3, 0, 1, 2, 3], [3]), ([7, 9, 0, 1, 2, 3, 4, 5, 6, 7, 9], [7]), ([8, 10, 0, 1, 2, 3, 4, 5, 6, 7, 8, 9, 10], [8]), ([11, 0, 1, 2, 3, 4, 5, 6, 7, 8, 9, 10, 11], [])])
def tic.B10 : List Nat := [0, 1, 3, 7, 0, 16, 48, 112, 0, 15, 767, 2047, 4095]
theorem tic.tab10 : rtab .any (opsOf Try.f12 10) = tic.T10 := by kernel_rfl
theorem tic.bits10 : waitsOk tic.T10.2 tic.B10 = true := by kernel_rfl
set_option maxHeartbeats 8000000 in
set_option maxRecDepth 100000 in
theorem tick_idle (c : CliS) (A1 : Option Addr) (k1 : Nat) (A2 : Option Addr) (k2 : Nat) (now : Int) (w : World) (hc : CliIn w c A1 k1 A2 k2) (hb1 : c.Br.length < 1000000) (hb2 : c.Call.f8.length ≤ 140737488351232) (hn : now < 18446744073709551616) (hp : 0 ≤ c.Born ∧ 0 ≤ c.Since) (hb : c.Busy ≠ 1) :
    Calls Try.prog 12 #[.agg (rL_ c A1 k1 A2 k2), .int .u64 now] w (TakePost w (tickC c now)) := by
  have HV := Aside0.mk (show tickC c now = (c, [], z36, false) by unfold tickC; rw [if_neg hb])
  have t1 : (c.Busy != 1) = true := by simpa using hb
  clear hb
  have HW1 := Aside0.mk (show (w.alloc (.cells (rL_ c A1 k1 A2 k2) 29)).heap.size = w.heap.size + 1 by simp)
  have HW2 := Aside0.mk (show ((w.alloc (.cells (rL_ c A1 k1 A2 k2) 29)).alloc (.cells rZC_ 29)).heap.size = w.heap.size + 1 + 1 by simp)
  have HB0 := Aside0.mk (below_alloc (below_alloc (below_alloc (Below.refl w.heap.size w) (.cells (rL_ c A1 k1 A2 k2) 29)) (.cells rZC_ 29)) (.cells rZR_ 36))
  have BC := Aside0.mk (blk_alloc (blk_alloc (heap_alloc_new w (.cells (rL_ c A1 k1 A2 k2) 29)) (.cells rZC_ 29)) (.cells rZR_ 36))
  have BZ := Aside0.mk (HW1.out ▸ blk_alloc (heap_alloc_new (w.alloc (.cells (rL_ c A1 k1 A2 k2) 29)) (.cells rZC_ 29)) (.cells rZR_ 36))
  have BR := Aside0.mk (HW2.out ▸ heap_alloc_new ((w.alloc (.cells (rL_ c A1 k1 A2 k2) 29)).alloc (.cells rZC_ 29)) (.cells rZR_ 36))
  have HS1 := Aside0.mk (show (((w.alloc (.cells (rL_ c A1 k1 A2 k2) 29)).alloc (.cells rZC_ 29)).alloc (.cells rZR_ 36)).heap.size = w.heap.size + 3 by simp)
  have HIN := Aside0.mk (hc.below HB0.out)
  clear hc HW1 HW2
  go_enter Try.func12, Try.ntmps12
  go_wp2_with (refine wpList_load_row rfl 29 (.tmp 2) rfl w.heap.size (by rfl) 29 (rL_ c A1 k1 A2 k2) (0, 0) _ BC.out Try.underlying29 rfl (by kernel_rfl) ?_)
  generalize World.alloc _ _ = W1 at HB0 BC BZ BR HS1 HIN ⊢
  have HWI := Aside0.mk (fun n => with_r c A1 k1 A2 k2 n W1 HIN.out.C1 HIN.out.l1 HIN.out.C2 HIN.out.l2 (by omega) hb2)
  have HBG := Aside0.mk hb1
  have HBL := Aside0.mk hb2
  have HN := Aside0.mk hn
  have HP := Aside0.mk hp
  go_wp2_with (first
      | (go_at_call 23; refine (HWI.out _).mono ?_; rintro e W2 ⟨g, rfl, hI, hB⟩; have HI := Aside0.mk hI; have HB2 := Aside0.mk hB; clear hI hB HWI; have BZ2 := Aside0.mk (blk_below BZ.out HB2.out); have BR2 := Aside0.mk (blk_below BR.out HB2.out); have HG := Aside0.mk HI.out.ge; have HFR := Aside0.mk ((Fr.of_below HB0.out (fun k => w.heap.size ≤ k)).then_ (Fr.of_below HB2.out _)); have HAF := Aside0.mk (fun (t : Int) (h : t = c.Born ∨ t = c.Since) => after_c c W1.heap.size g now [] W2 HI.out t (by have := HP.out; rcases h with h | h <;> omega) HN.out); have HC2 := HI.out.cells; obtain ⟨C1, i1, d3, d14, dz, d4, _, _, _, _, d15, d16, dz4, _, _⟩ := HC2; clear BC BZ BR HIN HB0))
  clear t1 d3 d14 dz d4 d15 d16 dz4
  have BZ := Aside0.mk BZ2.out
  have BR := Aside0.mk BR2.out
  clear BZ2 BR2

  obtain ⟨s', hs'⟩ : ∃ s' : List S48, s' = [] := ⟨_, rfl⟩
  have HS' := Aside0.mk hs'
  rw [← hs'] at HI
  clear hs'

  obtain ⟨B1, j1, B2, j2, B3, j3, hb, m1, f1, m2, f2, m3, f3, hg⟩ := HI.out.blk
  have BG := Aside0.mk hb
  have FI := Aside0.mk (And.intro m1 (And.intro f1 (And.intro m2 (And.intro f2 (And.intro m3 f3)))))
  clear hb m1 f1 m2 f2 m3 f3 hg HI

  have dg : W2.heap[g]? = some (.cells #[.int .i64 c.Id, .int .u64 c.Inc, .int .u64 c.N, .slice B1 c.Br.length j1, .int .i64 c.Busy, .int .i64 c.Call.f0, .int .u64 c.Call.f1, .int .u64 c.Call.f2, .int .i64 c.Call.f3, .int .i64 c.Call.f4, .int .i64 c.Call.f5, .int .u64 c.Call.f6, .int .u64 c.Call.f7, .slice B2 c.Call.f8.length j2, .int .i64 c.At, .int .u64 c.Born, .int .u64 c.Since, .int .u64 now, .slice B3 s'.length j3] 66 (0, 0)) := BG.out
  have d18 : W2.cell? ⟨g, 18, none⟩ = some (.slice B3 s'.length j3) := (cells_at BG.out rfl).1
  refine start_ (n := 13) (S := fun w' => w'.heap[g]? = some (.cells #[.int .i64 c.Id, .int .u64 c.Inc, .int .u64 c.N, .slice B1 c.Br.length j1, .int .i64 c.Busy, .int .i64 c.Call.f0, .int .u64 c.Call.f1, .int .u64 c.Call.f2, .int .i64 c.Call.f3, .int .i64 c.Call.f4, .int .i64 c.Call.f5, .int .u64 c.Call.f6, .int .u64 c.Call.f7, .slice B2 c.Call.f8.length j2, .int .i64 c.At, .int .u64 c.Born, .int .u64 c.Since, .int .u64 now, .slice B3 s'.length j3] 66 (0, 0)) ∧ w'.cell? ⟨g, 18, none⟩ = some (.slice B3 s'.length j3)) (ds := []) #[false, false, false, false, false, false, false, false, false, false, false, false, false] (by kernel_rfl) rfl rfl ⟨dg, d18⟩ (fun hHeld => ?_)
  refine with_tabW tic.tab10 tic.bits10 (fun HT_ HW_ => ?_)
  have BZ := Aside0.mk (blk_drew BZ.out)
  have BR := Aside0.mk (blk_drew BR.out)
  have BG := Aside0.mk (blk_drew BG.out)
  have HFR := Aside0.mk HFR.out.drew
  have FI := Aside0.mk (And.intro FI.out.1 (And.intro (Kd.F_drew FI.out.2.1) (And.intro FI.out.2.2.1 (And.intro (Kd.F_drew FI.out.2.2.2.1) (And.intro FI.out.2.2.2.2.1 (Kd.F_drew FI.out.2.2.2.2.2))))))
  clear dg d18
  generalize World.drew _ = WB at BZ BR BG HFR FI hHeld ⊢
  -- 0: Op.move
  refine pure_ (i := 0) (N := some 76) (v := ?_) (a' := ?_) #[true, false, false, false, false, false, false, false, false, false, false, false, false] rfl rfl (any_of HT_.out (by kernel_rfl)) (fun _ _ _ h => h) (Or.inl ⟨by rfl, ?_⟩) ?_ ?_
  rotate_left; (intro w'; go_simp; with_reducible rfl); rotate_left; (simp only [Act.put, List.setIfInBounds_toArray, List.set_cons_zero, List.set_cons_succ, i64_w, i32_w]; rfl)
  -- 1: Op.nilCheck
  refine pure_ (i := 1) (N := some 77) (v := ?_) (a' := ?_) #[true, true, false, false, false, false, false, false, false, false, false, false, false] rfl rfl (any_of HT_.out (by kernel_rfl)) (fun _ _ _ h => h) (Or.inl ⟨by rfl, ?_⟩) ?_ ?_
  rotate_left; (intro w'; go_simp; with_reducible rfl); rotate_left; (simp only [Act.put, List.setIfInBounds_toArray, List.set_cons_zero, List.set_cons_succ, i64_w, i32_w]; rfl)
  -- 2: Op.fieldAddr
  refine pure_ (i := 2) (N := some 78) (v := ?_) (a' := ?_) #[true, true, true, false, false, false, false, false, false, false, false, false, false] rfl rfl (any_of HT_.out (by kernel_rfl)) (fun _ _ _ h => h) (Or.inl ⟨by rfl, ?_⟩) ?_ ?_
  rotate_left; (intro w'; go_simp; with_reducible rfl); rotate_left; (simp only [Act.put, List.setIfInBounds_toArray, List.set_cons_zero, List.set_cons_succ, i64_w, i32_w]; rfl)
  -- 4: Op.move
  refine pure_ (i := 4) (N := some 80) (v := ?_) (a' := ?_) #[true, true, true, false, true, false, false, false, false, false, false, false, false] rfl rfl (any_of HT_.out (by kernel_rfl)) (fun _ _ _ h => h) (Or.inl ⟨by rfl, ?_⟩) ?_ ?_
  rotate_left; (intro w'; go_simp; with_reducible rfl); rotate_left; (simp only [Act.put, List.setIfInBounds_toArray, List.set_cons_zero, List.set_cons_succ, i64_w, i32_w]; rfl)
  -- 5: Op.nilCheck
  refine pure_ (i := 5) (N := some 81) (v := ?_) (a' := ?_) #[true, true, true, false, true, true, false, false, false, false, false, false, false] rfl rfl (any_of HT_.out (by kernel_rfl)) (fun _ _ _ h => h) (Or.inl ⟨by rfl, ?_⟩) ?_ ?_
  rotate_left; (intro w'; go_simp; with_reducible rfl); rotate_left; (simp only [Act.put, List.setIfInBounds_toArray, List.set_cons_zero, List.set_cons_succ, i64_w, i32_w]; rfl)
  -- 6: Op.fieldAddr
  refine pure_ (i := 6) (N := some 82) (v := ?_) (a' := ?_) #[true, true, true, false, true, true, true, false, false, false, false, false, false] rfl rfl (any_of HT_.out (by kernel_rfl)) (fun _ _ _ h => h) (Or.inl ⟨by rfl, ?_⟩) ?_ ?_
  rotate_left; (intro w'; go_simp; with_reducible rfl); rotate_left; (simp only [Act.put, List.setIfInBounds_toArray, List.set_cons_zero, List.set_cons_succ, i64_w, i32_w]; rfl)
  -- 8: Op.build
  refine pure_ (i := 8) (N := some 84) (v := ?_) (a' := ?_) #[true, true, true, false, true, true, true, false, true, false, false, false, false] rfl rfl (any_of HT_.out (by kernel_rfl)) (fun _ _ _ h => h) (Or.inl ⟨by rfl, ?_⟩) ?_ ?_
  rotate_left; (intro w'; go_simp; with_reducible rfl); rotate_left; (simp only [Act.put, List.setIfInBounds_toArray, List.set_cons_zero, List.set_cons_succ, i64_w, i32_w]; rfl)
  -- 3: Op.load
  refine take_ (i := 3) (N := some 79) (a' := ?_) #[true, true, true, true, true, true, true, false, true, false, false, false, false] rfl rfl (take_ofW HT_.out HW_.out (by kernel_rfl)) (fun _ _ _ h => h) (yieldsIf_load_mid (by rfl) 29 (.tmp 78) rfl g 0 (by rfl) (rM_ c B1 j1 B2 j2) _ (fun w' s => blk_range s.1 0 _ rfl) Try.underlying29 rfl (by kernel_rfl)) hHeld ?_ ?_
  rotate_left
  · simp only [Act.put, List.setIfInBounds_toArray, List.set_cons_zero, List.set_cons_succ, List.toArray, i64_w, i32_w]
    rfl
  -- 7: Op.load
  refine take_ (i := 7) (N := some 83) (v := ?_) (a' := ?_) #[true, true, true, true, true, true, true, true, true, false, false, false, false] rfl rfl (take_ofW HT_.out HW_.out (by kernel_rfl)) (fun _ _ _ h => h) (Or.inl ⟨by rfl, ?_⟩) hHeld ?_ ?_
  rotate_left; (rintro w' ⟨s0, s1⟩; go_simp; with_reducible rfl); rotate_left; (simp only [Act.put, List.setIfInBounds_toArray, List.set_cons_zero, List.set_cons_succ, i64_w, i32_w]; rfl)
  -- 9: Op.store
  refine one_ (i := 9) (N := none) #[true, true, true, true, true, true, true, true, true, true, false, false, false] rfl rfl (one_of HT_.out (by kernel_rfl)) (by decide) (fun K hK => ?_)
  refine row_ 29 (.tmp 4) (.tmp 79) (w.heap.size + 1) (rL_ c B1 j1 B2 j2) 29 rZC_ (by rfl) rfl rfl (by rfl) (by rfl) BZ.out (by kernel_rfl) (by rfl) (by kernel_rfl) ?_
  refine hK.out _ _ ⟨(setRow_other _ _ _ _ (by have := HG.out; have := HS1.out; omega)).trans hHeld.1, (cell_setRow_other _ _ _ _ (by show g ≠ _; have := HG.out; have := HS1.out; omega)).trans hHeld.2⟩ (fun hHeld => ?_)
  clear hK K
  -- 10: Op.assign
  refine pure_ (i := 10) (N := some 5) (v := ?_) (a' := ?_) #[true, true, true, true, true, true, true, true, true, true, true, false, false] rfl rfl (any_of HT_.out (by kernel_rfl)) (fun _ _ _ h => h) (Or.inl ⟨by rfl, ?_⟩) ?_ ?_
  rotate_left; (intro w'; go_simp; with_reducible rfl); rotate_left; (simp only [Act.put, List.setIfInBounds_toArray, List.set_cons_zero, List.set_cons_succ, i64_w, i32_w]; rfl)
  -- 11: Op.store
  refine one_ (i := 11) (N := none) #[true, true, true, true, true, true, true, true, true, true, true, true, false] rfl rfl (one_of HT_.out (by kernel_rfl)) (by decide) (fun K hK => ?_)
  refine row_ 36 (.tmp 6) (.tmp 84) (w.heap.size + 1 + 1) rZR_ 36 rZR_ (by rfl) rfl rfl (by rfl) (by rfl) (blk_row_far BR.out (rL_ c B1 j1 B2 j2) (show w.heap.size + 1 + 1 ≠ w.heap.size + 1 by omega)) (by kernel_rfl) (by rfl) (by kernel_rfl) ?_
  refine hK.out _ _ ⟨(setRow_other _ _ _ _ (by have := HG.out; have := HS1.out; omega)).trans hHeld.1, (cell_setRow_other _ _ _ _ (by show g ≠ _; have := HG.out; have := HS1.out; omega)).trans hHeld.2⟩ (fun hHeld => ?_)
  clear hK K
  -- 12: Op.assign
  refine pure_ (i := 12) (N := some 7) (v := ?_) (a' := ?_) #[true, true, true, true, true, true, true, true, true, true, true, true, true] rfl rfl (any_of HT_.out (by kernel_rfl)) (fun _ _ _ h => h) (Or.inl ⟨by rfl, ?_⟩) ?_ ?_
  rotate_left; (intro w'; go_simp; with_reducible rfl); rotate_left; (simp only [Act.put, List.setIfInBounds_toArray, List.set_cons_zero, List.set_cons_succ, i64_w, i32_w]; rfl)
  refine done_ (done_of HT_.out (by kernel_rfl)) ?_
  clear HT_ HW_ hHeld

  have BZN := Aside0.mk (blk_row_far (blk_row BZ.out (rL_ c B1 j1 B2 j2)) rZR_ (show w.heap.size + 1 ≠ w.heap.size + 1 + 1 by omega))
  have BRN := Aside0.mk (blk_row (blk_row_far BR.out (rL_ c B1 j1 B2 j2) (show w.heap.size + 1 + 1 ≠ w.heap.size + 1 by omega)) rZR_)
  have HFRN := Aside0.mk ((HFR.out.setRow (w.heap.size + 1) (rL_ c B1 j1 B2 j2) (fun h => by omega)).setRow (w.heap.size + 1 + 1) rZR_ (fun h => by omega))
  have FN := Aside0.mk ((Fr.setRow (Fr.refl (fun k => k = w.heap.size + 1 ∨ k = w.heap.size + 1 + 1) WB) (w.heap.size + 1) (rL_ c B1 j1 B2 j2) (fun _ => .inl rfl)).setRow (w.heap.size + 1 + 1) rZR_ (fun _ => .inr rfl))
  generalize World.setRow _ _ _ = WC at BZN BRN HFRN FN ⊢
  clear BZ BG BR HFR
  go_wp2
  refine bodyPost_ret (results_list (rs := [.cell 4 29, .tmp 5, .cell 6 36, .tmp 7]) rfl (by simp) (.cell (w.heap.size + 1) 29 (rL_ c B1 j1 B2 j2) (0, 0) _ rfl BZN.out Try.underlying29 rfl (by kernel_rfl) (.tmp (.cell (w.heap.size + 1 + 1) 36 rZR_ (0, 0) _ rfl BRN.out Try.underlying36 rfl (by kernel_rfl) (.tmp .nil))))) rfl ?_
  rw [HV.out, ← HS'.out]
  have hs := HS1.out
  have hw : ∀ k, W1.heap.size ≤ k ∧ k ≠ g → w.heap.size ≤ k := fun k hk => by omega
  have hk : ∀ k, W1.heap.size ≤ k ∧ k ≠ g → k < WB.heap.size → WC.heap[k]? = WB.heap[k]? := fun k hk hlt => FN.out.block k hlt (by omega)
  exact ⟨B1, j1, B2, j2, B3, j3, none, 0, rfl, ⟨Kd.F_mono (Kd.F_step FI.out.2.1 hk) hw, FI.out.1, Kd.F_mono (Kd.F_step FI.out.2.2.2.1 hk) hw, FI.out.2.2.1⟩, ⟨Kd.F_mono (Kd.F_step FI.out.2.2.2.2.2 hk) hw, FI.out.2.2.2.2.1⟩, BodyNew.nil _ _, HFRN.out.below (Nat.le_refl _) (fun _ h => h)⟩
set_option maxHeartbeats 8000000 in
set_option maxRecDepth 100000 in
theorem tick_wait (c : CliS) (A1 : Option Addr) (k1 : Nat) (A2 : Option Addr) (k2 : Nat) (now : Int) (w : World) (hc : CliIn w c A1 k1 A2 k2) (hb1 : c.Br.length < 1000000) (hb2 : c.Call.f8.length ≤ 140737488351232) (hn : now < 18446744073709551616) (hp : 0 ≤ c.Born ∧ 0 ≤ c.Since) (hb : c.Busy = 1) (h1 : afterI now c.Born < 240) (h2 : afterI now c.Since < 3) :
    Calls Try.prog 12 #[.agg (rL_ c A1 k1 A2 k2), .int .u64 now] w (TakePost w (tickC c now)) := by
  have HV := Aside0.mk (show tickC c now = (c, [], z36, false) by unfold tickC; rw [if_pos hb, if_neg (by omega), if_neg (by omega)])
  have t1 : (c.Busy != 1) = false := by simp [hb]
  have t2 : decide (240 ≤ afterI now c.Born) = false := by simp; omega
  have t3 : decide (3 ≤ afterI now c.Since) = false := by simp; omega
  clear hb h1 h2
  have HW1 := Aside0.mk (show (w.alloc (.cells (rL_ c A1 k1 A2 k2) 29)).heap.size = w.heap.size + 1 by simp)
  have HW2 := Aside0.mk (show ((w.alloc (.cells (rL_ c A1 k1 A2 k2) 29)).alloc (.cells rZC_ 29)).heap.size = w.heap.size + 1 + 1 by simp)
  have HB0 := Aside0.mk (below_alloc (below_alloc (below_alloc (Below.refl w.heap.size w) (.cells (rL_ c A1 k1 A2 k2) 29)) (.cells rZC_ 29)) (.cells rZR_ 36))
  have BC := Aside0.mk (blk_alloc (blk_alloc (heap_alloc_new w (.cells (rL_ c A1 k1 A2 k2) 29)) (.cells rZC_ 29)) (.cells rZR_ 36))
  have BZ := Aside0.mk (HW1.out ▸ blk_alloc (heap_alloc_new (w.alloc (.cells (rL_ c A1 k1 A2 k2) 29)) (.cells rZC_ 29)) (.cells rZR_ 36))
  have BR := Aside0.mk (HW2.out ▸ heap_alloc_new ((w.alloc (.cells (rL_ c A1 k1 A2 k2) 29)).alloc (.cells rZC_ 29)) (.cells rZR_ 36))
  have HS1 := Aside0.mk (show (((w.alloc (.cells (rL_ c A1 k1 A2 k2) 29)).alloc (.cells rZC_ 29)).alloc (.cells rZR_ 36)).heap.size = w.heap.size + 3 by simp)
  have HIN := Aside0.mk (hc.below HB0.out)
  clear hc HW1 HW2
  go_enter Try.func12, Try.ntmps12
  go_wp2_with (refine wpList_load_row rfl 29 (.tmp 2) rfl w.heap.size (by rfl) 29 (rL_ c A1 k1 A2 k2) (0, 0) _ BC.out Try.underlying29 rfl (by kernel_rfl) ?_)
  generalize World.alloc _ _ = W1 at HB0 BC BZ BR HS1 HIN ⊢
  have HWI := Aside0.mk (fun n => with_r c A1 k1 A2 k2 n W1 HIN.out.C1 HIN.out.l1 HIN.out.C2 HIN.out.l2 (by omega) hb2)
  have HBG := Aside0.mk hb1
  have HBL := Aside0.mk hb2
  have HN := Aside0.mk hn
  have HP := Aside0.mk hp
  go_wp2_with (first
      | (go_at_call 23; refine (HWI.out _).mono ?_; rintro e W2 ⟨g, rfl, hI, hB⟩; have HI := Aside0.mk hI; have HB2 := Aside0.mk hB; clear hI hB HWI; have BZ2 := Aside0.mk (blk_below BZ.out HB2.out); have BR2 := Aside0.mk (blk_below BR.out HB2.out); have HG := Aside0.mk HI.out.ge; have HFR := Aside0.mk ((Fr.of_below HB0.out (fun k => w.heap.size ≤ k)).then_ (Fr.of_below HB2.out _)); have HAF := Aside0.mk (fun (t : Int) (h : t = c.Born ∨ t = c.Since) => after_c c W1.heap.size g now [] W2 HI.out t (by have := HP.out; rcases h with h | h <;> omega) HN.out); have HC2 := HI.out.cells; obtain ⟨C1, i1, d3, d14, dz, d4, _, _, _, _, d15, d16, dz4, _, _⟩ := HC2; clear BC BZ BR HIN HB0)
      | (go_at_call 30; refine (HAF.out _ (by first | exact .inl rfl | exact .inr rfl)).mono ?_; rintro e w' ⟨rfl, rfl⟩))
  clear t1 t2 t3 d3 d14 dz d4 d15 d16 dz4
  have BZ := Aside0.mk BZ2.out
  have BR := Aside0.mk BR2.out
  clear BZ2 BR2

  obtain ⟨s', hs'⟩ : ∃ s' : List S48, s' = [] := ⟨_, rfl⟩
  have HS' := Aside0.mk hs'
  rw [← hs'] at HI
  clear hs'

  obtain ⟨B1, j1, B2, j2, B3, j3, hb, m1, f1, m2, f2, m3, f3, hg⟩ := HI.out.blk
  have BG := Aside0.mk hb
  have FI := Aside0.mk (And.intro m1 (And.intro f1 (And.intro m2 (And.intro f2 (And.intro m3 f3)))))
  clear hb m1 f1 m2 f2 m3 f3 hg HI

  have dg : W2.heap[g]? = some (.cells #[.int .i64 c.Id, .int .u64 c.Inc, .int .u64 c.N, .slice B1 c.Br.length j1, .int .i64 c.Busy, .int .i64 c.Call.f0, .int .u64 c.Call.f1, .int .u64 c.Call.f2, .int .i64 c.Call.f3, .int .i64 c.Call.f4, .int .i64 c.Call.f5, .int .u64 c.Call.f6, .int .u64 c.Call.f7, .slice B2 c.Call.f8.length j2, .int .i64 c.At, .int .u64 c.Born, .int .u64 c.Since, .int .u64 now, .slice B3 s'.length j3] 66 (0, 0)) := BG.out
  have d18 : W2.cell? ⟨g, 18, none⟩ = some (.slice B3 s'.length j3) := (cells_at BG.out rfl).1
  refine start_ (n := 13) (S := fun w' => w'.heap[g]? = some (.cells #[.int .i64 c.Id, .int .u64 c.Inc, .int .u64 c.N, .slice B1 c.Br.length j1, .int .i64 c.Busy, .int .i64 c.Call.f0, .int .u64 c.Call.f1, .int .u64 c.Call.f2, .int .i64 c.Call.f3, .int .i64 c.Call.f4, .int .i64 c.Call.f5, .int .u64 c.Call.f6, .int .u64 c.Call.f7, .slice B2 c.Call.f8.length j2, .int .i64 c.At, .int .u64 c.Born, .int .u64 c.Since, .int .u64 now, .slice B3 s'.length j3] 66 (0, 0)) ∧ w'.cell? ⟨g, 18, none⟩ = some (.slice B3 s'.length j3)) (ds := []) #[false, false, false, false, false, false, false, false, false, false, false, false, false] (by kernel_rfl) rfl rfl ⟨dg, d18⟩ (fun hHeld => ?_)
  refine with_tabW tic.tab10 tic.bits10 (fun HT_ HW_ => ?_)
  have BZ := Aside0.mk (blk_drew BZ.out)
  have BR := Aside0.mk (blk_drew BR.out)
  have BG := Aside0.mk (blk_drew BG.out)
  have HFR := Aside0.mk HFR.out.drew
  have FI := Aside0.mk (And.intro FI.out.1 (And.intro (Kd.F_drew FI.out.2.1) (And.intro FI.out.2.2.1 (And.intro (Kd.F_drew FI.out.2.2.2.1) (And.intro FI.out.2.2.2.2.1 (Kd.F_drew FI.out.2.2.2.2.2))))))
  clear dg d18
  generalize World.drew _ = WB at BZ BR BG HFR FI hHeld ⊢
  -- 0: Op.move
  refine pure_ (i := 0) (N := some 76) (v := ?_) (a' := ?_) #[true, false, false, false, false, false, false, false, false, false, false, false, false] rfl rfl (any_of HT_.out (by kernel_rfl)) (fun _ _ _ h => h) (Or.inl ⟨by rfl, ?_⟩) ?_ ?_
  rotate_left; (intro w'; go_simp; with_reducible rfl); rotate_left; (simp only [Act.put, List.setIfInBounds_toArray, List.set_cons_zero, List.set_cons_succ, i64_w, i32_w]; rfl)
  -- 1: Op.nilCheck
  refine pure_ (i := 1) (N := some 77) (v := ?_) (a' := ?_) #[true, true, false, false, false, false, false, false, false, false, false, false, false] rfl rfl (any_of HT_.out (by kernel_rfl)) (fun _ _ _ h => h) (Or.inl ⟨by rfl, ?_⟩) ?_ ?_
  rotate_left; (intro w'; go_simp; with_reducible rfl); rotate_left; (simp only [Act.put, List.setIfInBounds_toArray, List.set_cons_zero, List.set_cons_succ, i64_w, i32_w]; rfl)
  -- 2: Op.fieldAddr
  refine pure_ (i := 2) (N := some 78) (v := ?_) (a' := ?_) #[true, true, true, false, false, false, false, false, false, false, false, false, false] rfl rfl (any_of HT_.out (by kernel_rfl)) (fun _ _ _ h => h) (Or.inl ⟨by rfl, ?_⟩) ?_ ?_
  rotate_left; (intro w'; go_simp; with_reducible rfl); rotate_left; (simp only [Act.put, List.setIfInBounds_toArray, List.set_cons_zero, List.set_cons_succ, i64_w, i32_w]; rfl)
  -- 4: Op.move
  refine pure_ (i := 4) (N := some 80) (v := ?_) (a' := ?_) #[true, true, true, false, true, false, false, false, false, false, false, false, false] rfl rfl (any_of HT_.out (by kernel_rfl)) (fun _ _ _ h => h) (Or.inl ⟨by rfl, ?_⟩) ?_ ?_
  rotate_left; (intro w'; go_simp; with_reducible rfl); rotate_left; (simp only [Act.put, List.setIfInBounds_toArray, List.set_cons_zero, List.set_cons_succ, i64_w, i32_w]; rfl)
  -- 5: Op.nilCheck
  refine pure_ (i := 5) (N := some 81) (v := ?_) (a' := ?_) #[true, true, true, false, true, true, false, false, false, false, false, false, false] rfl rfl (any_of HT_.out (by kernel_rfl)) (fun _ _ _ h => h) (Or.inl ⟨by rfl, ?_⟩) ?_ ?_
  rotate_left; (intro w'; go_simp; with_reducible rfl); rotate_left; (simp only [Act.put, List.setIfInBounds_toArray, List.set_cons_zero, List.set_cons_succ, i64_w, i32_w]; rfl)
  -- 6: Op.fieldAddr
  refine pure_ (i := 6) (N := some 82) (v := ?_) (a' := ?_) #[true, true, true, false, true, true, true, false, false, false, false, false, false] rfl rfl (any_of HT_.out (by kernel_rfl)) (fun _ _ _ h => h) (Or.inl ⟨by rfl, ?_⟩) ?_ ?_
  rotate_left; (intro w'; go_simp; with_reducible rfl); rotate_left; (simp only [Act.put, List.setIfInBounds_toArray, List.set_cons_zero, List.set_cons_succ, i64_w, i32_w]; rfl)
  -- 8: Op.build
  refine pure_ (i := 8) (N := some 84) (v := ?_) (a' := ?_) #[true, true, true, false, true, true, true, false, true, false, false, false, false] rfl rfl (any_of HT_.out (by kernel_rfl)) (fun _ _ _ h => h) (Or.inl ⟨by rfl, ?_⟩) ?_ ?_
  rotate_left; (intro w'; go_simp; with_reducible rfl); rotate_left; (simp only [Act.put, List.setIfInBounds_toArray, List.set_cons_zero, List.set_cons_succ, i64_w, i32_w]; rfl)
  -- 3: Op.load
  refine take_ (i := 3) (N := some 79) (a' := ?_) #[true, true, true, true, true, true, true, false, true, false, false, false, false] rfl rfl (take_ofW HT_.out HW_.out (by kernel_rfl)) (fun _ _ _ h => h) (yieldsIf_load_mid (by rfl) 29 (.tmp 78) rfl g 0 (by rfl) (rM_ c B1 j1 B2 j2) _ (fun w' s => blk_range s.1 0 _ rfl) Try.underlying29 rfl (by kernel_rfl)) hHeld ?_ ?_
  rotate_left
  · simp only [Act.put, List.setIfInBounds_toArray, List.set_cons_zero, List.set_cons_succ, List.toArray, i64_w, i32_w]
    rfl
  -- 7: Op.load
  refine take_ (i := 7) (N := some 83) (v := ?_) (a' := ?_) #[true, true, true, true, true, true, true, true, true, false, false, false, false] rfl rfl (take_ofW HT_.out HW_.out (by kernel_rfl)) (fun _ _ _ h => h) (Or.inl ⟨by rfl, ?_⟩) hHeld ?_ ?_
  rotate_left; (rintro w' ⟨s0, s1⟩; go_simp; with_reducible rfl); rotate_left; (simp only [Act.put, List.setIfInBounds_toArray, List.set_cons_zero, List.set_cons_succ, i64_w, i32_w]; rfl)
  -- 9: Op.store
  refine one_ (i := 9) (N := none) #[true, true, true, true, true, true, true, true, true, true, false, false, false] rfl rfl (one_of HT_.out (by kernel_rfl)) (by decide) (fun K hK => ?_)
  refine row_ 29 (.tmp 4) (.tmp 79) (w.heap.size + 1) (rL_ c B1 j1 B2 j2) 29 rZC_ (by rfl) rfl rfl (by rfl) (by rfl) BZ.out (by kernel_rfl) (by rfl) (by kernel_rfl) ?_
  refine hK.out _ _ ⟨(setRow_other _ _ _ _ (by have := HG.out; have := HS1.out; omega)).trans hHeld.1, (cell_setRow_other _ _ _ _ (by show g ≠ _; have := HG.out; have := HS1.out; omega)).trans hHeld.2⟩ (fun hHeld => ?_)
  clear hK K
  -- 10: Op.assign
  refine pure_ (i := 10) (N := some 5) (v := ?_) (a' := ?_) #[true, true, true, true, true, true, true, true, true, true, true, false, false] rfl rfl (any_of HT_.out (by kernel_rfl)) (fun _ _ _ h => h) (Or.inl ⟨by rfl, ?_⟩) ?_ ?_
  rotate_left; (intro w'; go_simp; with_reducible rfl); rotate_left; (simp only [Act.put, List.setIfInBounds_toArray, List.set_cons_zero, List.set_cons_succ, i64_w, i32_w]; rfl)
  -- 11: Op.store
  refine one_ (i := 11) (N := none) #[true, true, true, true, true, true, true, true, true, true, true, true, false] rfl rfl (one_of HT_.out (by kernel_rfl)) (by decide) (fun K hK => ?_)
  refine row_ 36 (.tmp 6) (.tmp 84) (w.heap.size + 1 + 1) rZR_ 36 rZR_ (by rfl) rfl rfl (by rfl) (by rfl) (blk_row_far BR.out (rL_ c B1 j1 B2 j2) (show w.heap.size + 1 + 1 ≠ w.heap.size + 1 by omega)) (by kernel_rfl) (by rfl) (by kernel_rfl) ?_
  refine hK.out _ _ ⟨(setRow_other _ _ _ _ (by have := HG.out; have := HS1.out; omega)).trans hHeld.1, (cell_setRow_other _ _ _ _ (by show g ≠ _; have := HG.out; have := HS1.out; omega)).trans hHeld.2⟩ (fun hHeld => ?_)
  clear hK K
  -- 12: Op.assign
  refine pure_ (i := 12) (N := some 7) (v := ?_) (a' := ?_) #[true, true, true, true, true, true, true, true, true, true, true, true, true] rfl rfl (any_of HT_.out (by kernel_rfl)) (fun _ _ _ h => h) (Or.inl ⟨by rfl, ?_⟩) ?_ ?_
  rotate_left; (intro w'; go_simp; with_reducible rfl); rotate_left; (simp only [Act.put, List.setIfInBounds_toArray, List.set_cons_zero, List.set_cons_succ, i64_w, i32_w]; rfl)
  refine done_ (done_of HT_.out (by kernel_rfl)) ?_
  clear HT_ HW_ hHeld

  have BZN := Aside0.mk (blk_row_far (blk_row BZ.out (rL_ c B1 j1 B2 j2)) rZR_ (show w.heap.size + 1 ≠ w.heap.size + 1 + 1 by omega))
  have BRN := Aside0.mk (blk_row (blk_row_far BR.out (rL_ c B1 j1 B2 j2) (show w.heap.size + 1 + 1 ≠ w.heap.size + 1 by omega)) rZR_)
  have HFRN := Aside0.mk ((HFR.out.setRow (w.heap.size + 1) (rL_ c B1 j1 B2 j2) (fun h => by omega)).setRow (w.heap.size + 1 + 1) rZR_ (fun h => by omega))
  have FN := Aside0.mk ((Fr.setRow (Fr.refl (fun k => k = w.heap.size + 1 ∨ k = w.heap.size + 1 + 1) WB) (w.heap.size + 1) (rL_ c B1 j1 B2 j2) (fun _ => .inl rfl)).setRow (w.heap.size + 1 + 1) rZR_ (fun _ => .inr rfl))
  generalize World.setRow _ _ _ = WC at BZN BRN HFRN FN ⊢
  clear BZ BG BR HFR
  go_wp2
  refine bodyPost_ret (results_list (rs := [.cell 4 29, .tmp 5, .cell 6 36, .tmp 7]) rfl (by simp) (.cell (w.heap.size + 1) 29 (rL_ c B1 j1 B2 j2) (0, 0) _ rfl BZN.out Try.underlying29 rfl (by kernel_rfl) (.tmp (.cell (w.heap.size + 1 + 1) 36 rZR_ (0, 0) _ rfl BRN.out Try.underlying36 rfl (by kernel_rfl) (.tmp .nil))))) rfl ?_
  rw [HV.out, ← HS'.out]
  have hs := HS1.out
  have hw : ∀ k, W1.heap.size ≤ k ∧ k ≠ g → w.heap.size ≤ k := fun k hk => by omega
  have hk : ∀ k, W1.heap.size ≤ k ∧ k ≠ g → k < WB.heap.size → WC.heap[k]? = WB.heap[k]? := fun k hk hlt => FN.out.block k hlt (by omega)
  exact ⟨B1, j1, B2, j2, B3, j3, none, 0, rfl, ⟨Kd.F_mono (Kd.F_step FI.out.2.1 hk) hw, FI.out.1, Kd.F_mono (Kd.F_step FI.out.2.2.2.1 hk) hw, FI.out.2.2.1⟩, ⟨Kd.F_mono (Kd.F_step FI.out.2.2.2.2.2 hk) hw, FI.out.2.2.2.2.1⟩, BodyNew.nil _ _, HFRN.out.below (Nat.le_refl _) (fun _ h => h)⟩
set_option maxHeartbeats 8000000 in
set_option maxRecDepth 100000 in
theorem tick_ask (c : CliS) (A1 : Option Addr) (k1 : Nat) (A2 : Option Addr) (k2 : Nat) (now : Int) (w : World) (hc : CliIn w c A1 k1 A2 k2) (hb1 : c.Br.length < 1000000) (hb2 : c.Call.f8.length ≤ 140737488351232) (hn : now < 18446744073709551616) (hp : 0 ≤ c.Born ∧ 0 ≤ c.Since) (hb : c.Busy = 1) (h1 : afterI now c.Born < 9) (h2 : 3 ≤ afterI now c.Since) :
    Calls Try.prog 12 #[.agg (rL_ c A1 k1 A2 k2), .int .u64 now] w (TakePost w (tickC c now)) := by
  have HV := Aside0.mk (show tickC c now = ((askC c now).1, (askC c now).2, z36, false) by unfold tickC; rw [if_pos hb, if_neg (by omega), if_pos h2, if_neg (by omega)])
  have t1 : (c.Busy != 1) = false := by simp [hb]
  have t2 : decide (240 ≤ afterI now c.Born) = false := by simp; omega
  have t3 : decide (3 ≤ afterI now c.Since) = true := by simpa using h2
  have t4 : decide (9 ≤ afterI now c.Born) = false := by simp; omega
  clear hb h1 h2
  have HW1 := Aside0.mk (show (w.alloc (.cells (rL_ c A1 k1 A2 k2) 29)).heap.size = w.heap.size + 1 by simp)
  have HW2 := Aside0.mk (show ((w.alloc (.cells (rL_ c A1 k1 A2 k2) 29)).alloc (.cells rZC_ 29)).heap.size = w.heap.size + 1 + 1 by simp)
  have HB0 := Aside0.mk (below_alloc (below_alloc (below_alloc (Below.refl w.heap.size w) (.cells (rL_ c A1 k1 A2 k2) 29)) (.cells rZC_ 29)) (.cells rZR_ 36))
  have BC := Aside0.mk (blk_alloc (blk_alloc (heap_alloc_new w (.cells (rL_ c A1 k1 A2 k2) 29)) (.cells rZC_ 29)) (.cells rZR_ 36))
  have BZ := Aside0.mk (HW1.out ▸ blk_alloc (heap_alloc_new (w.alloc (.cells (rL_ c A1 k1 A2 k2) 29)) (.cells rZC_ 29)) (.cells rZR_ 36))
  have BR := Aside0.mk (HW2.out ▸ heap_alloc_new ((w.alloc (.cells (rL_ c A1 k1 A2 k2) 29)).alloc (.cells rZC_ 29)) (.cells rZR_ 36))
  have HS1 := Aside0.mk (show (((w.alloc (.cells (rL_ c A1 k1 A2 k2) 29)).alloc (.cells rZC_ 29)).alloc (.cells rZR_ 36)).heap.size = w.heap.size + 3 by simp)
  have HIN := Aside0.mk (hc.below HB0.out)
  clear hc HW1 HW2
  go_enter Try.func12, Try.ntmps12
  go_wp2_with (refine wpList_load_row rfl 29 (.tmp 2) rfl w.heap.size (by rfl) 29 (rL_ c A1 k1 A2 k2) (0, 0) _ BC.out Try.underlying29 rfl (by kernel_rfl) ?_)
  generalize World.alloc _ _ = W1 at HB0 BC BZ BR HS1 HIN ⊢
  have HWI := Aside0.mk (fun n => with_r c A1 k1 A2 k2 n W1 HIN.out.C1 HIN.out.l1 HIN.out.C2 HIN.out.l2 (by omega) hb2)
  have HBG := Aside0.mk hb1
  have HBL := Aside0.mk hb2
  have HN := Aside0.mk hn
  have HP := Aside0.mk hp
  go_wp2_with (first
      | (go_at_call 23; refine (HWI.out _).mono ?_; rintro e W2 ⟨g, rfl, hI, hB⟩; have HI := Aside0.mk hI; have HB2 := Aside0.mk hB; clear hI hB HWI; have BZ2 := Aside0.mk (blk_below BZ.out HB2.out); have BR2 := Aside0.mk (blk_below BR.out HB2.out); have HG := Aside0.mk HI.out.ge; have HFR := Aside0.mk ((Fr.of_below HB0.out (fun k => w.heap.size ≤ k)).then_ (Fr.of_below HB2.out _)); have HAF := Aside0.mk (fun (t : Int) (h : t = c.Born ∨ t = c.Since) => after_c c W1.heap.size g now [] W2 HI.out t (by have := HP.out; rcases h with h | h <;> omega) HN.out); have HC2 := HI.out.cells; obtain ⟨C1, i1, d3, d14, dz, d4, _, _, _, _, d15, d16, dz4, _, _⟩ := HC2; clear BC BZ BR HIN HB0)
      | (go_at_call 30; refine (HAF.out _ (by first | exact .inl rfl | exact .inr rfl)).mono ?_; rintro e w' ⟨rfl, rfl⟩))
  clear t1 t2 t3 t4 d3 d14 dz d4 d15 d16 dz4
  have HASK := Aside0.mk (ask_c c W1.heap.size g now W2 HI.out HBG.out HBL.out)
  clear HI

  generalize hq : askC c now = q at HASK HV
  obtain ⟨c', s'⟩ := q
  clear hq

  go_wp2_with (go_at_call 25; refine HASK.out.mono ?_; rintro e WA ⟨rfl, hI, hK⟩; have HI := Aside0.mk hI; have HKB := Aside0.mk hK; clear hI hK HASK)
  have HFR := Aside0.mk (HFR.out.then_ (HKB.out.mono (fun k hk => by have := HG.out; have := HS1.out; omega) (S2 := fun k => w.heap.size ≤ k)))
  have BZ := Aside0.mk ((HKB.out.block _ (blk_lt BZ2.out) (show ¬ (w.heap.size + 1 = g) by have := HG.out; have := HS1.out; omega)).trans BZ2.out)
  have BR := Aside0.mk ((HKB.out.block _ (blk_lt BR2.out) (show ¬ (w.heap.size + 1 + 1 = g) by have := HG.out; have := HS1.out; omega)).trans BR2.out)
  clear HKB BZ2 BR2

  obtain ⟨B1, j1, B2, j2, B3, j3, hb, m1, f1, m2, f2, m3, f3, hg⟩ := HI.out.blk
  have BG := Aside0.mk hb
  have FI := Aside0.mk (And.intro m1 (And.intro f1 (And.intro m2 (And.intro f2 (And.intro m3 f3)))))
  clear hb m1 f1 m2 f2 m3 f3 hg HI

  have dg : WA.heap[g]? = some (.cells #[.int .i64 c'.Id, .int .u64 c'.Inc, .int .u64 c'.N, .slice B1 c'.Br.length j1, .int .i64 c'.Busy, .int .i64 c'.Call.f0, .int .u64 c'.Call.f1, .int .u64 c'.Call.f2, .int .i64 c'.Call.f3, .int .i64 c'.Call.f4, .int .i64 c'.Call.f5, .int .u64 c'.Call.f6, .int .u64 c'.Call.f7, .slice B2 c'.Call.f8.length j2, .int .i64 c'.At, .int .u64 c'.Born, .int .u64 c'.Since, .int .u64 now, .slice B3 s'.length j3] 66 (0, 0)) := BG.out
  have d18 : WA.cell? ⟨g, 18, none⟩ = some (.slice B3 s'.length j3) := (cells_at BG.out rfl).1
  refine start_ (n := 13) (S := fun w' => w'.heap[g]? = some (.cells #[.int .i64 c'.Id, .int .u64 c'.Inc, .int .u64 c'.N, .slice B1 c'.Br.length j1, .int .i64 c'.Busy, .int .i64 c'.Call.f0, .int .u64 c'.Call.f1, .int .u64 c'.Call.f2, .int .i64 c'.Call.f3, .int .i64 c'.Call.f4, .int .i64 c'.Call.f5, .int .u64 c'.Call.f6, .int .u64 c'.Call.f7, .slice B2 c'.Call.f8.length j2, .int .i64 c'.At, .int .u64 c'.Born, .int .u64 c'.Since, .int .u64 now, .slice B3 s'.length j3] 66 (0, 0)) ∧ w'.cell? ⟨g, 18, none⟩ = some (.slice B3 s'.length j3)) (ds := []) #[false, false, false, false, false, false, false, false, false, false, false, false, false] (by kernel_rfl) rfl rfl ⟨dg, d18⟩ (fun hHeld => ?_)
  refine with_tabW tic.tab10 tic.bits10 (fun HT_ HW_ => ?_)
  have BZ := Aside0.mk (blk_drew BZ.out)
  have BR := Aside0.mk (blk_drew BR.out)
  have BG := Aside0.mk (blk_drew BG.out)
  have HFR := Aside0.mk HFR.out.drew
  have FI := Aside0.mk (And.intro FI.out.1 (And.intro (Kd.F_drew FI.out.2.1) (And.intro FI.out.2.2.1 (And.intro (Kd.F_drew FI.out.2.2.2.1) (And.intro FI.out.2.2.2.2.1 (Kd.F_drew FI.out.2.2.2.2.2))))))
  clear dg d18
  generalize World.drew _ = WB at BZ BR BG HFR FI hHeld ⊢
  -- 0: Op.move
  refine pure_ (i := 0) (N := some 76) (v := ?_) (a' := ?_) #[true, false, false, false, false, false, false, false, false, false, false, false, false] rfl rfl (any_of HT_.out (by kernel_rfl)) (fun _ _ _ h => h) (Or.inl ⟨by rfl, ?_⟩) ?_ ?_
  rotate_left; (intro w'; go_simp; with_reducible rfl); rotate_left; (simp only [Act.put, List.setIfInBounds_toArray, List.set_cons_zero, List.set_cons_succ, i64_w, i32_w]; rfl)
  -- 1: Op.nilCheck
  refine pure_ (i := 1) (N := some 77) (v := ?_) (a' := ?_) #[true, true, false, false, false, false, false, false, false, false, false, false, false] rfl rfl (any_of HT_.out (by kernel_rfl)) (fun _ _ _ h => h) (Or.inl ⟨by rfl, ?_⟩) ?_ ?_
  rotate_left; (intro w'; go_simp; with_reducible rfl); rotate_left; (simp only [Act.put, List.setIfInBounds_toArray, List.set_cons_zero, List.set_cons_succ, i64_w, i32_w]; rfl)
  -- 2: Op.fieldAddr
  refine pure_ (i := 2) (N := some 78) (v := ?_) (a' := ?_) #[true, true, true, false, false, false, false, false, false, false, false, false, false] rfl rfl (any_of HT_.out (by kernel_rfl)) (fun _ _ _ h => h) (Or.inl ⟨by rfl, ?_⟩) ?_ ?_
  rotate_left; (intro w'; go_simp; with_reducible rfl); rotate_left; (simp only [Act.put, List.setIfInBounds_toArray, List.set_cons_zero, List.set_cons_succ, i64_w, i32_w]; rfl)
  -- 4: Op.move
  refine pure_ (i := 4) (N := some 80) (v := ?_) (a' := ?_) #[true, true, true, false, true, false, false, false, false, false, false, false, false] rfl rfl (any_of HT_.out (by kernel_rfl)) (fun _ _ _ h => h) (Or.inl ⟨by rfl, ?_⟩) ?_ ?_
  rotate_left; (intro w'; go_simp; with_reducible rfl); rotate_left; (simp only [Act.put, List.setIfInBounds_toArray, List.set_cons_zero, List.set_cons_succ, i64_w, i32_w]; rfl)
  -- 5: Op.nilCheck
  refine pure_ (i := 5) (N := some 81) (v := ?_) (a' := ?_) #[true, true, true, false, true, true, false, false, false, false, false, false, false] rfl rfl (any_of HT_.out (by kernel_rfl)) (fun _ _ _ h => h) (Or.inl ⟨by rfl, ?_⟩) ?_ ?_
  rotate_left; (intro w'; go_simp; with_reducible rfl); rotate_left; (simp only [Act.put, List.setIfInBounds_toArray, List.set_cons_zero, List.set_cons_succ, i64_w, i32_w]; rfl)
  -- 6: Op.fieldAddr
  refine pure_ (i := 6) (N := some 82) (v := ?_) (a' := ?_) #[true, true, true, false, true, true, true, false, false, false, false, false, false] rfl rfl (any_of HT_.out (by kernel_rfl)) (fun _ _ _ h => h) (Or.inl ⟨by rfl, ?_⟩) ?_ ?_
  rotate_left; (intro w'; go_simp; with_reducible rfl); rotate_left; (simp only [Act.put, List.setIfInBounds_toArray, List.set_cons_zero, List.set_cons_succ, i64_w, i32_w]; rfl)
  -- 8: Op.build
  refine pure_ (i := 8) (N := some 84) (v := ?_) (a' := ?_) #[true, true, true, false, true, true, true, false, true, false, false, false, false] rfl rfl (any_of HT_.out (by kernel_rfl)) (fun _ _ _ h => h) (Or.inl ⟨by rfl, ?_⟩) ?_ ?_
  rotate_left; (intro w'; go_simp; with_reducible rfl); rotate_left; (simp only [Act.put, List.setIfInBounds_toArray, List.set_cons_zero, List.set_cons_succ, i64_w, i32_w]; rfl)
  -- 3: Op.load
  refine take_ (i := 3) (N := some 79) (a' := ?_) #[true, true, true, true, true, true, true, false, true, false, false, false, false] rfl rfl (take_ofW HT_.out HW_.out (by kernel_rfl)) (fun _ _ _ h => h) (yieldsIf_load_mid (by rfl) 29 (.tmp 78) rfl g 0 (by rfl) (rM_ c' B1 j1 B2 j2) _ (fun w' s => blk_range s.1 0 _ rfl) Try.underlying29 rfl (by kernel_rfl)) hHeld ?_ ?_
  rotate_left
  · simp only [Act.put, List.setIfInBounds_toArray, List.set_cons_zero, List.set_cons_succ, List.toArray, i64_w, i32_w]
    rfl
  -- 7: Op.load
  refine take_ (i := 7) (N := some 83) (v := ?_) (a' := ?_) #[true, true, true, true, true, true, true, true, true, false, false, false, false] rfl rfl (take_ofW HT_.out HW_.out (by kernel_rfl)) (fun _ _ _ h => h) (Or.inl ⟨by rfl, ?_⟩) hHeld ?_ ?_
  rotate_left; (rintro w' ⟨s0, s1⟩; go_simp; with_reducible rfl); rotate_left; (simp only [Act.put, List.setIfInBounds_toArray, List.set_cons_zero, List.set_cons_succ, i64_w, i32_w]; rfl)
  -- 9: Op.store
  refine one_ (i := 9) (N := none) #[true, true, true, true, true, true, true, true, true, true, false, false, false] rfl rfl (one_of HT_.out (by kernel_rfl)) (by decide) (fun K hK => ?_)
  refine row_ 29 (.tmp 4) (.tmp 79) (w.heap.size + 1) (rL_ c' B1 j1 B2 j2) 29 rZC_ (by rfl) rfl rfl (by rfl) (by rfl) BZ.out (by kernel_rfl) (by rfl) (by kernel_rfl) ?_
  refine hK.out _ _ ⟨(setRow_other _ _ _ _ (by have := HG.out; have := HS1.out; omega)).trans hHeld.1, (cell_setRow_other _ _ _ _ (by show g ≠ _; have := HG.out; have := HS1.out; omega)).trans hHeld.2⟩ (fun hHeld => ?_)
  clear hK K
  -- 10: Op.assign
  refine pure_ (i := 10) (N := some 5) (v := ?_) (a' := ?_) #[true, true, true, true, true, true, true, true, true, true, true, false, false] rfl rfl (any_of HT_.out (by kernel_rfl)) (fun _ _ _ h => h) (Or.inl ⟨by rfl, ?_⟩) ?_ ?_
  rotate_left; (intro w'; go_simp; with_reducible rfl); rotate_left; (simp only [Act.put, List.setIfInBounds_toArray, List.set_cons_zero, List.set_cons_succ, i64_w, i32_w]; rfl)
  -- 11: Op.store
  refine one_ (i := 11) (N := none) #[true, true, true, true, true, true, true, true, true, true, true, true, false] rfl rfl (one_of HT_.out (by kernel_rfl)) (by decide) (fun K hK => ?_)
  refine row_ 36 (.tmp 6) (.tmp 84) (w.heap.size + 1 + 1) rZR_ 36 rZR_ (by rfl) rfl rfl (by rfl) (by rfl) (blk_row_far BR.out (rL_ c' B1 j1 B2 j2) (show w.heap.size + 1 + 1 ≠ w.heap.size + 1 by omega)) (by kernel_rfl) (by rfl) (by kernel_rfl) ?_
  refine hK.out _ _ ⟨(setRow_other _ _ _ _ (by have := HG.out; have := HS1.out; omega)).trans hHeld.1, (cell_setRow_other _ _ _ _ (by show g ≠ _; have := HG.out; have := HS1.out; omega)).trans hHeld.2⟩ (fun hHeld => ?_)
  clear hK K
  -- 12: Op.assign
  refine pure_ (i := 12) (N := some 7) (v := ?_) (a' := ?_) #[true, true, true, true, true, true, true, true, true, true, true, true, true] rfl rfl (any_of HT_.out (by kernel_rfl)) (fun _ _ _ h => h) (Or.inl ⟨by rfl, ?_⟩) ?_ ?_
  rotate_left; (intro w'; go_simp; with_reducible rfl); rotate_left; (simp only [Act.put, List.setIfInBounds_toArray, List.set_cons_zero, List.set_cons_succ, i64_w, i32_w]; rfl)
  refine done_ (done_of HT_.out (by kernel_rfl)) ?_
  clear HT_ HW_ hHeld

  have BZN := Aside0.mk (blk_row_far (blk_row BZ.out (rL_ c' B1 j1 B2 j2)) rZR_ (show w.heap.size + 1 ≠ w.heap.size + 1 + 1 by omega))
  have BRN := Aside0.mk (blk_row (blk_row_far BR.out (rL_ c' B1 j1 B2 j2) (show w.heap.size + 1 + 1 ≠ w.heap.size + 1 by omega)) rZR_)
  have HFRN := Aside0.mk ((HFR.out.setRow (w.heap.size + 1) (rL_ c' B1 j1 B2 j2) (fun h => by omega)).setRow (w.heap.size + 1 + 1) rZR_ (fun h => by omega))
  have FN := Aside0.mk ((Fr.setRow (Fr.refl (fun k => k = w.heap.size + 1 ∨ k = w.heap.size + 1 + 1) WB) (w.heap.size + 1) (rL_ c' B1 j1 B2 j2) (fun _ => .inl rfl)).setRow (w.heap.size + 1 + 1) rZR_ (fun _ => .inr rfl))
  generalize World.setRow _ _ _ = WC at BZN BRN HFRN FN ⊢
  clear BZ BG BR HFR
  go_wp2
  refine bodyPost_ret (results_list (rs := [.cell 4 29, .tmp 5, .cell 6 36, .tmp 7]) rfl (by simp) (.cell (w.heap.size + 1) 29 (rL_ c' B1 j1 B2 j2) (0, 0) _ rfl BZN.out Try.underlying29 rfl (by kernel_rfl) (.tmp (.cell (w.heap.size + 1 + 1) 36 rZR_ (0, 0) _ rfl BRN.out Try.underlying36 rfl (by kernel_rfl) (.tmp .nil))))) rfl ?_
  rw [HV.out]
  have hs := HS1.out
  have hw : ∀ k, W1.heap.size ≤ k ∧ k ≠ g → w.heap.size ≤ k := fun k hk => by omega
  have hk : ∀ k, W1.heap.size ≤ k ∧ k ≠ g → k < WB.heap.size → WC.heap[k]? = WB.heap[k]? := fun k hk hlt => FN.out.block k hlt (by omega)
  exact ⟨B1, j1, B2, j2, B3, j3, none, 0, rfl, ⟨Kd.F_mono (Kd.F_step FI.out.2.1 hk) hw, FI.out.1, Kd.F_mono (Kd.F_step FI.out.2.2.2.1 hk) hw, FI.out.2.2.1⟩, ⟨Kd.F_mono (Kd.F_step FI.out.2.2.2.2.2 hk) hw, FI.out.2.2.2.2.1⟩, BodyNew.nil _ _, HFRN.out.below (Nat.le_refl _) (fun _ h => h)⟩
set_option maxHeartbeats 8000000 in
set_option maxRecDepth 100000 in
theorem tick_next (c : CliS) (A1 : Option Addr) (k1 : Nat) (A2 : Option Addr) (k2 : Nat) (now : Int) (w : World) (hc : CliIn w c A1 k1 A2 k2) (hb1 : c.Br.length < 1000000) (hb2 : c.Call.f8.length ≤ 140737488351232) (hn : now < 18446744073709551616) (hp : 0 ≤ c.Born ∧ 0 ≤ c.Since) (hb : c.Busy = 1) (h0 : afterI now c.Born < 240) (h1 : 9 ≤ afterI now c.Born) (h2 : 3 ≤ afterI now c.Since) :
    Calls Try.prog 12 #[.agg (rL_ c A1 k1 A2 k2), .int .u64 now] w (TakePost w (tickC c now)) := by
  have HV := Aside0.mk (show tickC c now = ((askC (nextC c) now).1, (askC (nextC c) now).2, z36, false) by unfold tickC; rw [if_pos hb, if_neg (by omega), if_pos h2, if_pos h1])
  have t1 : (c.Busy != 1) = false := by simp [hb]
  have t2 : decide (240 ≤ afterI now c.Born) = false := by simp; omega
  have t3 : decide (3 ≤ afterI now c.Since) = true := by simpa using h2
  have t4 : decide (9 ≤ afterI now c.Born) = true := by simpa using h1
  clear hb h0 h1 h2
  have HW1 := Aside0.mk (show (w.alloc (.cells (rL_ c A1 k1 A2 k2) 29)).heap.size = w.heap.size + 1 by simp)
  have HW2 := Aside0.mk (show ((w.alloc (.cells (rL_ c A1 k1 A2 k2) 29)).alloc (.cells rZC_ 29)).heap.size = w.heap.size + 1 + 1 by simp)
  have HB0 := Aside0.mk (below_alloc (below_alloc (below_alloc (Below.refl w.heap.size w) (.cells (rL_ c A1 k1 A2 k2) 29)) (.cells rZC_ 29)) (.cells rZR_ 36))
  have BC := Aside0.mk (blk_alloc (blk_alloc (heap_alloc_new w (.cells (rL_ c A1 k1 A2 k2) 29)) (.cells rZC_ 29)) (.cells rZR_ 36))
  have BZ := Aside0.mk (HW1.out ▸ blk_alloc (heap_alloc_new (w.alloc (.cells (rL_ c A1 k1 A2 k2) 29)) (.cells rZC_ 29)) (.cells rZR_ 36))
  have BR := Aside0.mk (HW2.out ▸ heap_alloc_new ((w.alloc (.cells (rL_ c A1 k1 A2 k2) 29)).alloc (.cells rZC_ 29)) (.cells rZR_ 36))
  have HS1 := Aside0.mk (show (((w.alloc (.cells (rL_ c A1 k1 A2 k2) 29)).alloc (.cells rZC_ 29)).alloc (.cells rZR_ 36)).heap.size = w.heap.size + 3 by simp)
  have HIN := Aside0.mk (hc.below HB0.out)
  clear hc HW1 HW2
  go_enter Try.func12, Try.ntmps12
  go_wp2_with (refine wpList_load_row rfl 29 (.tmp 2) rfl w.heap.size (by rfl) 29 (rL_ c A1 k1 A2 k2) (0, 0) _ BC.out Try.underlying29 rfl (by kernel_rfl) ?_)
  generalize World.alloc _ _ = W1 at HB0 BC BZ BR HS1 HIN ⊢
  have HWI := Aside0.mk (fun n => with_r c A1 k1 A2 k2 n W1 HIN.out.C1 HIN.out.l1 HIN.out.C2 HIN.out.l2 (by omega) hb2)
  have HBG := Aside0.mk hb1
  have HBL := Aside0.mk hb2
  have HN := Aside0.mk hn
  have HP := Aside0.mk hp
  go_wp2_with (first
      | (go_at_call 23; refine (HWI.out _).mono ?_; rintro e W2 ⟨g, rfl, hI, hB⟩; have HI := Aside0.mk hI; have HB2 := Aside0.mk hB; clear hI hB HWI; have BZ2 := Aside0.mk (blk_below BZ.out HB2.out); have BR2 := Aside0.mk (blk_below BR.out HB2.out); have HG := Aside0.mk HI.out.ge; have HFR := Aside0.mk ((Fr.of_below HB0.out (fun k => w.heap.size ≤ k)).then_ (Fr.of_below HB2.out _)); have HAF := Aside0.mk (fun (t : Int) (h : t = c.Born ∨ t = c.Since) => after_c c W1.heap.size g now [] W2 HI.out t (by have := HP.out; rcases h with h | h <;> omega) HN.out); have HC2 := HI.out.cells; obtain ⟨C1, i1, d3, d14, dz, d4, _, _, _, _, d15, d16, dz4, _, _⟩ := HC2; clear BC BZ BR HIN HB0)
      | (go_at_call 30; refine (HAF.out _ (by first | exact .inl rfl | exact .inr rfl)).mono ?_; rintro e w' ⟨rfl, rfl⟩))
  clear t1 t2 t3 t4 d3 d14 dz d4 d15 d16 dz4
  have HNX := Aside0.mk (next_c c W1.heap.size g now [] W2 HI.out HBG.out)
  have HAS := Aside0.mk (fun (W : World) (h : IsWk W W1.heap.size g (nextC c) now []) => ask_c (nextC c) W1.heap.size g now W h (by rw [nextC_br]; exact HBG.out) (by rw [nextC_call]; exact HBL.out))
  clear HI
  generalize nextC c = cn at HNX HAS HV
  go_wp2_with (go_at_call 28; refine HNX.out.mono ?_; rintro e W3 ⟨rfl, hI, hK⟩; have HASK := Aside0.mk (HAS.out W3 hI); have HKN := Aside0.mk hK; clear hI hK HNX HAS)

  generalize hq : askC cn now = q at HASK HV
  obtain ⟨c', s'⟩ := q
  clear hq

  go_wp2_with (go_at_call 25; refine HASK.out.mono ?_; rintro e WA ⟨rfl, hI, hK⟩; have HI := Aside0.mk hI; have HKB := Aside0.mk (HKN.out.then_ hK); clear hI hK HASK)
  have HFR := Aside0.mk (HFR.out.then_ (HKB.out.mono (fun k hk => by have := HG.out; have := HS1.out; omega) (S2 := fun k => w.heap.size ≤ k)))
  have BZ := Aside0.mk ((HKB.out.block _ (blk_lt BZ2.out) (show ¬ (w.heap.size + 1 = g) by have := HG.out; have := HS1.out; omega)).trans BZ2.out)
  have BR := Aside0.mk ((HKB.out.block _ (blk_lt BR2.out) (show ¬ (w.heap.size + 1 + 1 = g) by have := HG.out; have := HS1.out; omega)).trans BR2.out)
  clear HKB HKN BZ2 BR2

  obtain ⟨B1, j1, B2, j2, B3, j3, hb, m1, f1, m2, f2, m3, f3, hg⟩ := HI.out.blk
  have BG := Aside0.mk hb
  have FI := Aside0.mk (And.intro m1 (And.intro f1 (And.intro m2 (And.intro f2 (And.intro m3 f3)))))
  clear hb m1 f1 m2 f2 m3 f3 hg HI

  have dg : WA.heap[g]? = some (.cells #[.int .i64 c'.Id, .int .u64 c'.Inc, .int .u64 c'.N, .slice B1 c'.Br.length j1, .int .i64 c'.Busy, .int .i64 c'.Call.f0, .int .u64 c'.Call.f1, .int .u64 c'.Call.f2, .int .i64 c'.Call.f3, .int .i64 c'.Call.f4, .int .i64 c'.Call.f5, .int .u64 c'.Call.f6, .int .u64 c'.Call.f7, .slice B2 c'.Call.f8.length j2, .int .i64 c'.At, .int .u64 c'.Born, .int .u64 c'.Since, .int .u64 now, .slice B3 s'.length j3] 66 (0, 0)) := BG.out
  have d18 : WA.cell? ⟨g, 18, none⟩ = some (.slice B3 s'.length j3) := (cells_at BG.out rfl).1
  refine start_ (n := 13) (S := fun w' => w'.heap[g]? = some (.cells #[.int .i64 c'.Id, .int .u64 c'.Inc, .int .u64 c'.N, .slice B1 c'.Br.length j1, .int .i64 c'.Busy, .int .i64 c'.Call.f0, .int .u64 c'.Call.f1, .int .u64 c'.Call.f2, .int .i64 c'.Call.f3, .int .i64 c'.Call.f4, .int .i64 c'.Call.f5, .int .u64 c'.Call.f6, .int .u64 c'.Call.f7, .slice B2 c'.Call.f8.length j2, .int .i64 c'.At, .int .u64 c'.Born, .int .u64 c'.Since, .int .u64 now, .slice B3 s'.length j3] 66 (0, 0)) ∧ w'.cell? ⟨g, 18, none⟩ = some (.slice B3 s'.length j3)) (ds := []) #[false, false, false, false, false, false, false, false, false, false, false, false, false] (by kernel_rfl) rfl rfl ⟨dg, d18⟩ (fun hHeld => ?_)
  refine with_tabW tic.tab10 tic.bits10 (fun HT_ HW_ => ?_)
  have BZ := Aside0.mk (blk_drew BZ.out)
  have BR := Aside0.mk (blk_drew BR.out)
  have BG := Aside0.mk (blk_drew BG.out)
  have HFR := Aside0.mk HFR.out.drew
  have FI := Aside0.mk (And.intro FI.out.1 (And.intro (Kd.F_drew FI.out.2.1) (And.intro FI.out.2.2.1 (And.intro (Kd.F_drew FI.out.2.2.2.1) (And.intro FI.out.2.2.2.2.1 (Kd.F_drew FI.out.2.2.2.2.2))))))
  clear dg d18
  generalize World.drew _ = WB at BZ BR BG HFR FI hHeld ⊢
  -- 0: Op.move
  refine pure_ (i := 0) (N := some 76) (v := ?_) (a' := ?_) #[true, false, false, false, false, false, false, false, false, false, false, false, false] rfl rfl (any_of HT_.out (by kernel_rfl)) (fun _ _ _ h => h) (Or.inl ⟨by rfl, ?_⟩) ?_ ?_
  rotate_left; (intro w'; go_simp; with_reducible rfl); rotate_left; (simp only [Act.put, List.setIfInBounds_toArray, List.set_cons_zero, List.set_cons_succ, i64_w, i32_w]; rfl)
  -- 1: Op.nilCheck
  refine pure_ (i := 1) (N := some 77) (v := ?_) (a' := ?_) #[true, true, false, false, false, false, false, false, false, false, false, false, false] rfl rfl (any_of HT_.out (by kernel_rfl)) (fun _ _ _ h => h) (Or.inl ⟨by rfl, ?_⟩) ?_ ?_
  rotate_left; (intro w'; go_simp; with_reducible rfl); rotate_left; (simp only [Act.put, List.setIfInBounds_toArray, List.set_cons_zero, List.set_cons_succ, i64_w, i32_w]; rfl)
  -- 2: Op.fieldAddr
  refine pure_ (i := 2) (N := some 78) (v := ?_) (a' := ?_) #[true, true, true, false, false, false, false, false, false, false, false, false, false] rfl rfl (any_of HT_.out (by kernel_rfl)) (fun _ _ _ h => h) (Or.inl ⟨by rfl, ?_⟩) ?_ ?_
  rotate_left; (intro w'; go_simp; with_reducible rfl); rotate_left; (simp only [Act.put, List.setIfInBounds_toArray, List.set_cons_zero, List.set_cons_succ, i64_w, i32_w]; rfl)
  -- 4: Op.move
  refine pure_ (i := 4) (N := some 80) (v := ?_) (a' := ?_) #[true, true, true, false, true, false, false, false, false, false, false, false, false] rfl rfl (any_of HT_.out (by kernel_rfl)) (fun _ _ _ h => h) (Or.inl ⟨by rfl, ?_⟩) ?_ ?_
  rotate_left; (intro w'; go_simp; with_reducible rfl); rotate_left; (simp only [Act.put, List.setIfInBounds_toArray, List.set_cons_zero, List.set_cons_succ, i64_w, i32_w]; rfl)
  -- 5: Op.nilCheck
  refine pure_ (i := 5) (N := some 81) (v := ?_) (a' := ?_) #[true, true, true, false, true, true, false, false, false, false, false, false, false] rfl rfl (any_of HT_.out (by kernel_rfl)) (fun _ _ _ h => h) (Or.inl ⟨by rfl, ?_⟩) ?_ ?_
  rotate_left; (intro w'; go_simp; with_reducible rfl); rotate_left; (simp only [Act.put, List.setIfInBounds_toArray, List.set_cons_zero, List.set_cons_succ, i64_w, i32_w]; rfl)
  -- 6: Op.fieldAddr
  refine pure_ (i := 6) (N := some 82) (v := ?_) (a' := ?_) #[true, true, true, false, true, true, true, false, false, false, false, false, false] rfl rfl (any_of HT_.out (by kernel_rfl)) (fun _ _ _ h => h) (Or.inl ⟨by rfl, ?_⟩) ?_ ?_
  rotate_left; (intro w'; go_simp; with_reducible rfl); rotate_left; (simp only [Act.put, List.setIfInBounds_toArray, List.set_cons_zero, List.set_cons_succ, i64_w, i32_w]; rfl)
  -- 8: Op.build
  refine pure_ (i := 8) (N := some 84) (v := ?_) (a' := ?_) #[true, true, true, false, true, true, true, false, true, false, false, false, false] rfl rfl (any_of HT_.out (by kernel_rfl)) (fun _ _ _ h => h) (Or.inl ⟨by rfl, ?_⟩) ?_ ?_
  rotate_left; (intro w'; go_simp; with_reducible rfl); rotate_left; (simp only [Act.put, List.setIfInBounds_toArray, List.set_cons_zero, List.set_cons_succ, i64_w, i32_w]; rfl)
  -- 3: Op.load
  refine take_ (i := 3) (N := some 79) (a' := ?_) #[true, true, true, true, true, true, true, false, true, false, false, false, false] rfl rfl (take_ofW HT_.out HW_.out (by kernel_rfl)) (fun _ _ _ h => h) (yieldsIf_load_mid (by rfl) 29 (.tmp 78) rfl g 0 (by rfl) (rM_ c' B1 j1 B2 j2) _ (fun w' s => blk_range s.1 0 _ rfl) Try.underlying29 rfl (by kernel_rfl)) hHeld ?_ ?_
  rotate_left
  · simp only [Act.put, List.setIfInBounds_toArray, List.set_cons_zero, List.set_cons_succ, List.toArray, i64_w, i32_w]
    rfl
  -- 7: Op.load
  refine take_ (i := 7) (N := some 83) (v := ?_) (a' := ?_) #[true, true, true, true, true, true, true, true, true, false, false, false, false] rfl rfl (take_ofW HT_.out HW_.out (by kernel_rfl)) (fun _ _ _ h => h) (Or.inl ⟨by rfl, ?_⟩) hHeld ?_ ?_
  rotate_left; (rintro w' ⟨s0, s1⟩; go_simp; with_reducible rfl); rotate_left; (simp only [Act.put, List.setIfInBounds_toArray, List.set_cons_zero, List.set_cons_succ, i64_w, i32_w]; rfl)
  -- 9: Op.store
  refine one_ (i := 9) (N := none) #[true, true, true, true, true, true, true, true, true, true, false, false, false] rfl rfl (one_of HT_.out (by kernel_rfl)) (by decide) (fun K hK => ?_)
  refine row_ 29 (.tmp 4) (.tmp 79) (w.heap.size + 1) (rL_ c' B1 j1 B2 j2) 29 rZC_ (by rfl) rfl rfl (by rfl) (by rfl) BZ.out (by kernel_rfl) (by rfl) (by kernel_rfl) ?_
  refine hK.out _ _ ⟨(setRow_other _ _ _ _ (by have := HG.out; have := HS1.out; omega)).trans hHeld.1, (cell_setRow_other _ _ _ _ (by show g ≠ _; have := HG.out; have := HS1.out; omega)).trans hHeld.2⟩ (fun hHeld => ?_)
  clear hK K
  -- 10: Op.assign
  refine pure_ (i := 10) (N := some 5) (v := ?_) (a' := ?_) #[true, true, true, true, true, true, true, true, true, true, true, false, false] rfl rfl (any_of HT_.out (by kernel_rfl)) (fun _ _ _ h => h) (Or.inl ⟨by rfl, ?_⟩) ?_ ?_
  rotate_left; (intro w'; go_simp; with_reducible rfl); rotate_left; (simp only [Act.put, List.setIfInBounds_toArray, List.set_cons_zero, List.set_cons_succ, i64_w, i32_w]; rfl)
  -- 11: Op.store
  refine one_ (i := 11) (N := none) #[true, true, true, true, true, true, true, true, true, true, true, true, false] rfl rfl (one_of HT_.out (by kernel_rfl)) (by decide) (fun K hK => ?_)
  refine row_ 36 (.tmp 6) (.tmp 84) (w.heap.size + 1 + 1) rZR_ 36 rZR_ (by rfl) rfl rfl (by rfl) (by rfl) (blk_row_far BR.out (rL_ c' B1 j1 B2 j2) (show w.heap.size + 1 + 1 ≠ w.heap.size + 1 by omega)) (by kernel_rfl) (by rfl) (by kernel_rfl) ?_
  refine hK.out _ _ ⟨(setRow_other _ _ _ _ (by have := HG.out; have := HS1.out; omega)).trans hHeld.1, (cell_setRow_other _ _ _ _ (by show g ≠ _; have := HG.out; have := HS1.out; omega)).trans hHeld.2⟩ (fun hHeld => ?_)
  clear hK K
  -- 12: Op.assign
  refine pure_ (i := 12) (N := some 7) (v := ?_) (a' := ?_) #[true, true, true, true, true, true, true, true, true, true, true, true, true] rfl rfl (any_of HT_.out (by kernel_rfl)) (fun _ _ _ h => h) (Or.inl ⟨by rfl, ?_⟩) ?_ ?_
  rotate_left; (intro w'; go_simp; with_reducible rfl); rotate_left; (simp only [Act.put, List.setIfInBounds_toArray, List.set_cons_zero, List.set_cons_succ, i64_w, i32_w]; rfl)
  refine done_ (done_of HT_.out (by kernel_rfl)) ?_
  clear HT_ HW_ hHeld

  have BZN := Aside0.mk (blk_row_far (blk_row BZ.out (rL_ c' B1 j1 B2 j2)) rZR_ (show w.heap.size + 1 ≠ w.heap.size + 1 + 1 by omega))
  have BRN := Aside0.mk (blk_row (blk_row_far BR.out (rL_ c' B1 j1 B2 j2) (show w.heap.size + 1 + 1 ≠ w.heap.size + 1 by omega)) rZR_)
  have HFRN := Aside0.mk ((HFR.out.setRow (w.heap.size + 1) (rL_ c' B1 j1 B2 j2) (fun h => by omega)).setRow (w.heap.size + 1 + 1) rZR_ (fun h => by omega))
  have FN := Aside0.mk ((Fr.setRow (Fr.refl (fun k => k = w.heap.size + 1 ∨ k = w.heap.size + 1 + 1) WB) (w.heap.size + 1) (rL_ c' B1 j1 B2 j2) (fun _ => .inl rfl)).setRow (w.heap.size + 1 + 1) rZR_ (fun _ => .inr rfl))
  generalize World.setRow _ _ _ = WC at BZN BRN HFRN FN ⊢
  clear BZ BG BR HFR
  go_wp2
  refine bodyPost_ret (results_list (rs := [.cell 4 29, .tmp 5, .cell 6 36, .tmp 7]) rfl (by simp) (.cell (w.heap.size + 1) 29 (rL_ c' B1 j1 B2 j2) (0, 0) _ rfl BZN.out Try.underlying29 rfl (by kernel_rfl) (.tmp (.cell (w.heap.size + 1 + 1) 36 rZR_ (0, 0) _ rfl BRN.out Try.underlying36 rfl (by kernel_rfl) (.tmp .nil))))) rfl ?_
  rw [HV.out]
  have hs := HS1.out
  have hw : ∀ k, W1.heap.size ≤ k ∧ k ≠ g → w.heap.size ≤ k := fun k hk => by omega
  have hk : ∀ k, W1.heap.size ≤ k ∧ k ≠ g → k < WB.heap.size → WC.heap[k]? = WB.heap[k]? := fun k hk hlt => FN.out.block k hlt (by omega)
  exact ⟨B1, j1, B2, j2, B3, j3, none, 0, rfl, ⟨Kd.F_mono (Kd.F_step FI.out.2.1 hk) hw, FI.out.1, Kd.F_mono (Kd.F_step FI.out.2.2.2.1 hk) hw, FI.out.2.2.1⟩, ⟨Kd.F_mono (Kd.F_step FI.out.2.2.2.2.2 hk) hw, FI.out.2.2.2.2.1⟩, BodyNew.nil _ _, HFRN.out.below (Nat.le_refl _) (fun _ h => h)⟩
end Go.Proofs.Ytajnladoomkgaaa.Cli
