/- A reply ends a call. -/
import Derived.Test.YtajnladoomkgaaaHlp
namespace Go.Proofs.Ytajnladoomkgaaa.Cli
set_option linter.unusedVariables false
set_option linter.unusedSimpArgs false
open RowOf Go.RowKit Go.Proofs.YtajnladoomkgaaaW.PrintWords Go.Proofs.YtajnladoomkgaaaW.PrintLast Go.Proofs.YtajnladoomkgaaaW.PrintMore Go.Proofs.Ytajnladoomkgaaa.XC
attribute [local go_sem] max2_int min2_int max_two min_two
def tak.T15 : Bool × List (List Nat × List Nat) := (true, [([], []), ([0], [0]), ([1], [1]), ([2], [2]), ([], []), ([3, 0, 1, 2, 3], [3]), ([5, 0, 1, 2, 3, 5], []), ([4, 6, 0, 1, 2, 3, 4, 5, 6], [4]), ([7, 0, 1, 2, 3, 4, 5, 6, 7], [])])
def tak.B15 : List Nat := [0, 1, 3, 7, 0, 15, 47, 127, 255]
theorem tak.tab15 : rtab .any (opsOf Try.f10 15) = tak.T15 := by kernel_rfl
theorem tak.bits15 : waitsOk tak.T15.2 tak.B15 = true := by kernel_rfl
set_option maxHeartbeats 8000000 in
set_option maxRecDepth 100000 in
theorem take_end (c : CliS) (A1 : Option Addr) (k1 : Nat) (A2 : Option Addr) (k2 : Nat) (now : Int) (r : S36) (A : Option Addr) (k : Nat) (w : World) (hc : CliIn w c A1 k1 A2 k2) (h3 : Kd.C (Kd.int .u8) w A r.f8.length r.f8) (hl3 : r.f8.length ≤ k) (hb1 : c.Br.length < 1000000) (hb2 : c.Call.f8.length ≤ 140737488351232) (hb3 : r.f8.length ≤ 140737488351232) (hm : mineB c r = true) (h1 : r.f3 ≠ 1) (h2 : r.f3 ≠ 2) :
    Calls Try.prog 10 #[.agg (rL_ c A1 k1 A2 k2), .int .u64 now, .agg (rR_ r A k)] w (TakePost w (takeC c now r)) := by
  have HV := Aside0.mk (show takeC c now r = ({ c with Busy := 0 }, [], r, true) by unfold takeC; rw [if_pos hm, if_neg (by omega)])
  have HM := Aside0.mk hm
  have t1 : (r.f3 == 1) = false := by simpa using h1
  have t2 : (r.f3 == 2) = false := by simpa using h2
  clear hm h1 h2
  have HCL := Aside0.mk (show slices_Clone_byte_byte.f r.f8 = some r.f8 by unfold slices_Clone_byte_byte.f; rw [if_pos (by omega)])
  have HW1 := Aside0.mk (show (w.alloc (.cells (rL_ c A1 k1 A2 k2) 29)).heap.size = w.heap.size + 1 by simp)
  have HW2 := Aside0.mk (show ((w.alloc (.cells (rL_ c A1 k1 A2 k2) 29)).alloc (.cells (rR_ r A k) 36)).heap.size = w.heap.size + 1 + 1 by simp)
  have HW3 := Aside0.mk (show (((w.alloc (.cells (rL_ c A1 k1 A2 k2) 29)).alloc (.cells (rR_ r A k) 36)).alloc (.cells rZC_ 29)).heap.size = w.heap.size + 1 + 1 + 1 by simp)
  have HB0 := Aside0.mk (below_alloc (below_alloc (below_alloc (below_alloc (Below.refl w.heap.size w) (.cells (rL_ c A1 k1 A2 k2) 29)) (.cells (rR_ r A k) 36)) (.cells rZC_ 29)) (.cells rZR_ 36))
  have BC := Aside0.mk (blk_alloc (blk_alloc (blk_alloc (heap_alloc_new w (.cells (rL_ c A1 k1 A2 k2) 29)) (.cells (rR_ r A k) 36)) (.cells rZC_ 29)) (.cells rZR_ 36))
  have BX := Aside0.mk (HW1.out ▸ blk_alloc (blk_alloc (heap_alloc_new (w.alloc (.cells (rL_ c A1 k1 A2 k2) 29)) (.cells (rR_ r A k) 36)) (.cells rZC_ 29)) (.cells rZR_ 36))
  have BZ := Aside0.mk (HW2.out ▸ blk_alloc (heap_alloc_new ((w.alloc (.cells (rL_ c A1 k1 A2 k2) 29)).alloc (.cells (rR_ r A k) 36)) (.cells rZC_ 29)) (.cells rZR_ 36))
  have BR := Aside0.mk (HW3.out ▸ heap_alloc_new (((w.alloc (.cells (rL_ c A1 k1 A2 k2) 29)).alloc (.cells (rR_ r A k) 36)).alloc (.cells rZC_ 29)) (.cells rZR_ 36))
  have HS1 := Aside0.mk (show ((((w.alloc (.cells (rL_ c A1 k1 A2 k2) 29)).alloc (.cells (rR_ r A k) 36)).alloc (.cells rZC_ 29)).alloc (.cells rZR_ 36)).heap.size = w.heap.size + 4 by simp)
  have HIN := Aside0.mk (hc.below HB0.out)
  have H3 := Aside0.mk (Kd.C_below h3 HB0.out)
  clear hc h3 HW1 HW2 HW3
  go_enter Try.func10, Try.ntmps10
  go_wp2_with (refine wpList_load_row rfl 29 (.tmp 3) rfl w.heap.size (by rfl) 29 (rL_ c A1 k1 A2 k2) (0, 0) _ BC.out Try.underlying29 rfl (by kernel_rfl) ?_)
  generalize World.alloc _ _ = W1 at HB0 BC BX BZ BR HS1 HIN H3 ⊢
  have HWI := Aside0.mk (fun n => with_r c A1 k1 A2 k2 n W1 HIN.out.C1 HIN.out.l1 HIN.out.C2 HIN.out.l2 (by omega) hb2)
  go_wp2_with (first
      | (go_at_call 23; refine (HWI.out _).mono ?_; rintro e W2 ⟨g, rfl, hI, hB⟩; have HI2 := Aside0.mk hI; have HB2 := Aside0.mk hB; clear hI hB HWI; have BX2 := Aside0.mk (blk_below BX.out HB2.out); have BZ2 := Aside0.mk (blk_below BZ.out HB2.out); have BR2 := Aside0.mk (blk_below BR.out HB2.out); have HMI := Aside0.mk (mine_c c _ g _ [] W2 HI2.out r A k); clear BC BX BZ BR)
      | (refine wpList_load_row rfl 36 (.tmp 5) rfl (w.heap.size + 1) (by rfl) 36 (rR_ r A k) (0, 0) _ BX2.out Try.underlying36 rfl (by kernel_rfl) ?_)
      | (go_at_call 26; fail))
  rw [HM.out] at HMI
  have H32 := Aside0.mk (Kd.C_below H3.out HB2.out)
  have HGL := Aside0.mk HI2.out.lt
  have HFR2 := Aside0.mk ((Fr.of_below HB0.out (fun k => w.heap.size ≤ k)).then_ (Fr.of_below HB2.out _))
  have HG := Aside0.mk HI2.out.ge
  have H31 := Aside0.mk H3.out
  clear HIN H3 HB0
  go_wp2_with (first
      | (go_at_call 26; refine HMI.out.mono ?_; rintro e W3 ⟨rfl, hB3⟩; have HI := Aside0.mk (HI2.out.below hB3); have BX := Aside0.mk (blk_below BX2.out hB3); have BZ := Aside0.mk (blk_below BZ2.out hB3); have BR := Aside0.mk (blk_below BR2.out hB3); have HFR := Aside0.mk (HFR2.out.then_ (Fr.of_below hB3 _)); have H3 := Aside0.mk (Kd.C_below H32.out hB3); have HBW := Aside0.mk (below_then HB2.out HB2.out.size hB3); clear hB3 HI2 BX2 BZ2 BR2 HFR2 H32 HMI; have d3f : W3.cell? ⟨w.heap.size + 1, 3, none⟩ = some (.int .i64 r.f3) := (cells_at BX.out rfl).1; have d8f : W3.cell? ⟨w.heap.size + 1, 8, none⟩ = some (.slice A r.f8.length k) := (cells_at BX.out rfl).1; have HC3 := HI.out.cells; obtain ⟨_, _, _, _, _, d4, _, _, _, _, _, _, dz4, _, _⟩ := HC3)
      | (go_at_call 29; fail))
  clear d3f t1 t2
  have HSB := HI.out.setBusy 0
  have HFB := Aside0.mk HSB.2
  have HIB := Aside0.mk HSB.1
  clear HSB HI dz4 d4 d8f
  have HBW2 := Aside0.mk (Below.setCell HBW.out (p := ⟨g, 4, none⟩) HG.out (.int .i64 0))
  have HC8 := Aside0.mk (slices_Clone_byte_byte.calls A k r.f8 r.f8 _ (Kd.C_below H31.out HBW2.out) hl3 HCL.out)
  have BX := Aside0.mk ((HFB.out.block _ (blk_lt BX.out) (show ¬ (w.heap.size + 1 = g) by have := HG.out; have := HS1.out; omega)).trans BX.out)
  have BZ := Aside0.mk ((HFB.out.block _ (blk_lt BZ.out) (show ¬ (w.heap.size + 1 + 1 = g) by have := HG.out; have := HS1.out; omega)).trans BZ.out)
  have BR := Aside0.mk ((HFB.out.block _ (blk_lt BR.out) (show ¬ (w.heap.size + 1 + 1 + 1 = g) by have := HG.out; have := HS1.out; omega)).trans BR.out)
  have HFR := Aside0.mk (HFR.out.then_ (HFB.out.mono (fun k hk => by have := HG.out; have := HS1.out; omega) (S2 := fun k => w.heap.size ≤ k)))
  generalize ({ c with Busy := 0 } : CliS) = c' at HV HIB
  generalize hW4 : World.setCell _ _ _ = W4 at HIB HFB HBW2 HC8 BX BZ BR HFR ⊢
  clear hW4 HFB
  have HSZ := Aside0.mk HBW2.out.size
  have d8 : W4.cell? ⟨w.heap.size + 1, 8, none⟩ = some (.slice A r.f8.length k) := (cells_at BX.out rfl).1
  go_wp2_with (go_at_call 29; refine HC8.out.mono ?_; rintro e W5 ⟨v5, rfl, hR5, hB5⟩; obtain ⟨A5, k5, rfl, hl5, hF5⟩ := R_F0 hR5; have HF5 := Aside0.mk hF5; have HL5 := Aside0.mk hl5; have HI := Aside0.mk (HIB.out.below hB5); have BX5 := Aside0.mk (blk_below BX.out hB5); have BZ5 := Aside0.mk (blk_below BZ.out hB5); have BR5 := Aside0.mk (blk_below BR.out hB5); have HFR5 := Aside0.mk (HFR.out.then_ (Fr.of_below hB5 _)); clear hR5 hB5 hF5 hl5 HIB BX BZ BR HFR HC8 d8; have d8 : W5.cell? ⟨w.heap.size + 1, 8, none⟩ = some (.slice A r.f8.length k) := (cells_at BX5.out rfl).1; have z8 := blk_frozen BX5.out 8)
  clear d8 z8
  have bq := blk_set BX5.out 8 (.slice A5 r.f8.length k5)
  simp only [List.setIfInBounds_toArray, List.set_cons_zero, List.set_cons_succ] at bq
  have BX := Aside0.mk (show _ = some (Obj.cells (rR_ r A5 k5) 36 (0, 0)) from bq)
  clear bq
  have FX := Aside0.mk (Fr.setCell (Fr.refl (fun k => k = w.heap.size + 1) W5) (p := ⟨w.heap.size + 1, 8, none⟩) (fun _ => rfl) (.slice A5 r.f8.length k5))
  have BZ := Aside0.mk (blk_far BZ5.out (p := ⟨w.heap.size + 1, 8, none⟩) (show w.heap.size + 1 + 1 ≠ w.heap.size + 1 by omega) (.slice A5 r.f8.length k5))
  have BR := Aside0.mk (blk_far BR5.out (p := ⟨w.heap.size + 1, 8, none⟩) (show w.heap.size + 1 + 1 + 1 ≠ w.heap.size + 1 by omega) (.slice A5 r.f8.length k5))
  have HFR := Aside0.mk (HFR5.out.setCell (p := ⟨w.heap.size + 1, 8, none⟩) (fun h => by show w.heap.size ≤ w.heap.size + 1; omega) (.slice A5 r.f8.length k5))
  have HI := Aside0.mk (HI.out.fr FX.out (fun k hk => by have := HS1.out; omega))
  have HF5 := Aside0.mk (Kd.F_step HF5.out (W1 := W5.setCell ⟨w.heap.size + 1, 8, none⟩ (.slice A5 r.f8.length k5)) (fun k hk hlt => FX.out.block k hlt (by have := HS1.out; have := HSZ.out; omega)))
  clear FX BX5 BZ5 BR5 HFR5
  generalize World.setCell _ _ _ = W6 at BX BZ BR HFR HI HF5 ⊢
  obtain ⟨s', hs'⟩ : ∃ s' : List S48, s' = [] := ⟨_, rfl⟩
  rw [← hs'] at HI HV
  have HS' := Aside0.mk hs'
  clear hs'

  obtain ⟨B1, j1, B2, j2, B3, j3, hb, m1, f1, m2, f2, m3, f3, hg⟩ := HI.out.blk
  have BG := Aside0.mk hb
  have FI := Aside0.mk (And.intro m1 (And.intro f1 (And.intro m2 (And.intro f2 (And.intro m3 f3)))))
  clear hb m1 f1 m2 f2 m3 f3 hg HI

  have dg : W6.heap[g]? = some (.cells #[.int .i64 c'.Id, .int .u64 c'.Inc, .int .u64 c'.N, .slice B1 c'.Br.length j1, .int .i64 c'.Busy, .int .i64 c'.Call.f0, .int .u64 c'.Call.f1, .int .u64 c'.Call.f2, .int .i64 c'.Call.f3, .int .i64 c'.Call.f4, .int .i64 c'.Call.f5, .int .u64 c'.Call.f6, .int .u64 c'.Call.f7, .slice B2 c'.Call.f8.length j2, .int .i64 c'.At, .int .u64 c'.Born, .int .u64 c'.Since, .int .u64 now, .slice B3 s'.length j3] 66 (0, 0)) := BG.out
  have dx : W6.heap[w.heap.size + 1]? = some (.cells (rR_ r A5 k5) 36 (0, 0)) := BX.out
  refine start_ (n := 9) (S := fun w' => w'.heap[g]? = some (.cells #[.int .i64 c'.Id, .int .u64 c'.Inc, .int .u64 c'.N, .slice B1 c'.Br.length j1, .int .i64 c'.Busy, .int .i64 c'.Call.f0, .int .u64 c'.Call.f1, .int .u64 c'.Call.f2, .int .i64 c'.Call.f3, .int .i64 c'.Call.f4, .int .i64 c'.Call.f5, .int .u64 c'.Call.f6, .int .u64 c'.Call.f7, .slice B2 c'.Call.f8.length j2, .int .i64 c'.At, .int .u64 c'.Born, .int .u64 c'.Since, .int .u64 now, .slice B3 s'.length j3] 66 (0, 0)) ∧ w'.heap[w.heap.size + 1]? = some (.cells (rR_ r A5 k5) 36 (0, 0))) (ds := []) #[false, false, false, false, false, false, false, false, false] (by kernel_rfl) rfl rfl ⟨dg, dx⟩ (fun hHeld => ?_)
  refine with_tabW tak.tab15 tak.bits15 (fun HT_ HW_ => ?_)
  have BZ := Aside0.mk (blk_drew BZ.out)
  have BR := Aside0.mk (blk_drew BR.out)
  have HFR := Aside0.mk HFR.out.drew
  have HF5 := Aside0.mk (Kd.F_drew HF5.out)
  have FI := Aside0.mk (And.intro FI.out.1 (And.intro (Kd.F_drew FI.out.2.1) (And.intro FI.out.2.2.1 (And.intro (Kd.F_drew FI.out.2.2.2.1) (And.intro FI.out.2.2.2.2.1 (Kd.F_drew FI.out.2.2.2.2.2))))))
  clear dg dx
  generalize World.drew _ = WB at BZ BR HFR HF5 FI hHeld ⊢
  -- 0: Op.move
  refine pure_ (i := 0) (N := some 75) (v := ?_) (a' := ?_) #[true, false, false, false, false, false, false, false, false] rfl rfl (any_of HT_.out (by kernel_rfl)) (fun _ _ _ h => h) (Or.inl ⟨by rfl, ?_⟩) ?_ ?_
  rotate_left; (intro w'; go_simp; with_reducible rfl); rotate_left; (simp only [Act.put, List.setIfInBounds_toArray, List.set_cons_zero, List.set_cons_succ, i64_w, i32_w]; rfl)
  -- 1: Op.nilCheck
  refine pure_ (i := 1) (N := some 76) (v := ?_) (a' := ?_) #[true, true, false, false, false, false, false, false, false] rfl rfl (any_of HT_.out (by kernel_rfl)) (fun _ _ _ h => h) (Or.inl ⟨by rfl, ?_⟩) ?_ ?_
  rotate_left; (intro w'; go_simp; with_reducible rfl); rotate_left; (simp only [Act.put, List.setIfInBounds_toArray, List.set_cons_zero, List.set_cons_succ, i64_w, i32_w]; rfl)
  -- 2: Op.fieldAddr
  refine pure_ (i := 2) (N := some 77) (v := ?_) (a' := ?_) #[true, true, true, false, false, false, false, false, false] rfl rfl (any_of HT_.out (by kernel_rfl)) (fun _ _ _ h => h) (Or.inl ⟨by rfl, ?_⟩) ?_ ?_
  rotate_left; (intro w'; go_simp; with_reducible rfl); rotate_left; (simp only [Act.put, List.setIfInBounds_toArray, List.set_cons_zero, List.set_cons_succ, i64_w, i32_w]; rfl)
  -- 3: Op.load
  refine take_ (i := 3) (N := some 78) (a' := ?_) #[true, true, true, true, false, false, false, false, false] rfl rfl (take_ofW HT_.out HW_.out (by kernel_rfl)) (fun _ _ _ h => h) (yieldsIf_load_mid (by rfl) 29 (.tmp 77) rfl g 0 (by rfl) (rM_ c' B1 j1 B2 j2) _ (fun w' s => blk_range s.1 0 _ rfl) Try.underlying29 rfl (by kernel_rfl)) hHeld ?_ ?_
  rotate_left
  · simp only [Act.put, List.setIfInBounds_toArray, List.set_cons_zero, List.set_cons_succ, List.toArray, i64_w, i32_w]
    rfl
  -- 4: Op.load
  refine take_ (i := 4) (N := some 79) (a' := ?_) #[true, true, true, true, true, false, false, false, false] rfl rfl (take_ofW HT_.out HW_.out (by kernel_rfl)) (fun _ _ _ h => h) (yieldsIf_load_mid (by rfl) 36 (.tmp 5) rfl (w.heap.size + 1) 0 (by rfl) [.int .i64 r.f0, .int .u64 r.f1, .int .u64 r.f2, .int .i64 r.f3, .int .u64 r.f4, .int .i64 r.f5, .int .i64 r.f6, .int .u64 r.f7, .slice A5 r.f8.length k5] _ (fun w' s => blk_range s.2 0 _ rfl) Try.underlying36 rfl (by kernel_rfl)) hHeld ?_ ?_
  rotate_left
  · simp only [Act.put, List.setIfInBounds_toArray, List.set_cons_zero, List.set_cons_succ, List.toArray, i64_w, i32_w]
    rfl
  -- 5: Op.store
  refine one_ (i := 5) (N := none) #[true, true, true, true, true, true, false, false, false] rfl rfl (one_of HT_.out (by kernel_rfl)) (by decide) (fun K hK => ?_)
  refine row_ 29 (.tmp 6) (.tmp 78) (w.heap.size + 1 + 1) (rL_ c' B1 j1 B2 j2) 29 rZC_ (by rfl) rfl rfl (by rfl) (by rfl) BZ.out (by kernel_rfl) (by rfl) (by kernel_rfl) ?_
  refine hK.out _ _ ⟨(setRow_other _ _ _ _ (by have := HG.out; have := HS1.out; omega)).trans hHeld.1, (setRow_other _ _ _ _ (by omega)).trans hHeld.2⟩ (fun hHeld => ?_)
  clear hK K
  -- 6: Op.assign
  refine pure_ (i := 6) (N := some 7) (v := ?_) (a' := ?_) #[true, true, true, true, true, true, true, false, false] rfl rfl (any_of HT_.out (by kernel_rfl)) (fun _ _ _ h => h) (Or.inl ⟨by rfl, ?_⟩) ?_ ?_
  rotate_left; (intro w'; go_simp; with_reducible rfl); rotate_left; (simp only [Act.put, List.setIfInBounds_toArray, List.set_cons_zero, List.set_cons_succ, i64_w, i32_w]; rfl)
  -- 7: Op.store
  refine one_ (i := 7) (N := none) #[true, true, true, true, true, true, true, true, false] rfl rfl (one_of HT_.out (by kernel_rfl)) (by decide) (fun K hK => ?_)
  refine row_ 36 (.tmp 8) (.tmp 79) (w.heap.size + 1 + 1 + 1) (rR_ r A5 k5) 36 rZR_ (by rfl) rfl rfl (by rfl) (by rfl) (blk_row_far BR.out (rL_ c' B1 j1 B2 j2) (show w.heap.size + 1 + 1 + 1 ≠ w.heap.size + 1 + 1 by omega)) (by kernel_rfl) (by rfl) (by kernel_rfl) ?_
  refine hK.out _ _ ⟨(setRow_other _ _ _ _ (by have := HG.out; have := HS1.out; omega)).trans hHeld.1, (setRow_other _ _ _ _ (by omega)).trans hHeld.2⟩ (fun hHeld => ?_)
  clear hK K
  -- 8: Op.assign
  refine pure_ (i := 8) (N := some 9) (v := ?_) (a' := ?_) #[true, true, true, true, true, true, true, true, true] rfl rfl (any_of HT_.out (by kernel_rfl)) (fun _ _ _ h => h) (Or.inl ⟨by rfl, ?_⟩) ?_ ?_
  rotate_left; (intro w'; go_simp; with_reducible rfl); rotate_left; (simp only [Act.put, List.setIfInBounds_toArray, List.set_cons_zero, List.set_cons_succ, i64_w, i32_w]; rfl)
  refine done_ (done_of HT_.out (by kernel_rfl)) ?_
  clear HT_ HW_ hHeld

  have BZN := Aside0.mk (blk_row_far (blk_row BZ.out (rL_ c' B1 j1 B2 j2)) (rR_ r A5 k5) (show w.heap.size + 1 + 1 ≠ w.heap.size + 1 + 1 + 1 by omega))
  have BRN := Aside0.mk (blk_row (blk_row_far BR.out (rL_ c' B1 j1 B2 j2) (show w.heap.size + 1 + 1 + 1 ≠ w.heap.size + 1 + 1 by omega)) (rR_ r A5 k5))
  have HFRN := Aside0.mk ((HFR.out.setRow (w.heap.size + 1 + 1) (rL_ c' B1 j1 B2 j2) (fun h => by omega)).setRow (w.heap.size + 1 + 1 + 1) (rR_ r A5 k5) (fun h => by omega))
  have FN := Aside0.mk ((Fr.setRow (Fr.refl (fun k => k = w.heap.size + 1 + 1 ∨ k = w.heap.size + 1 + 1 + 1) WB) (w.heap.size + 1 + 1) (rL_ c' B1 j1 B2 j2) (fun _ => .inl rfl)).setRow (w.heap.size + 1 + 1 + 1) (rR_ r A5 k5) (fun _ => .inr rfl))
  generalize World.setRow _ _ _ = WC at BZN BRN HFRN FN ⊢
  clear BZ BG BR HFR
  go_wp2
  refine bodyPost_ret (results_list (rs := [.cell 6 29, .tmp 7, .cell 8 36, .tmp 9]) rfl (by simp) (.cell (w.heap.size + 1 + 1) 29 (rL_ c' B1 j1 B2 j2) (0, 0) _ rfl BZN.out Try.underlying29 rfl (by kernel_rfl) (.tmp (.cell (w.heap.size + 1 + 1 + 1) 36 (rR_ r A5 k5) (0, 0) _ rfl BRN.out Try.underlying36 rfl (by kernel_rfl) (.tmp .nil))))) rfl ?_
  rw [HV.out, HS'.out]
  have hs := HS1.out
  have hw : ∀ k, W1.heap.size ≤ k ∧ k ≠ g → w.heap.size ≤ k := fun k hk => by omega
  have hk : ∀ k, W1.heap.size ≤ k ∧ k ≠ g → k < WB.heap.size → WC.heap[k]? = WB.heap[k]? := fun k hk hlt => FN.out.block k hlt (by omega)
  exact ⟨B1, j1, B2, j2, none, 0, A5, k5, rfl, ⟨Kd.F_mono (Kd.F_step FI.out.2.1 hk) hw, FI.out.1, Kd.F_mono (Kd.F_step FI.out.2.2.2.1 hk) hw, FI.out.2.2.1⟩, SentNew.nil _ _, ⟨Kd.F_mono (Kd.F_step HF5.out (W1 := WC) (fun k hk hlt => FN.out.block k hlt (by have := HSZ.out; omega))) (fun k hk => by have := HSZ.out; omega), HL5.out⟩, HFRN.out.below (Nat.le_refl _) (fun _ h => h)⟩
end Go.Proofs.Ytajnladoomkgaaa.Cli
