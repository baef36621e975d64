/- A reply sends elsewhere. -/
import Derived.Test.YtajnladoomkgaaaHlp
namespace Go.Proofs.Ytajnladoomkgaaa.Cli
set_option linter.unusedVariables false
set_option linter.unusedSimpArgs false
open RowOf Go.RowKit Go.Proofs.YtajnladoomkgaaaW.PrintWords Go.Proofs.YtajnladoomkgaaaW.PrintLast Go.Proofs.YtajnladoomkgaaaW.PrintMore Go.Proofs.Ytajnladoomkgaaa.XC
attribute [local go_sem] max2_int min2_int max_two min_two
def tak.T7 : Bool × List (List Nat × List Nat) := (true, [([], []), ([0], [0]), ([1], [1]), ([2], [2]), ([3], [3]), ([], []), ([5], [5]), ([4, 6], [4, 6]), ([7, 7, 0, 1, 2, 3, 4, 5, 6, 7], [7])])
def tak.B7 : List Nat := [0, 1, 3, 7, 15, 0, 32, 127, 255]
theorem tak.tab7 : rtab .any (opsOf Try.f10 7) = tak.T7 := by kernel_rfl
theorem tak.bits7 : waitsOk tak.T7.2 tak.B7 = true := by kernel_rfl
def tak.T12 : Bool × List (List Nat × List Nat) := (true, [([], []), ([0], [0]), ([1], [1]), ([2], [2]), ([], []), ([4], [4]), ([5], [5]), ([6], [6]), ([], []), ([3, 0, 1, 2, 3], [3]), ([7, 9, 0, 1, 2, 3, 4, 5, 6, 7, 9], [7]), ([8, 10, 0, 1, 2, 3, 4, 5, 6, 7, 8, 9, 10], [8]), ([11, 0, 1, 2, 3, 4, 5, 6, 7, 8, 9, 10, 11], [])])
def tak.B12 : List Nat := [0, 1, 3, 7, 0, 16, 48, 112, 0, 15, 767, 2047, 4095]
theorem tak.tab12 : rtab .any (opsOf Try.f10 12) = tak.T12 := by kernel_rfl
theorem tak.bits12 : waitsOk tak.T12.2 tak.B12 = true := by kernel_rfl
set_option maxHeartbeats 8000000 in
set_option maxRecDepth 100000 in
theorem take_ask1 (c : CliS) (A1 : Option Addr) (k1 : Nat) (A2 : Option Addr) (k2 : Nat) (now : Int) (r : S36) (A : Option Addr) (k : Nat) (w : World) (hc : CliIn w c A1 k1 A2 k2) (h3 : Kd.C (Kd.int .u8) w A r.f8.length r.f8) (hl3 : r.f8.length ≤ k) (hb1 : c.Br.length < 1000000) (hb2 : c.Call.f8.length ≤ 140737488351232) (hb3 : r.f8.length ≤ 140737488351232) (hm : mineB c r = true) (hr : r.f3 = 1) (hi : 0 ≤ idxI c.Br r.f5 ∧ idxI c.Br r.f5 ≠ c.At) :
    Calls Try.prog 10 #[.agg (rL_ c A1 k1 A2 k2), .int .u64 now, .agg (rR_ r A k)] w (TakePost w (takeC c now r)) := by
  have HV := Aside0.mk (show takeC c now r = ((askC { c with At := idxI c.Br r.f5 } now).1, (askC { c with At := idxI c.Br r.f5 } now).2, z36, false) by unfold takeC; rw [if_pos hm, if_pos (by omega), if_pos hi])
  have HM := Aside0.mk hm
  have HR3 := Aside0.mk hr
  have HIX := Aside0.mk hi
  clear hm hr hi
  have HW1 := Aside0.mk (show (w.alloc (.cells (rL_ c A1 k1 A2 k2) 29)).heap.size = w.heap.size + 1 by simp)
  have HW2 := Aside0.mk (show ((w.alloc (.cells (rL_ c A1 k1 A2 k2) 29)).alloc (.cells (rR_ r A k) 36)).heap.size = w.heap.size + 1 + 1 by simp)
  have HW3 := Aside0.mk (show (((w.alloc (.cells (rL_ c A1 k1 A2 k2) 29)).alloc (.cells (rR_ r A k) 36)).alloc (.cells rZC_ 29)).heap.size = w.heap.size + 1 + 1 + 1 by simp)
  have HB0 := Aside0.mk (below_alloc (below_alloc (below_alloc (below_alloc (Below.refl w.heap.size w) (.cells (rL_ c A1 k1 A2 k2) 29)) (.cells (rR_ r A k) 36)) (.cells rZC_ 29)) (.cells rZR_ 36))
  have BC := Aside0.mk (blk_alloc (blk_alloc (blk_alloc (heap_alloc_new w (.cells (rL_ c A1 k1 A2 k2) 29)) (.cells (rR_ r A k) 36)) (.cells rZC_ 29)) (.cells rZR_ 36))
  have BX := Aside0.mk (HW1.out ▸ blk_alloc (blk_alloc (heap_alloc_new (w.alloc (.cells (rL_ c A1 k1 A2 k2) 29)) (.cells (rR_ r A k) 36)) (.cells rZC_ 29)) (.cells rZR_ 36))
  have BZ := Aside0.mk (HW2.out ▸ blk_alloc (heap_alloc_new ((w.alloc (.cells (rL_ c A1 k1 A2 k2) 29)).alloc (.cells (rR_ r A k) 36)) (.cells rZC_ 29)) (.cells rZR_ 36))
  have BR := Aside0.mk (HW3.out ▸ heap_alloc_new (((w.alloc (.cells (rL_ c A1 k1 A2 k2) 29)).alloc (.cells (rR_ r A k) 36)).alloc (.cells rZC_ 29)) (.cells rZR_ 36))
  have HS1 := Aside0.mk (show ((((w.alloc (.cells (rL_ c A1 k1 A2 k2) 29)).alloc (.cells (rR_ r A k) 36)).alloc (.cells rZC_ 29)).alloc (.cells rZR_ 36)).heap.size = w.heap.size + 4 by simp)
  have HIN := Aside0.mk (hc.below HB0.out)
  have H3 := Aside0.mk (Kd.C_below h3 HB0.out)
  clear hc h3 HW1 HW2 HW3
  go_enter Try.func10, Try.ntmps10
  go_wp2_with (refine wpList_load_row rfl 29 (.tmp 3) rfl w.heap.size (by rfl) 29 (rL_ c A1 k1 A2 k2) (0, 0) _ BC.out Try.underlying29 rfl (by kernel_rfl) ?_)
  generalize World.alloc _ _ = W1 at HB0 BC BX BZ BR HS1 HIN H3 ⊢
  have HWI := Aside0.mk (fun n => with_r c A1 k1 A2 k2 n W1 HIN.out.C1 HIN.out.l1 HIN.out.C2 HIN.out.l2 (by omega) hb2)
  go_wp2_with (first
      | (go_at_call 23; refine (HWI.out _).mono ?_; rintro e W2 ⟨g, rfl, hI, hB⟩; have HI2 := Aside0.mk hI; have HB2 := Aside0.mk hB; clear hI hB HWI; have BX2 := Aside0.mk (blk_below BX.out HB2.out); have BZ2 := Aside0.mk (blk_below BZ.out HB2.out); have BR2 := Aside0.mk (blk_below BR.out HB2.out); have HMI := Aside0.mk (mine_c c _ g _ [] W2 HI2.out r A k); clear BC BX BZ BR)
      | (refine wpList_load_row rfl 36 (.tmp 5) rfl (w.heap.size + 1) (by rfl) 36 (rR_ r A k) (0, 0) _ BX2.out Try.underlying36 rfl (by kernel_rfl) ?_)
      | (go_at_call 26; fail))
  rw [HM.out] at HMI
  have H32 := Aside0.mk (Kd.C_below H3.out HB2.out)
  have HGL := Aside0.mk HI2.out.lt
  have HFR2 := Aside0.mk ((Fr.of_below HB0.out (fun k => w.heap.size ≤ k)).then_ (Fr.of_below HB2.out _))
  have HG := Aside0.mk HI2.out.ge
  clear HIN H3 HB0
  have t1 : (r.f3 == 1) = true := by rw [HR3.out]; rfl
  go_wp2_with (first
      | (go_at_call 26; refine HMI.out.mono ?_; rintro e W3 ⟨rfl, hB3⟩; have HI := Aside0.mk (HI2.out.below hB3); have BX := Aside0.mk (blk_below BX2.out hB3); have BZ := Aside0.mk (blk_below BZ2.out hB3); have BR := Aside0.mk (blk_below BR2.out hB3); have HFR := Aside0.mk (HFR2.out.then_ (Fr.of_below hB3 _)); have H3 := Aside0.mk (Kd.C_below H32.out hB3); clear hB3 HI2 BX2 BZ2 BR2 HFR2 H32 HMI; have d3f : W3.cell? ⟨w.heap.size + 1, 3, none⟩ = some (.int .i64 r.f3) := (cells_at BX.out rfl).1))
  clear d3f
  have HBG := Aside0.mk hb1
  obtain ⟨C1, i1, d3, d14, dz, _, _, _, _, _, _, _, d4, _, _⟩ := HI.out.cells
  have d5 : W3.cell? ⟨w.heap.size + 1, 5, none⟩ = some (.int .i64 r.f5) := (cells_at BX.out rfl).1
  clear BX H3
  refine start_ (n := 9) (S := fun w' => w'.cell? ⟨g, 3, none⟩ = some (.slice C1 c.Br.length i1) ∧ w'.cell? ⟨w.heap.size + 1, 5, none⟩ = some (.int .i64 r.f5)) (ds := []) #[false, false, false, false, false, false, false, false, false] (by kernel_rfl) rfl rfl ⟨d3, d5⟩ (fun hHeld => ?_)
  refine with_tabW tak.tab7 tak.bits7 (fun HT_ HW_ => ?_)
  have HI := Aside0.mk (HI.out.fr ((Fr.refl (fun _ => False) W3).drew) (fun _ h => h.elim))
  have BZ := Aside0.mk (blk_drew BZ.out)
  have BR := Aside0.mk (blk_drew BR.out)
  have HFR := Aside0.mk HFR.out.drew
  clear d3 d5 d14 dz d4
  generalize W3.drew = W4 at HI BZ BR HFR hHeld ⊢
  obtain ⟨C1', i1', q3, q14, qz, _, _, _, _, _, _, _, _, lb, CB⟩ := HI.out.cells
  obtain ⟨rfl, rfl⟩ : C1 = C1' ∧ i1 = i1' := by
    have h1 := hHeld.1
    rw [q3] at h1
    injection h1 with h1
    injection h1 with h1 _ h2
    exact ⟨h1.symm, h2.symm⟩
  have HCB := Aside0.mk CB
  have hlb := Aside0.mk lb
  clear q3 q14 qz lb CB
  -- 0: Op.move
  refine pure_ (i := 0) (N := some 30) (v := ?_) (a' := ?_) #[true, false, false, false, false, false, false, false, false] rfl rfl (any_of HT_.out (by kernel_rfl)) (fun _ _ _ h => h) (Or.inl ⟨by rfl, ?_⟩) ?_ ?_
  rotate_left; (intro w'; go_simp; with_reducible rfl); rotate_left; (simp only [Act.put, List.setIfInBounds_toArray, List.set_cons_zero, List.set_cons_succ, i64_w, i32_w]; rfl)
  -- 1: Op.nilCheck
  refine pure_ (i := 1) (N := some 31) (v := ?_) (a' := ?_) #[true, true, false, false, false, false, false, false, false] rfl rfl (any_of HT_.out (by kernel_rfl)) (fun _ _ _ h => h) (Or.inl ⟨by rfl, ?_⟩) ?_ ?_
  rotate_left; (intro w'; go_simp; with_reducible rfl); rotate_left; (simp only [Act.put, List.setIfInBounds_toArray, List.set_cons_zero, List.set_cons_succ, i64_w, i32_w]; rfl)
  -- 2: Op.fieldAddr
  refine pure_ (i := 2) (N := some 32) (v := ?_) (a' := ?_) #[true, true, true, false, false, false, false, false, false] rfl rfl (any_of HT_.out (by kernel_rfl)) (fun _ _ _ h => h) (Or.inl ⟨by rfl, ?_⟩) ?_ ?_
  rotate_left; (intro w'; go_simp; with_reducible rfl); rotate_left; (simp only [Act.put, List.setIfInBounds_toArray, List.set_cons_zero, List.set_cons_succ, i64_w, i32_w]; rfl)
  -- 3: Op.fieldAddr
  refine pure_ (i := 3) (N := some 33) (v := ?_) (a' := ?_) #[true, true, true, true, false, false, false, false, false] rfl rfl (any_of HT_.out (by kernel_rfl)) (fun _ _ _ h => h) (Or.inl ⟨by rfl, ?_⟩) ?_ ?_
  rotate_left; (intro w'; go_simp; with_reducible rfl); rotate_left; (simp only [Act.put, List.setIfInBounds_toArray, List.set_cons_zero, List.set_cons_succ, i64_w, i32_w]; rfl)
  -- 5: Op.fieldAddr
  refine pure_ (i := 5) (N := some 35) (v := ?_) (a' := ?_) #[true, true, true, true, false, true, false, false, false] rfl rfl (any_of HT_.out (by kernel_rfl)) (fun _ _ _ h => h) (Or.inl ⟨by rfl, ?_⟩) ?_ ?_
  rotate_left; (intro w'; go_simp; with_reducible rfl); rotate_left; (simp only [Act.put, List.setIfInBounds_toArray, List.set_cons_zero, List.set_cons_succ, i64_w, i32_w]; rfl)
  -- 4: Op.load
  refine take_ (i := 4) (N := some 34) (v := ?_) (a' := ?_) #[true, true, true, true, true, true, false, false, false] rfl rfl (take_ofW HT_.out HW_.out (by kernel_rfl)) (fun _ _ _ h => h) (Or.inl ⟨by rfl, ?_⟩) hHeld ?_ ?_
  rotate_left; (rintro w' ⟨s0, s1⟩; go_simp; with_reducible rfl); rotate_left; (simp only [Act.put, List.setIfInBounds_toArray, List.set_cons_zero, List.set_cons_succ, i64_w, i32_w]; rfl)
  -- 6: Op.load
  refine take_ (i := 6) (N := some 36) (v := ?_) (a' := ?_) #[true, true, true, true, true, true, true, false, false] rfl rfl (take_ofW HT_.out HW_.out (by kernel_rfl)) (fun _ _ _ h => h) (Or.inl ⟨by rfl, ?_⟩) hHeld ?_ ?_
  rotate_left; (rintro w' ⟨s0, s1⟩; go_simp; with_reducible rfl); rotate_left; (simp only [Act.put, List.setIfInBounds_toArray, List.set_cons_zero, List.set_cons_succ, i64_w, i32_w]; rfl)
  -- 7: Op.call
  refine one_ (i := 7) (N := some 37) #[true, true, true, true, true, true, true, true, false] rfl rfl (one_of HT_.out (by kernel_rfl)) (by decide) (fun K hK => ?_)
  refine goes_ Try.func27 (by kernel_rfl) rfl #[.slice C1 c.Br.length i1, .int .i64 r.f5] (by rfl) rfl rfl (by (try simp only [List.map_toArray, List.map_cons, List.map_nil]); first | done | rfl) ?_
  refine (slices_Index_int_int.calls (c.Br.length + 1) C1 i1 c.Br r.f5 (idxI c.Br r.f5) W4 HCB.out hlb.out (idx_f c.Br r.f5 HBG.out)).mono ?_
  rintro e W5 ⟨rfl, hD⟩
  refine ⟨_, rfl, ?_⟩
  have HD5 := Aside0.mk (Drawn0.below hD)
  have d3 := pw_cell_below HD5.out hHeld.1
  have d5 := pw_cell_below HD5.out hHeld.2
  refine hK.out _ _ ⟨d3, d5⟩ (fun hHeld => ?_)
  clear d3 d5 hD
  clear hK K
  refine norm_ (a' := ?_) ?_ ?_
  rotate_left; (show Act.put _ (some 37) _ = _; simp only [Act.put, List.setIfInBounds_toArray, List.set_cons_zero, List.set_cons_succ, i64_w, i32_w]; rfl)
  -- 8: Op.assign
  refine pure_ (i := 8) (N := some 11) (v := ?_) (a' := ?_) #[true, true, true, true, true, true, true, true, true] rfl rfl (any_of HT_.out (by kernel_rfl)) (fun _ _ _ h => h) (Or.inl ⟨by rfl, ?_⟩) ?_ ?_
  rotate_left; (intro w'; go_simp; with_reducible rfl); rotate_left; (simp only [Act.put, List.setIfInBounds_toArray, List.set_cons_zero, List.set_cons_succ, i64_w, i32_w]; rfl)
  refine done_ (done_of HT_.out (by kernel_rfl)) ?_
  clear HT_ HW_ hHeld HCB hlb
  have HI := Aside0.mk (HI.out.below HD5.out)
  have BZ := Aside0.mk (blk_below BZ.out HD5.out)
  have BR := Aside0.mk (blk_below BR.out HD5.out)
  have HFR := Aside0.mk (HFR.out.then_ (Fr.of_below HD5.out _))
  obtain ⟨_, _, _, d14, dz, _, _, _, _, _, _, _, _, _, _⟩ := HI.out.cells
  clear HD5

  have t3 : decide (0 ≤ idxI c.Br r.f5) = true := by simpa using HIX.out.1
  have t4 : (idxI c.Br r.f5 != c.At) = true := by simpa using HIX.out.2
  have HBL := Aside0.mk hb2
  generalize idxI c.Br r.f5 = ix at t3 t4 HV ⊢
  have HSA := HI.out.setAt0 ix
  have HASK := Aside0.mk (ask_c { c with At := ix } W1.heap.size g now _ HSA.1 HBG.out HBL.out)
  have HKA := Aside0.mk HSA.2
  clear HSA HI
  generalize hq : askC { c with At := ix } now = q at HASK HV
  obtain ⟨c', s'⟩ := q
  clear hq
  go_wp2_with (go_at_call 25; refine HASK.out.mono ?_; rintro e WA ⟨rfl, hI, hK⟩; have HI := Aside0.mk hI; have HKB := Aside0.mk (HKA.out.then_ hK); clear hI hK HASK)
  have HFR := Aside0.mk (HFR.out.then_ (HKB.out.mono (fun k hk => by have := HG.out; have := HS1.out; omega) (S2 := fun k => w.heap.size ≤ k)))
  have BZ := Aside0.mk ((HKB.out.block _ (blk_lt BZ.out) (show ¬ (w.heap.size + 1 + 1 = g) by have := HG.out; have := HS1.out; omega)).trans BZ.out)
  have BR := Aside0.mk ((HKB.out.block _ (blk_lt BR.out) (show ¬ (w.heap.size + 1 + 1 + 1 = g) by have := HG.out; have := HS1.out; omega)).trans BR.out)
  clear HKA HKB t3 t4 dz d14

  obtain ⟨B1, j1, B2, j2, B3, j3, hb, m1, f1, m2, f2, m3, f3, hg⟩ := HI.out.blk
  have BG := Aside0.mk hb
  have FI := Aside0.mk (And.intro m1 (And.intro f1 (And.intro m2 (And.intro f2 (And.intro m3 f3)))))
  clear hb m1 f1 m2 f2 m3 f3 hg HI

  have dg : WA.heap[g]? = some (.cells #[.int .i64 c'.Id, .int .u64 c'.Inc, .int .u64 c'.N, .slice B1 c'.Br.length j1, .int .i64 c'.Busy, .int .i64 c'.Call.f0, .int .u64 c'.Call.f1, .int .u64 c'.Call.f2, .int .i64 c'.Call.f3, .int .i64 c'.Call.f4, .int .i64 c'.Call.f5, .int .u64 c'.Call.f6, .int .u64 c'.Call.f7, .slice B2 c'.Call.f8.length j2, .int .i64 c'.At, .int .u64 c'.Born, .int .u64 c'.Since, .int .u64 now, .slice B3 s'.length j3] 66 (0, 0)) := BG.out
  have d18 : WA.cell? ⟨g, 18, none⟩ = some (.slice B3 s'.length j3) := (cells_at BG.out rfl).1
  refine start_ (n := 13) (S := fun w' => w'.heap[g]? = some (.cells #[.int .i64 c'.Id, .int .u64 c'.Inc, .int .u64 c'.N, .slice B1 c'.Br.length j1, .int .i64 c'.Busy, .int .i64 c'.Call.f0, .int .u64 c'.Call.f1, .int .u64 c'.Call.f2, .int .i64 c'.Call.f3, .int .i64 c'.Call.f4, .int .i64 c'.Call.f5, .int .u64 c'.Call.f6, .int .u64 c'.Call.f7, .slice B2 c'.Call.f8.length j2, .int .i64 c'.At, .int .u64 c'.Born, .int .u64 c'.Since, .int .u64 now, .slice B3 s'.length j3] 66 (0, 0)) ∧ w'.cell? ⟨g, 18, none⟩ = some (.slice B3 s'.length j3)) (ds := []) #[false, false, false, false, false, false, false, false, false, false, false, false, false] (by kernel_rfl) rfl rfl ⟨dg, d18⟩ (fun hHeld => ?_)
  refine with_tabW tak.tab12 tak.bits12 (fun HT_ HW_ => ?_)
  have BZ := Aside0.mk (blk_drew BZ.out)
  have BR := Aside0.mk (blk_drew BR.out)
  have BG := Aside0.mk (blk_drew BG.out)
  have HFR := Aside0.mk HFR.out.drew
  have FI := Aside0.mk (And.intro FI.out.1 (And.intro (Kd.F_drew FI.out.2.1) (And.intro FI.out.2.2.1 (And.intro (Kd.F_drew FI.out.2.2.2.1) (And.intro FI.out.2.2.2.2.1 (Kd.F_drew FI.out.2.2.2.2.2))))))
  clear dg d18
  generalize WA.drew = WB at BZ BR BG HFR FI hHeld ⊢
  -- 0: Op.move
  refine pure_ (i := 0) (N := some 58) (v := ?_) (a' := ?_) #[true, false, false, false, false, false, false, false, false, false, false, false, false] rfl rfl (any_of HT_.out (by kernel_rfl)) (fun _ _ _ h => h) (Or.inl ⟨by rfl, ?_⟩) ?_ ?_
  rotate_left; (intro w'; go_simp; with_reducible rfl); rotate_left; (simp only [Act.put, List.setIfInBounds_toArray, List.set_cons_zero, List.set_cons_succ, i64_w, i32_w]; rfl)
  -- 1: Op.nilCheck
  refine pure_ (i := 1) (N := some 59) (v := ?_) (a' := ?_) #[true, true, false, false, false, false, false, false, false, false, false, false, false] rfl rfl (any_of HT_.out (by kernel_rfl)) (fun _ _ _ h => h) (Or.inl ⟨by rfl, ?_⟩) ?_ ?_
  rotate_left; (intro w'; go_simp; with_reducible rfl); rotate_left; (simp only [Act.put, List.setIfInBounds_toArray, List.set_cons_zero, List.set_cons_succ, i64_w, i32_w]; rfl)
  -- 2: Op.fieldAddr
  refine pure_ (i := 2) (N := some 60) (v := ?_) (a' := ?_) #[true, true, true, false, false, false, false, false, false, false, false, false, false] rfl rfl (any_of HT_.out (by kernel_rfl)) (fun _ _ _ h => h) (Or.inl ⟨by rfl, ?_⟩) ?_ ?_
  rotate_left; (intro w'; go_simp; with_reducible rfl); rotate_left; (simp only [Act.put, List.setIfInBounds_toArray, List.set_cons_zero, List.set_cons_succ, i64_w, i32_w]; rfl)
  -- 4: Op.move
  refine pure_ (i := 4) (N := some 62) (v := ?_) (a' := ?_) #[true, true, true, false, true, false, false, false, false, false, false, false, false] rfl rfl (any_of HT_.out (by kernel_rfl)) (fun _ _ _ h => h) (Or.inl ⟨by rfl, ?_⟩) ?_ ?_
  rotate_left; (intro w'; go_simp; with_reducible rfl); rotate_left; (simp only [Act.put, List.setIfInBounds_toArray, List.set_cons_zero, List.set_cons_succ, i64_w, i32_w]; rfl)
  -- 5: Op.nilCheck
  refine pure_ (i := 5) (N := some 63) (v := ?_) (a' := ?_) #[true, true, true, false, true, true, false, false, false, false, false, false, false] rfl rfl (any_of HT_.out (by kernel_rfl)) (fun _ _ _ h => h) (Or.inl ⟨by rfl, ?_⟩) ?_ ?_
  rotate_left; (intro w'; go_simp; with_reducible rfl); rotate_left; (simp only [Act.put, List.setIfInBounds_toArray, List.set_cons_zero, List.set_cons_succ, i64_w, i32_w]; rfl)
  -- 6: Op.fieldAddr
  refine pure_ (i := 6) (N := some 64) (v := ?_) (a' := ?_) #[true, true, true, false, true, true, true, false, false, false, false, false, false] rfl rfl (any_of HT_.out (by kernel_rfl)) (fun _ _ _ h => h) (Or.inl ⟨by rfl, ?_⟩) ?_ ?_
  rotate_left; (intro w'; go_simp; with_reducible rfl); rotate_left; (simp only [Act.put, List.setIfInBounds_toArray, List.set_cons_zero, List.set_cons_succ, i64_w, i32_w]; rfl)
  -- 8: Op.build
  refine pure_ (i := 8) (N := some 66) (v := ?_) (a' := ?_) #[true, true, true, false, true, true, true, false, true, false, false, false, false] rfl rfl (any_of HT_.out (by kernel_rfl)) (fun _ _ _ h => h) (Or.inl ⟨by rfl, ?_⟩) ?_ ?_
  rotate_left; (intro w'; go_simp; with_reducible rfl); rotate_left; (simp only [Act.put, List.setIfInBounds_toArray, List.set_cons_zero, List.set_cons_succ, i64_w, i32_w]; rfl)
  -- 3: Op.load
  refine take_ (i := 3) (N := some 61) (a' := ?_) #[true, true, true, true, true, true, true, false, true, false, false, false, false] rfl rfl (take_ofW HT_.out HW_.out (by kernel_rfl)) (fun _ _ _ h => h) (yieldsIf_load_mid (by rfl) 29 (.tmp 60) rfl g 0 (by rfl) (rM_ c' B1 j1 B2 j2) _ (fun w' s => blk_range s.1 0 _ rfl) Try.underlying29 rfl (by kernel_rfl)) hHeld ?_ ?_
  rotate_left
  · simp only [Act.put, List.setIfInBounds_toArray, List.set_cons_zero, List.set_cons_succ, List.toArray, i64_w, i32_w]
    rfl
  -- 7: Op.load
  refine take_ (i := 7) (N := some 65) (v := ?_) (a' := ?_) #[true, true, true, true, true, true, true, true, true, false, false, false, false] rfl rfl (take_ofW HT_.out HW_.out (by kernel_rfl)) (fun _ _ _ h => h) (Or.inl ⟨by rfl, ?_⟩) hHeld ?_ ?_
  rotate_left; (rintro w' ⟨s0, s1⟩; go_simp; with_reducible rfl); rotate_left; (simp only [Act.put, List.setIfInBounds_toArray, List.set_cons_zero, List.set_cons_succ, i64_w, i32_w]; rfl)
  -- 9: Op.store
  refine one_ (i := 9) (N := none) #[true, true, true, true, true, true, true, true, true, true, false, false, false] rfl rfl (one_of HT_.out (by kernel_rfl)) (by decide) (fun K hK => ?_)
  refine row_ 29 (.tmp 6) (.tmp 61) (w.heap.size + 1 + 1) (rL_ c' B1 j1 B2 j2) 29 rZC_ (by rfl) rfl rfl (by rfl) (by rfl) BZ.out (by kernel_rfl) (by rfl) (by kernel_rfl) ?_
  refine hK.out _ _ ⟨(setRow_other _ _ _ _ (by have := HG.out; have := HS1.out; omega)).trans hHeld.1, (cell_setRow_other _ _ _ _ (by show g ≠ _; have := HG.out; have := HS1.out; omega)).trans hHeld.2⟩ (fun hHeld => ?_)
  clear hK K
  -- 10: Op.assign
  refine pure_ (i := 10) (N := some 7) (v := ?_) (a' := ?_) #[true, true, true, true, true, true, true, true, true, true, true, false, false] rfl rfl (any_of HT_.out (by kernel_rfl)) (fun _ _ _ h => h) (Or.inl ⟨by rfl, ?_⟩) ?_ ?_
  rotate_left; (intro w'; go_simp; with_reducible rfl); rotate_left; (simp only [Act.put, List.setIfInBounds_toArray, List.set_cons_zero, List.set_cons_succ, i64_w, i32_w]; rfl)
  -- 11: Op.store
  refine one_ (i := 11) (N := none) #[true, true, true, true, true, true, true, true, true, true, true, true, false] rfl rfl (one_of HT_.out (by kernel_rfl)) (by decide) (fun K hK => ?_)
  refine row_ 36 (.tmp 8) (.tmp 66) (w.heap.size + 1 + 1 + 1) rZR_ 36 rZR_ (by rfl) rfl rfl (by rfl) (by rfl) (blk_row_far BR.out (rL_ c' B1 j1 B2 j2) (show w.heap.size + 1 + 1 + 1 ≠ w.heap.size + 1 + 1 by omega)) (by kernel_rfl) (by rfl) (by kernel_rfl) ?_
  refine hK.out _ _ ⟨(setRow_other _ _ _ _ (by have := HG.out; have := HS1.out; omega)).trans hHeld.1, (cell_setRow_other _ _ _ _ (by show g ≠ _; have := HG.out; have := HS1.out; omega)).trans hHeld.2⟩ (fun hHeld => ?_)
  clear hK K
  -- 12: Op.assign
  refine pure_ (i := 12) (N := some 9) (v := ?_) (a' := ?_) #[true, true, true, true, true, true, true, true, true, true, true, true, true] rfl rfl (any_of HT_.out (by kernel_rfl)) (fun _ _ _ h => h) (Or.inl ⟨by rfl, ?_⟩) ?_ ?_
  rotate_left; (intro w'; go_simp; with_reducible rfl); rotate_left; (simp only [Act.put, List.setIfInBounds_toArray, List.set_cons_zero, List.set_cons_succ, i64_w, i32_w]; rfl)
  refine done_ (done_of HT_.out (by kernel_rfl)) ?_
  clear HT_ HW_ hHeld

  have BZN := Aside0.mk (blk_row_far (blk_row BZ.out (rL_ c' B1 j1 B2 j2)) rZR_ (show w.heap.size + 1 + 1 ≠ w.heap.size + 1 + 1 + 1 by omega))
  have BRN := Aside0.mk (blk_row (blk_row_far BR.out (rL_ c' B1 j1 B2 j2) (show w.heap.size + 1 + 1 + 1 ≠ w.heap.size + 1 + 1 by omega)) rZR_)
  have HFRN := Aside0.mk ((HFR.out.setRow (w.heap.size + 1 + 1) (rL_ c' B1 j1 B2 j2) (fun h => by omega)).setRow (w.heap.size + 1 + 1 + 1) rZR_ (fun h => by omega))
  have FN := Aside0.mk ((Fr.setRow (Fr.refl (fun k => k = w.heap.size + 1 + 1 ∨ k = w.heap.size + 1 + 1 + 1) WB) (w.heap.size + 1 + 1) (rL_ c' B1 j1 B2 j2) (fun _ => .inl rfl)).setRow (w.heap.size + 1 + 1 + 1) rZR_ (fun _ => .inr rfl))
  generalize World.setRow _ _ _ = WC at BZN BRN HFRN FN ⊢
  clear BZ BG BR HFR
  go_wp2
  refine bodyPost_ret (results_list (rs := [.cell 6 29, .tmp 7, .cell 8 36, .tmp 9]) rfl (by simp) (.cell (w.heap.size + 1 + 1) 29 (rL_ c' B1 j1 B2 j2) (0, 0) _ rfl BZN.out Try.underlying29 rfl (by kernel_rfl) (.tmp (.cell (w.heap.size + 1 + 1 + 1) 36 rZR_ (0, 0) _ rfl BRN.out Try.underlying36 rfl (by kernel_rfl) (.tmp .nil))))) rfl ?_
  rw [HV.out]
  have hs := HS1.out
  have hw : ∀ k, W1.heap.size ≤ k ∧ k ≠ g → w.heap.size ≤ k := fun k hk => by omega
  have hk : ∀ k, W1.heap.size ≤ k ∧ k ≠ g → k < WB.heap.size → WC.heap[k]? = WB.heap[k]? := fun k hk hlt => FN.out.block k hlt (by omega)
  exact ⟨B1, j1, B2, j2, B3, j3, none, 0, rfl, ⟨Kd.F_mono (Kd.F_step FI.out.2.1 hk) hw, FI.out.1, Kd.F_mono (Kd.F_step FI.out.2.2.2.1 hk) hw, FI.out.2.2.1⟩, ⟨Kd.F_mono (Kd.F_step FI.out.2.2.2.2.2 hk) hw, FI.out.2.2.2.2.1⟩, BodyNew.nil _ _, HFRN.out.below (Nat.le_refl _) (fun _ h => h)⟩
set_option maxHeartbeats 8000000 in
set_option maxRecDepth 100000 in
theorem take_ask2 (c : CliS) (A1 : Option Addr) (k1 : Nat) (A2 : Option Addr) (k2 : Nat) (now : Int) (r : S36) (A : Option Addr) (k : Nat) (w : World) (hc : CliIn w c A1 k1 A2 k2) (h3 : Kd.C (Kd.int .u8) w A r.f8.length r.f8) (hl3 : r.f8.length ≤ k) (hb1 : c.Br.length < 1000000) (hb2 : c.Call.f8.length ≤ 140737488351232) (hb3 : r.f8.length ≤ 140737488351232) (hm : mineB c r = true) (hr : r.f3 = 2) (hi : 0 ≤ idxI c.Br r.f5 ∧ idxI c.Br r.f5 ≠ c.At) :
    Calls Try.prog 10 #[.agg (rL_ c A1 k1 A2 k2), .int .u64 now, .agg (rR_ r A k)] w (TakePost w (takeC c now r)) := by
  have HV := Aside0.mk (show takeC c now r = ((askC { c with At := idxI c.Br r.f5 } now).1, (askC { c with At := idxI c.Br r.f5 } now).2, z36, false) by unfold takeC; rw [if_pos hm, if_pos (by omega), if_pos hi])
  have HM := Aside0.mk hm
  have HR3 := Aside0.mk hr
  have HIX := Aside0.mk hi
  clear hm hr hi
  have HW1 := Aside0.mk (show (w.alloc (.cells (rL_ c A1 k1 A2 k2) 29)).heap.size = w.heap.size + 1 by simp)
  have HW2 := Aside0.mk (show ((w.alloc (.cells (rL_ c A1 k1 A2 k2) 29)).alloc (.cells (rR_ r A k) 36)).heap.size = w.heap.size + 1 + 1 by simp)
  have HW3 := Aside0.mk (show (((w.alloc (.cells (rL_ c A1 k1 A2 k2) 29)).alloc (.cells (rR_ r A k) 36)).alloc (.cells rZC_ 29)).heap.size = w.heap.size + 1 + 1 + 1 by simp)
  have HB0 := Aside0.mk (below_alloc (below_alloc (below_alloc (below_alloc (Below.refl w.heap.size w) (.cells (rL_ c A1 k1 A2 k2) 29)) (.cells (rR_ r A k) 36)) (.cells rZC_ 29)) (.cells rZR_ 36))
  have BC := Aside0.mk (blk_alloc (blk_alloc (blk_alloc (heap_alloc_new w (.cells (rL_ c A1 k1 A2 k2) 29)) (.cells (rR_ r A k) 36)) (.cells rZC_ 29)) (.cells rZR_ 36))
  have BX := Aside0.mk (HW1.out ▸ blk_alloc (blk_alloc (heap_alloc_new (w.alloc (.cells (rL_ c A1 k1 A2 k2) 29)) (.cells (rR_ r A k) 36)) (.cells rZC_ 29)) (.cells rZR_ 36))
  have BZ := Aside0.mk (HW2.out ▸ blk_alloc (heap_alloc_new ((w.alloc (.cells (rL_ c A1 k1 A2 k2) 29)).alloc (.cells (rR_ r A k) 36)) (.cells rZC_ 29)) (.cells rZR_ 36))
  have BR := Aside0.mk (HW3.out ▸ heap_alloc_new (((w.alloc (.cells (rL_ c A1 k1 A2 k2) 29)).alloc (.cells (rR_ r A k) 36)).alloc (.cells rZC_ 29)) (.cells rZR_ 36))
  have HS1 := Aside0.mk (show ((((w.alloc (.cells (rL_ c A1 k1 A2 k2) 29)).alloc (.cells (rR_ r A k) 36)).alloc (.cells rZC_ 29)).alloc (.cells rZR_ 36)).heap.size = w.heap.size + 4 by simp)
  have HIN := Aside0.mk (hc.below HB0.out)
  have H3 := Aside0.mk (Kd.C_below h3 HB0.out)
  clear hc h3 HW1 HW2 HW3
  go_enter Try.func10, Try.ntmps10
  go_wp2_with (refine wpList_load_row rfl 29 (.tmp 3) rfl w.heap.size (by rfl) 29 (rL_ c A1 k1 A2 k2) (0, 0) _ BC.out Try.underlying29 rfl (by kernel_rfl) ?_)
  generalize World.alloc _ _ = W1 at HB0 BC BX BZ BR HS1 HIN H3 ⊢
  have HWI := Aside0.mk (fun n => with_r c A1 k1 A2 k2 n W1 HIN.out.C1 HIN.out.l1 HIN.out.C2 HIN.out.l2 (by omega) hb2)
  go_wp2_with (first
      | (go_at_call 23; refine (HWI.out _).mono ?_; rintro e W2 ⟨g, rfl, hI, hB⟩; have HI2 := Aside0.mk hI; have HB2 := Aside0.mk hB; clear hI hB HWI; have BX2 := Aside0.mk (blk_below BX.out HB2.out); have BZ2 := Aside0.mk (blk_below BZ.out HB2.out); have BR2 := Aside0.mk (blk_below BR.out HB2.out); have HMI := Aside0.mk (mine_c c _ g _ [] W2 HI2.out r A k); clear BC BX BZ BR)
      | (refine wpList_load_row rfl 36 (.tmp 5) rfl (w.heap.size + 1) (by rfl) 36 (rR_ r A k) (0, 0) _ BX2.out Try.underlying36 rfl (by kernel_rfl) ?_)
      | (go_at_call 26; fail))
  rw [HM.out] at HMI
  have H32 := Aside0.mk (Kd.C_below H3.out HB2.out)
  have HGL := Aside0.mk HI2.out.lt
  have HFR2 := Aside0.mk ((Fr.of_below HB0.out (fun k => w.heap.size ≤ k)).then_ (Fr.of_below HB2.out _))
  have HG := Aside0.mk HI2.out.ge
  clear HIN H3 HB0
  have t1 : (r.f3 == 1) = false := by rw [HR3.out]; rfl
  have t2 : (r.f3 == 2) = true := by rw [HR3.out]; rfl
  go_wp2_with (first
      | (go_at_call 26; refine HMI.out.mono ?_; rintro e W3 ⟨rfl, hB3⟩; have HI := Aside0.mk (HI2.out.below hB3); have BX := Aside0.mk (blk_below BX2.out hB3); have BZ := Aside0.mk (blk_below BZ2.out hB3); have BR := Aside0.mk (blk_below BR2.out hB3); have HFR := Aside0.mk (HFR2.out.then_ (Fr.of_below hB3 _)); have H3 := Aside0.mk (Kd.C_below H32.out hB3); clear hB3 HI2 BX2 BZ2 BR2 HFR2 H32 HMI; have d3f : W3.cell? ⟨w.heap.size + 1, 3, none⟩ = some (.int .i64 r.f3) := (cells_at BX.out rfl).1))
  clear d3f
  have HBG := Aside0.mk hb1
  obtain ⟨C1, i1, d3, d14, dz, _, _, _, _, _, _, _, d4, _, _⟩ := HI.out.cells
  have d5 : W3.cell? ⟨w.heap.size + 1, 5, none⟩ = some (.int .i64 r.f5) := (cells_at BX.out rfl).1
  clear BX H3
  refine start_ (n := 9) (S := fun w' => w'.cell? ⟨g, 3, none⟩ = some (.slice C1 c.Br.length i1) ∧ w'.cell? ⟨w.heap.size + 1, 5, none⟩ = some (.int .i64 r.f5)) (ds := []) #[false, false, false, false, false, false, false, false, false] (by kernel_rfl) rfl rfl ⟨d3, d5⟩ (fun hHeld => ?_)
  refine with_tabW tak.tab7 tak.bits7 (fun HT_ HW_ => ?_)
  have HI := Aside0.mk (HI.out.fr ((Fr.refl (fun _ => False) W3).drew) (fun _ h => h.elim))
  have BZ := Aside0.mk (blk_drew BZ.out)
  have BR := Aside0.mk (blk_drew BR.out)
  have HFR := Aside0.mk HFR.out.drew
  clear d3 d5 d14 dz d4
  generalize W3.drew = W4 at HI BZ BR HFR hHeld ⊢
  obtain ⟨C1', i1', q3, q14, qz, _, _, _, _, _, _, _, _, lb, CB⟩ := HI.out.cells
  obtain ⟨rfl, rfl⟩ : C1 = C1' ∧ i1 = i1' := by
    have h1 := hHeld.1
    rw [q3] at h1
    injection h1 with h1
    injection h1 with h1 _ h2
    exact ⟨h1.symm, h2.symm⟩
  have HCB := Aside0.mk CB
  have hlb := Aside0.mk lb
  clear q3 q14 qz lb CB
  -- 0: Op.move
  refine pure_ (i := 0) (N := some 30) (v := ?_) (a' := ?_) #[true, false, false, false, false, false, false, false, false] rfl rfl (any_of HT_.out (by kernel_rfl)) (fun _ _ _ h => h) (Or.inl ⟨by rfl, ?_⟩) ?_ ?_
  rotate_left; (intro w'; go_simp; with_reducible rfl); rotate_left; (simp only [Act.put, List.setIfInBounds_toArray, List.set_cons_zero, List.set_cons_succ, i64_w, i32_w]; rfl)
  -- 1: Op.nilCheck
  refine pure_ (i := 1) (N := some 31) (v := ?_) (a' := ?_) #[true, true, false, false, false, false, false, false, false] rfl rfl (any_of HT_.out (by kernel_rfl)) (fun _ _ _ h => h) (Or.inl ⟨by rfl, ?_⟩) ?_ ?_
  rotate_left; (intro w'; go_simp; with_reducible rfl); rotate_left; (simp only [Act.put, List.setIfInBounds_toArray, List.set_cons_zero, List.set_cons_succ, i64_w, i32_w]; rfl)
  -- 2: Op.fieldAddr
  refine pure_ (i := 2) (N := some 32) (v := ?_) (a' := ?_) #[true, true, true, false, false, false, false, false, false] rfl rfl (any_of HT_.out (by kernel_rfl)) (fun _ _ _ h => h) (Or.inl ⟨by rfl, ?_⟩) ?_ ?_
  rotate_left; (intro w'; go_simp; with_reducible rfl); rotate_left; (simp only [Act.put, List.setIfInBounds_toArray, List.set_cons_zero, List.set_cons_succ, i64_w, i32_w]; rfl)
  -- 3: Op.fieldAddr
  refine pure_ (i := 3) (N := some 33) (v := ?_) (a' := ?_) #[true, true, true, true, false, false, false, false, false] rfl rfl (any_of HT_.out (by kernel_rfl)) (fun _ _ _ h => h) (Or.inl ⟨by rfl, ?_⟩) ?_ ?_
  rotate_left; (intro w'; go_simp; with_reducible rfl); rotate_left; (simp only [Act.put, List.setIfInBounds_toArray, List.set_cons_zero, List.set_cons_succ, i64_w, i32_w]; rfl)
  -- 5: Op.fieldAddr
  refine pure_ (i := 5) (N := some 35) (v := ?_) (a' := ?_) #[true, true, true, true, false, true, false, false, false] rfl rfl (any_of HT_.out (by kernel_rfl)) (fun _ _ _ h => h) (Or.inl ⟨by rfl, ?_⟩) ?_ ?_
  rotate_left; (intro w'; go_simp; with_reducible rfl); rotate_left; (simp only [Act.put, List.setIfInBounds_toArray, List.set_cons_zero, List.set_cons_succ, i64_w, i32_w]; rfl)
  -- 4: Op.load
  refine take_ (i := 4) (N := some 34) (v := ?_) (a' := ?_) #[true, true, true, true, true, true, false, false, false] rfl rfl (take_ofW HT_.out HW_.out (by kernel_rfl)) (fun _ _ _ h => h) (Or.inl ⟨by rfl, ?_⟩) hHeld ?_ ?_
  rotate_left; (rintro w' ⟨s0, s1⟩; go_simp; with_reducible rfl); rotate_left; (simp only [Act.put, List.setIfInBounds_toArray, List.set_cons_zero, List.set_cons_succ, i64_w, i32_w]; rfl)
  -- 6: Op.load
  refine take_ (i := 6) (N := some 36) (v := ?_) (a' := ?_) #[true, true, true, true, true, true, true, false, false] rfl rfl (take_ofW HT_.out HW_.out (by kernel_rfl)) (fun _ _ _ h => h) (Or.inl ⟨by rfl, ?_⟩) hHeld ?_ ?_
  rotate_left; (rintro w' ⟨s0, s1⟩; go_simp; with_reducible rfl); rotate_left; (simp only [Act.put, List.setIfInBounds_toArray, List.set_cons_zero, List.set_cons_succ, i64_w, i32_w]; rfl)
  -- 7: Op.call
  refine one_ (i := 7) (N := some 37) #[true, true, true, true, true, true, true, true, false] rfl rfl (one_of HT_.out (by kernel_rfl)) (by decide) (fun K hK => ?_)
  refine goes_ Try.func27 (by kernel_rfl) rfl #[.slice C1 c.Br.length i1, .int .i64 r.f5] (by rfl) rfl rfl (by (try simp only [List.map_toArray, List.map_cons, List.map_nil]); first | done | rfl) ?_
  refine (slices_Index_int_int.calls (c.Br.length + 1) C1 i1 c.Br r.f5 (idxI c.Br r.f5) W4 HCB.out hlb.out (idx_f c.Br r.f5 HBG.out)).mono ?_
  rintro e W5 ⟨rfl, hD⟩
  refine ⟨_, rfl, ?_⟩
  have HD5 := Aside0.mk (Drawn0.below hD)
  have d3 := pw_cell_below HD5.out hHeld.1
  have d5 := pw_cell_below HD5.out hHeld.2
  refine hK.out _ _ ⟨d3, d5⟩ (fun hHeld => ?_)
  clear d3 d5 hD
  clear hK K
  refine norm_ (a' := ?_) ?_ ?_
  rotate_left; (show Act.put _ (some 37) _ = _; simp only [Act.put, List.setIfInBounds_toArray, List.set_cons_zero, List.set_cons_succ, i64_w, i32_w]; rfl)
  -- 8: Op.assign
  refine pure_ (i := 8) (N := some 11) (v := ?_) (a' := ?_) #[true, true, true, true, true, true, true, true, true] rfl rfl (any_of HT_.out (by kernel_rfl)) (fun _ _ _ h => h) (Or.inl ⟨by rfl, ?_⟩) ?_ ?_
  rotate_left; (intro w'; go_simp; with_reducible rfl); rotate_left; (simp only [Act.put, List.setIfInBounds_toArray, List.set_cons_zero, List.set_cons_succ, i64_w, i32_w]; rfl)
  refine done_ (done_of HT_.out (by kernel_rfl)) ?_
  clear HT_ HW_ hHeld HCB hlb
  have HI := Aside0.mk (HI.out.below HD5.out)
  have BZ := Aside0.mk (blk_below BZ.out HD5.out)
  have BR := Aside0.mk (blk_below BR.out HD5.out)
  have HFR := Aside0.mk (HFR.out.then_ (Fr.of_below HD5.out _))
  obtain ⟨_, _, _, d14, dz, _, _, _, _, _, _, _, _, _, _⟩ := HI.out.cells
  clear HD5

  have t3 : decide (0 ≤ idxI c.Br r.f5) = true := by simpa using HIX.out.1
  have t4 : (idxI c.Br r.f5 != c.At) = true := by simpa using HIX.out.2
  have HBL := Aside0.mk hb2
  generalize idxI c.Br r.f5 = ix at t3 t4 HV ⊢
  have HSA := HI.out.setAt0 ix
  have HASK := Aside0.mk (ask_c { c with At := ix } W1.heap.size g now _ HSA.1 HBG.out HBL.out)
  have HKA := Aside0.mk HSA.2
  clear HSA HI
  generalize hq : askC { c with At := ix } now = q at HASK HV
  obtain ⟨c', s'⟩ := q
  clear hq
  go_wp2_with (go_at_call 25; refine HASK.out.mono ?_; rintro e WA ⟨rfl, hI, hK⟩; have HI := Aside0.mk hI; have HKB := Aside0.mk (HKA.out.then_ hK); clear hI hK HASK)
  have HFR := Aside0.mk (HFR.out.then_ (HKB.out.mono (fun k hk => by have := HG.out; have := HS1.out; omega) (S2 := fun k => w.heap.size ≤ k)))
  have BZ := Aside0.mk ((HKB.out.block _ (blk_lt BZ.out) (show ¬ (w.heap.size + 1 + 1 = g) by have := HG.out; have := HS1.out; omega)).trans BZ.out)
  have BR := Aside0.mk ((HKB.out.block _ (blk_lt BR.out) (show ¬ (w.heap.size + 1 + 1 + 1 = g) by have := HG.out; have := HS1.out; omega)).trans BR.out)
  clear HKA HKB t3 t4 dz d14

  obtain ⟨B1, j1, B2, j2, B3, j3, hb, m1, f1, m2, f2, m3, f3, hg⟩ := HI.out.blk
  have BG := Aside0.mk hb
  have FI := Aside0.mk (And.intro m1 (And.intro f1 (And.intro m2 (And.intro f2 (And.intro m3 f3)))))
  clear hb m1 f1 m2 f2 m3 f3 hg HI

  have dg : WA.heap[g]? = some (.cells #[.int .i64 c'.Id, .int .u64 c'.Inc, .int .u64 c'.N, .slice B1 c'.Br.length j1, .int .i64 c'.Busy, .int .i64 c'.Call.f0, .int .u64 c'.Call.f1, .int .u64 c'.Call.f2, .int .i64 c'.Call.f3, .int .i64 c'.Call.f4, .int .i64 c'.Call.f5, .int .u64 c'.Call.f6, .int .u64 c'.Call.f7, .slice B2 c'.Call.f8.length j2, .int .i64 c'.At, .int .u64 c'.Born, .int .u64 c'.Since, .int .u64 now, .slice B3 s'.length j3] 66 (0, 0)) := BG.out
  have d18 : WA.cell? ⟨g, 18, none⟩ = some (.slice B3 s'.length j3) := (cells_at BG.out rfl).1
  refine start_ (n := 13) (S := fun w' => w'.heap[g]? = some (.cells #[.int .i64 c'.Id, .int .u64 c'.Inc, .int .u64 c'.N, .slice B1 c'.Br.length j1, .int .i64 c'.Busy, .int .i64 c'.Call.f0, .int .u64 c'.Call.f1, .int .u64 c'.Call.f2, .int .i64 c'.Call.f3, .int .i64 c'.Call.f4, .int .i64 c'.Call.f5, .int .u64 c'.Call.f6, .int .u64 c'.Call.f7, .slice B2 c'.Call.f8.length j2, .int .i64 c'.At, .int .u64 c'.Born, .int .u64 c'.Since, .int .u64 now, .slice B3 s'.length j3] 66 (0, 0)) ∧ w'.cell? ⟨g, 18, none⟩ = some (.slice B3 s'.length j3)) (ds := []) #[false, false, false, false, false, false, false, false, false, false, false, false, false] (by kernel_rfl) rfl rfl ⟨dg, d18⟩ (fun hHeld => ?_)
  refine with_tabW tak.tab12 tak.bits12 (fun HT_ HW_ => ?_)
  have BZ := Aside0.mk (blk_drew BZ.out)
  have BR := Aside0.mk (blk_drew BR.out)
  have BG := Aside0.mk (blk_drew BG.out)
  have HFR := Aside0.mk HFR.out.drew
  have FI := Aside0.mk (And.intro FI.out.1 (And.intro (Kd.F_drew FI.out.2.1) (And.intro FI.out.2.2.1 (And.intro (Kd.F_drew FI.out.2.2.2.1) (And.intro FI.out.2.2.2.2.1 (Kd.F_drew FI.out.2.2.2.2.2))))))
  clear dg d18
  generalize WA.drew = WB at BZ BR BG HFR FI hHeld ⊢
  -- 0: Op.move
  refine pure_ (i := 0) (N := some 58) (v := ?_) (a' := ?_) #[true, false, false, false, false, false, false, false, false, false, false, false, false] rfl rfl (any_of HT_.out (by kernel_rfl)) (fun _ _ _ h => h) (Or.inl ⟨by rfl, ?_⟩) ?_ ?_
  rotate_left; (intro w'; go_simp; with_reducible rfl); rotate_left; (simp only [Act.put, List.setIfInBounds_toArray, List.set_cons_zero, List.set_cons_succ, i64_w, i32_w]; rfl)
  -- 1: Op.nilCheck
  refine pure_ (i := 1) (N := some 59) (v := ?_) (a' := ?_) #[true, true, false, false, false, false, false, false, false, false, false, false, false] rfl rfl (any_of HT_.out (by kernel_rfl)) (fun _ _ _ h => h) (Or.inl ⟨by rfl, ?_⟩) ?_ ?_
  rotate_left; (intro w'; go_simp; with_reducible rfl); rotate_left; (simp only [Act.put, List.setIfInBounds_toArray, List.set_cons_zero, List.set_cons_succ, i64_w, i32_w]; rfl)
  -- 2: Op.fieldAddr
  refine pure_ (i := 2) (N := some 60) (v := ?_) (a' := ?_) #[true, true, true, false, false, false, false, false, false, false, false, false, false] rfl rfl (any_of HT_.out (by kernel_rfl)) (fun _ _ _ h => h) (Or.inl ⟨by rfl, ?_⟩) ?_ ?_
  rotate_left; (intro w'; go_simp; with_reducible rfl); rotate_left; (simp only [Act.put, List.setIfInBounds_toArray, List.set_cons_zero, List.set_cons_succ, i64_w, i32_w]; rfl)
  -- 4: Op.move
  refine pure_ (i := 4) (N := some 62) (v := ?_) (a' := ?_) #[true, true, true, false, true, false, false, false, false, false, false, false, false] rfl rfl (any_of HT_.out (by kernel_rfl)) (fun _ _ _ h => h) (Or.inl ⟨by rfl, ?_⟩) ?_ ?_
  rotate_left; (intro w'; go_simp; with_reducible rfl); rotate_left; (simp only [Act.put, List.setIfInBounds_toArray, List.set_cons_zero, List.set_cons_succ, i64_w, i32_w]; rfl)
  -- 5: Op.nilCheck
  refine pure_ (i := 5) (N := some 63) (v := ?_) (a' := ?_) #[true, true, true, false, true, true, false, false, false, false, false, false, false] rfl rfl (any_of HT_.out (by kernel_rfl)) (fun _ _ _ h => h) (Or.inl ⟨by rfl, ?_⟩) ?_ ?_
  rotate_left; (intro w'; go_simp; with_reducible rfl); rotate_left; (simp only [Act.put, List.setIfInBounds_toArray, List.set_cons_zero, List.set_cons_succ, i64_w, i32_w]; rfl)
  -- 6: Op.fieldAddr
  refine pure_ (i := 6) (N := some 64) (v := ?_) (a' := ?_) #[true, true, true, false, true, true, true, false, false, false, false, false, false] rfl rfl (any_of HT_.out (by kernel_rfl)) (fun _ _ _ h => h) (Or.inl ⟨by rfl, ?_⟩) ?_ ?_
  rotate_left; (intro w'; go_simp; with_reducible rfl); rotate_left; (simp only [Act.put, List.setIfInBounds_toArray, List.set_cons_zero, List.set_cons_succ, i64_w, i32_w]; rfl)
  -- 8: Op.build
  refine pure_ (i := 8) (N := some 66) (v := ?_) (a' := ?_) #[true, true, true, false, true, true, true, false, true, false, false, false, false] rfl rfl (any_of HT_.out (by kernel_rfl)) (fun _ _ _ h => h) (Or.inl ⟨by rfl, ?_⟩) ?_ ?_
  rotate_left; (intro w'; go_simp; with_reducible rfl); rotate_left; (simp only [Act.put, List.setIfInBounds_toArray, List.set_cons_zero, List.set_cons_succ, i64_w, i32_w]; rfl)
  -- 3: Op.load
  refine take_ (i := 3) (N := some 61) (a' := ?_) #[true, true, true, true, true, true, true, false, true, false, false, false, false] rfl rfl (take_ofW HT_.out HW_.out (by kernel_rfl)) (fun _ _ _ h => h) (yieldsIf_load_mid (by rfl) 29 (.tmp 60) rfl g 0 (by rfl) (rM_ c' B1 j1 B2 j2) _ (fun w' s => blk_range s.1 0 _ rfl) Try.underlying29 rfl (by kernel_rfl)) hHeld ?_ ?_
  rotate_left
  · simp only [Act.put, List.setIfInBounds_toArray, List.set_cons_zero, List.set_cons_succ, List.toArray, i64_w, i32_w]
    rfl
  -- 7: Op.load
  refine take_ (i := 7) (N := some 65) (v := ?_) (a' := ?_) #[true, true, true, true, true, true, true, true, true, false, false, false, false] rfl rfl (take_ofW HT_.out HW_.out (by kernel_rfl)) (fun _ _ _ h => h) (Or.inl ⟨by rfl, ?_⟩) hHeld ?_ ?_
  rotate_left; (rintro w' ⟨s0, s1⟩; go_simp; with_reducible rfl); rotate_left; (simp only [Act.put, List.setIfInBounds_toArray, List.set_cons_zero, List.set_cons_succ, i64_w, i32_w]; rfl)
  -- 9: Op.store
  refine one_ (i := 9) (N := none) #[true, true, true, true, true, true, true, true, true, true, false, false, false] rfl rfl (one_of HT_.out (by kernel_rfl)) (by decide) (fun K hK => ?_)
  refine row_ 29 (.tmp 6) (.tmp 61) (w.heap.size + 1 + 1) (rL_ c' B1 j1 B2 j2) 29 rZC_ (by rfl) rfl rfl (by rfl) (by rfl) BZ.out (by kernel_rfl) (by rfl) (by kernel_rfl) ?_
  refine hK.out _ _ ⟨(setRow_other _ _ _ _ (by have := HG.out; have := HS1.out; omega)).trans hHeld.1, (cell_setRow_other _ _ _ _ (by show g ≠ _; have := HG.out; have := HS1.out; omega)).trans hHeld.2⟩ (fun hHeld => ?_)
  clear hK K
  -- 10: Op.assign
  refine pure_ (i := 10) (N := some 7) (v := ?_) (a' := ?_) #[true, true, true, true, true, true, true, true, true, true, true, false, false] rfl rfl (any_of HT_.out (by kernel_rfl)) (fun _ _ _ h => h) (Or.inl ⟨by rfl, ?_⟩) ?_ ?_
  rotate_left; (intro w'; go_simp; with_reducible rfl); rotate_left; (simp only [Act.put, List.setIfInBounds_toArray, List.set_cons_zero, List.set_cons_succ, i64_w, i32_w]; rfl)
  -- 11: Op.store
  refine one_ (i := 11) (N := none) #[true, true, true, true, true, true, true, true, true, true, true, true, false] rfl rfl (one_of HT_.out (by kernel_rfl)) (by decide) (fun K hK => ?_)
  refine row_ 36 (.tmp 8) (.tmp 66) (w.heap.size + 1 + 1 + 1) rZR_ 36 rZR_ (by rfl) rfl rfl (by rfl) (by rfl) (blk_row_far BR.out (rL_ c' B1 j1 B2 j2) (show w.heap.size + 1 + 1 + 1 ≠ w.heap.size + 1 + 1 by omega)) (by kernel_rfl) (by rfl) (by kernel_rfl) ?_
  refine hK.out _ _ ⟨(setRow_other _ _ _ _ (by have := HG.out; have := HS1.out; omega)).trans hHeld.1, (cell_setRow_other _ _ _ _ (by show g ≠ _; have := HG.out; have := HS1.out; omega)).trans hHeld.2⟩ (fun hHeld => ?_)
  clear hK K
  -- 12: Op.assign
  refine pure_ (i := 12) (N := some 9) (v := ?_) (a' := ?_) #[true, true, true, true, true, true, true, true, true, true, true, true, true] rfl rfl (any_of HT_.out (by kernel_rfl)) (fun _ _ _ h => h) (Or.inl ⟨by rfl, ?_⟩) ?_ ?_
  rotate_left; (intro w'; go_simp; with_reducible rfl); rotate_left; (simp only [Act.put, List.setIfInBounds_toArray, List.set_cons_zero, List.set_cons_succ, i64_w, i32_w]; rfl)
  refine done_ (done_of HT_.out (by kernel_rfl)) ?_
  clear HT_ HW_ hHeld

  have BZN := Aside0.mk (blk_row_far (blk_row BZ.out (rL_ c' B1 j1 B2 j2)) rZR_ (show w.heap.size + 1 + 1 ≠ w.heap.size + 1 + 1 + 1 by omega))
  have BRN := Aside0.mk (blk_row (blk_row_far BR.out (rL_ c' B1 j1 B2 j2) (show w.heap.size + 1 + 1 + 1 ≠ w.heap.size + 1 + 1 by omega)) rZR_)
  have HFRN := Aside0.mk ((HFR.out.setRow (w.heap.size + 1 + 1) (rL_ c' B1 j1 B2 j2) (fun h => by omega)).setRow (w.heap.size + 1 + 1 + 1) rZR_ (fun h => by omega))
  have FN := Aside0.mk ((Fr.setRow (Fr.refl (fun k => k = w.heap.size + 1 + 1 ∨ k = w.heap.size + 1 + 1 + 1) WB) (w.heap.size + 1 + 1) (rL_ c' B1 j1 B2 j2) (fun _ => .inl rfl)).setRow (w.heap.size + 1 + 1 + 1) rZR_ (fun _ => .inr rfl))
  generalize World.setRow _ _ _ = WC at BZN BRN HFRN FN ⊢
  clear BZ BG BR HFR
  go_wp2
  refine bodyPost_ret (results_list (rs := [.cell 6 29, .tmp 7, .cell 8 36, .tmp 9]) rfl (by simp) (.cell (w.heap.size + 1 + 1) 29 (rL_ c' B1 j1 B2 j2) (0, 0) _ rfl BZN.out Try.underlying29 rfl (by kernel_rfl) (.tmp (.cell (w.heap.size + 1 + 1 + 1) 36 rZR_ (0, 0) _ rfl BRN.out Try.underlying36 rfl (by kernel_rfl) (.tmp .nil))))) rfl ?_
  rw [HV.out]
  have hs := HS1.out
  have hw : ∀ k, W1.heap.size ≤ k ∧ k ≠ g → w.heap.size ≤ k := fun k hk => by omega
  have hk : ∀ k, W1.heap.size ≤ k ∧ k ≠ g → k < WB.heap.size → WC.heap[k]? = WB.heap[k]? := fun k hk hlt => FN.out.block k hlt (by omega)
  exact ⟨B1, j1, B2, j2, B3, j3, none, 0, rfl, ⟨Kd.F_mono (Kd.F_step FI.out.2.1 hk) hw, FI.out.1, Kd.F_mono (Kd.F_step FI.out.2.2.2.1 hk) hw, FI.out.2.2.1⟩, ⟨Kd.F_mono (Kd.F_step FI.out.2.2.2.2.2 hk) hw, FI.out.2.2.2.2.1⟩, BodyNew.nil _ _, HFRN.out.below (Nat.le_refl _) (fun _ h => h)⟩
set_option maxHeartbeats 8000000 in
set_option maxRecDepth 100000 in
theorem take_none1 (c : CliS) (A1 : Option Addr) (k1 : Nat) (A2 : Option Addr) (k2 : Nat) (now : Int) (r : S36) (A : Option Addr) (k : Nat) (w : World) (hc : CliIn w c A1 k1 A2 k2) (h3 : Kd.C (Kd.int .u8) w A r.f8.length r.f8) (hl3 : r.f8.length ≤ k) (hb1 : c.Br.length < 1000000) (hb2 : c.Call.f8.length ≤ 140737488351232) (hb3 : r.f8.length ≤ 140737488351232) (hm : mineB c r = true) (hr : r.f3 = 1) (hi : idxI c.Br r.f5 < 0) :
    Calls Try.prog 10 #[.agg (rL_ c A1 k1 A2 k2), .int .u64 now, .agg (rR_ r A k)] w (TakePost w (takeC c now r)) := by
  have HV := Aside0.mk (show takeC c now r = (nextC c, [], z36, false) by unfold takeC; rw [if_pos hm, if_pos (by omega), if_neg (by omega)])
  have HM := Aside0.mk hm
  have HR3 := Aside0.mk hr
  have HIX := Aside0.mk hi
  clear hm hr hi
  have HW1 := Aside0.mk (show (w.alloc (.cells (rL_ c A1 k1 A2 k2) 29)).heap.size = w.heap.size + 1 by simp)
  have HW2 := Aside0.mk (show ((w.alloc (.cells (rL_ c A1 k1 A2 k2) 29)).alloc (.cells (rR_ r A k) 36)).heap.size = w.heap.size + 1 + 1 by simp)
  have HW3 := Aside0.mk (show (((w.alloc (.cells (rL_ c A1 k1 A2 k2) 29)).alloc (.cells (rR_ r A k) 36)).alloc (.cells rZC_ 29)).heap.size = w.heap.size + 1 + 1 + 1 by simp)
  have HB0 := Aside0.mk (below_alloc (below_alloc (below_alloc (below_alloc (Below.refl w.heap.size w) (.cells (rL_ c A1 k1 A2 k2) 29)) (.cells (rR_ r A k) 36)) (.cells rZC_ 29)) (.cells rZR_ 36))
  have BC := Aside0.mk (blk_alloc (blk_alloc (blk_alloc (heap_alloc_new w (.cells (rL_ c A1 k1 A2 k2) 29)) (.cells (rR_ r A k) 36)) (.cells rZC_ 29)) (.cells rZR_ 36))
  have BX := Aside0.mk (HW1.out ▸ blk_alloc (blk_alloc (heap_alloc_new (w.alloc (.cells (rL_ c A1 k1 A2 k2) 29)) (.cells (rR_ r A k) 36)) (.cells rZC_ 29)) (.cells rZR_ 36))
  have BZ := Aside0.mk (HW2.out ▸ blk_alloc (heap_alloc_new ((w.alloc (.cells (rL_ c A1 k1 A2 k2) 29)).alloc (.cells (rR_ r A k) 36)) (.cells rZC_ 29)) (.cells rZR_ 36))
  have BR := Aside0.mk (HW3.out ▸ heap_alloc_new (((w.alloc (.cells (rL_ c A1 k1 A2 k2) 29)).alloc (.cells (rR_ r A k) 36)).alloc (.cells rZC_ 29)) (.cells rZR_ 36))
  have HS1 := Aside0.mk (show ((((w.alloc (.cells (rL_ c A1 k1 A2 k2) 29)).alloc (.cells (rR_ r A k) 36)).alloc (.cells rZC_ 29)).alloc (.cells rZR_ 36)).heap.size = w.heap.size + 4 by simp)
  have HIN := Aside0.mk (hc.below HB0.out)
  have H3 := Aside0.mk (Kd.C_below h3 HB0.out)
  clear hc h3 HW1 HW2 HW3
  go_enter Try.func10, Try.ntmps10
  go_wp2_with (refine wpList_load_row rfl 29 (.tmp 3) rfl w.heap.size (by rfl) 29 (rL_ c A1 k1 A2 k2) (0, 0) _ BC.out Try.underlying29 rfl (by kernel_rfl) ?_)
  generalize World.alloc _ _ = W1 at HB0 BC BX BZ BR HS1 HIN H3 ⊢
  have HWI := Aside0.mk (fun n => with_r c A1 k1 A2 k2 n W1 HIN.out.C1 HIN.out.l1 HIN.out.C2 HIN.out.l2 (by omega) hb2)
  go_wp2_with (first
      | (go_at_call 23; refine (HWI.out _).mono ?_; rintro e W2 ⟨g, rfl, hI, hB⟩; have HI2 := Aside0.mk hI; have HB2 := Aside0.mk hB; clear hI hB HWI; have BX2 := Aside0.mk (blk_below BX.out HB2.out); have BZ2 := Aside0.mk (blk_below BZ.out HB2.out); have BR2 := Aside0.mk (blk_below BR.out HB2.out); have HMI := Aside0.mk (mine_c c _ g _ [] W2 HI2.out r A k); clear BC BX BZ BR)
      | (refine wpList_load_row rfl 36 (.tmp 5) rfl (w.heap.size + 1) (by rfl) 36 (rR_ r A k) (0, 0) _ BX2.out Try.underlying36 rfl (by kernel_rfl) ?_)
      | (go_at_call 26; fail))
  rw [HM.out] at HMI
  have H32 := Aside0.mk (Kd.C_below H3.out HB2.out)
  have HGL := Aside0.mk HI2.out.lt
  have HFR2 := Aside0.mk ((Fr.of_below HB0.out (fun k => w.heap.size ≤ k)).then_ (Fr.of_below HB2.out _))
  have HG := Aside0.mk HI2.out.ge
  clear HIN H3 HB0
  have t1 : (r.f3 == 1) = true := by rw [HR3.out]; rfl
  go_wp2_with (first
      | (go_at_call 26; refine HMI.out.mono ?_; rintro e W3 ⟨rfl, hB3⟩; have HI := Aside0.mk (HI2.out.below hB3); have BX := Aside0.mk (blk_below BX2.out hB3); have BZ := Aside0.mk (blk_below BZ2.out hB3); have BR := Aside0.mk (blk_below BR2.out hB3); have HFR := Aside0.mk (HFR2.out.then_ (Fr.of_below hB3 _)); have H3 := Aside0.mk (Kd.C_below H32.out hB3); clear hB3 HI2 BX2 BZ2 BR2 HFR2 H32 HMI; have d3f : W3.cell? ⟨w.heap.size + 1, 3, none⟩ = some (.int .i64 r.f3) := (cells_at BX.out rfl).1))
  clear d3f
  have HBG := Aside0.mk hb1
  obtain ⟨C1, i1, d3, d14, dz, _, _, _, _, _, _, _, d4, _, _⟩ := HI.out.cells
  have d5 : W3.cell? ⟨w.heap.size + 1, 5, none⟩ = some (.int .i64 r.f5) := (cells_at BX.out rfl).1
  clear BX H3
  refine start_ (n := 9) (S := fun w' => w'.cell? ⟨g, 3, none⟩ = some (.slice C1 c.Br.length i1) ∧ w'.cell? ⟨w.heap.size + 1, 5, none⟩ = some (.int .i64 r.f5)) (ds := []) #[false, false, false, false, false, false, false, false, false] (by kernel_rfl) rfl rfl ⟨d3, d5⟩ (fun hHeld => ?_)
  refine with_tabW tak.tab7 tak.bits7 (fun HT_ HW_ => ?_)
  have HI := Aside0.mk (HI.out.fr ((Fr.refl (fun _ => False) W3).drew) (fun _ h => h.elim))
  have BZ := Aside0.mk (blk_drew BZ.out)
  have BR := Aside0.mk (blk_drew BR.out)
  have HFR := Aside0.mk HFR.out.drew
  clear d3 d5 d14 dz d4
  generalize W3.drew = W4 at HI BZ BR HFR hHeld ⊢
  obtain ⟨C1', i1', q3, q14, qz, _, _, _, _, _, _, _, _, lb, CB⟩ := HI.out.cells
  obtain ⟨rfl, rfl⟩ : C1 = C1' ∧ i1 = i1' := by
    have h1 := hHeld.1
    rw [q3] at h1
    injection h1 with h1
    injection h1 with h1 _ h2
    exact ⟨h1.symm, h2.symm⟩
  have HCB := Aside0.mk CB
  have hlb := Aside0.mk lb
  clear q3 q14 qz lb CB
  -- 0: Op.move
  refine pure_ (i := 0) (N := some 30) (v := ?_) (a' := ?_) #[true, false, false, false, false, false, false, false, false] rfl rfl (any_of HT_.out (by kernel_rfl)) (fun _ _ _ h => h) (Or.inl ⟨by rfl, ?_⟩) ?_ ?_
  rotate_left; (intro w'; go_simp; with_reducible rfl); rotate_left; (simp only [Act.put, List.setIfInBounds_toArray, List.set_cons_zero, List.set_cons_succ, i64_w, i32_w]; rfl)
  -- 1: Op.nilCheck
  refine pure_ (i := 1) (N := some 31) (v := ?_) (a' := ?_) #[true, true, false, false, false, false, false, false, false] rfl rfl (any_of HT_.out (by kernel_rfl)) (fun _ _ _ h => h) (Or.inl ⟨by rfl, ?_⟩) ?_ ?_
  rotate_left; (intro w'; go_simp; with_reducible rfl); rotate_left; (simp only [Act.put, List.setIfInBounds_toArray, List.set_cons_zero, List.set_cons_succ, i64_w, i32_w]; rfl)
  -- 2: Op.fieldAddr
  refine pure_ (i := 2) (N := some 32) (v := ?_) (a' := ?_) #[true, true, true, false, false, false, false, false, false] rfl rfl (any_of HT_.out (by kernel_rfl)) (fun _ _ _ h => h) (Or.inl ⟨by rfl, ?_⟩) ?_ ?_
  rotate_left; (intro w'; go_simp; with_reducible rfl); rotate_left; (simp only [Act.put, List.setIfInBounds_toArray, List.set_cons_zero, List.set_cons_succ, i64_w, i32_w]; rfl)
  -- 3: Op.fieldAddr
  refine pure_ (i := 3) (N := some 33) (v := ?_) (a' := ?_) #[true, true, true, true, false, false, false, false, false] rfl rfl (any_of HT_.out (by kernel_rfl)) (fun _ _ _ h => h) (Or.inl ⟨by rfl, ?_⟩) ?_ ?_
  rotate_left; (intro w'; go_simp; with_reducible rfl); rotate_left; (simp only [Act.put, List.setIfInBounds_toArray, List.set_cons_zero, List.set_cons_succ, i64_w, i32_w]; rfl)
  -- 5: Op.fieldAddr
  refine pure_ (i := 5) (N := some 35) (v := ?_) (a' := ?_) #[true, true, true, true, false, true, false, false, false] rfl rfl (any_of HT_.out (by kernel_rfl)) (fun _ _ _ h => h) (Or.inl ⟨by rfl, ?_⟩) ?_ ?_
  rotate_left; (intro w'; go_simp; with_reducible rfl); rotate_left; (simp only [Act.put, List.setIfInBounds_toArray, List.set_cons_zero, List.set_cons_succ, i64_w, i32_w]; rfl)
  -- 4: Op.load
  refine take_ (i := 4) (N := some 34) (v := ?_) (a' := ?_) #[true, true, true, true, true, true, false, false, false] rfl rfl (take_ofW HT_.out HW_.out (by kernel_rfl)) (fun _ _ _ h => h) (Or.inl ⟨by rfl, ?_⟩) hHeld ?_ ?_
  rotate_left; (rintro w' ⟨s0, s1⟩; go_simp; with_reducible rfl); rotate_left; (simp only [Act.put, List.setIfInBounds_toArray, List.set_cons_zero, List.set_cons_succ, i64_w, i32_w]; rfl)
  -- 6: Op.load
  refine take_ (i := 6) (N := some 36) (v := ?_) (a' := ?_) #[true, true, true, true, true, true, true, false, false] rfl rfl (take_ofW HT_.out HW_.out (by kernel_rfl)) (fun _ _ _ h => h) (Or.inl ⟨by rfl, ?_⟩) hHeld ?_ ?_
  rotate_left; (rintro w' ⟨s0, s1⟩; go_simp; with_reducible rfl); rotate_left; (simp only [Act.put, List.setIfInBounds_toArray, List.set_cons_zero, List.set_cons_succ, i64_w, i32_w]; rfl)
  -- 7: Op.call
  refine one_ (i := 7) (N := some 37) #[true, true, true, true, true, true, true, true, false] rfl rfl (one_of HT_.out (by kernel_rfl)) (by decide) (fun K hK => ?_)
  refine goes_ Try.func27 (by kernel_rfl) rfl #[.slice C1 c.Br.length i1, .int .i64 r.f5] (by rfl) rfl rfl (by (try simp only [List.map_toArray, List.map_cons, List.map_nil]); first | done | rfl) ?_
  refine (slices_Index_int_int.calls (c.Br.length + 1) C1 i1 c.Br r.f5 (idxI c.Br r.f5) W4 HCB.out hlb.out (idx_f c.Br r.f5 HBG.out)).mono ?_
  rintro e W5 ⟨rfl, hD⟩
  refine ⟨_, rfl, ?_⟩
  have HD5 := Aside0.mk (Drawn0.below hD)
  have d3 := pw_cell_below HD5.out hHeld.1
  have d5 := pw_cell_below HD5.out hHeld.2
  refine hK.out _ _ ⟨d3, d5⟩ (fun hHeld => ?_)
  clear d3 d5 hD
  clear hK K
  refine norm_ (a' := ?_) ?_ ?_
  rotate_left; (show Act.put _ (some 37) _ = _; simp only [Act.put, List.setIfInBounds_toArray, List.set_cons_zero, List.set_cons_succ, i64_w, i32_w]; rfl)
  -- 8: Op.assign
  refine pure_ (i := 8) (N := some 11) (v := ?_) (a' := ?_) #[true, true, true, true, true, true, true, true, true] rfl rfl (any_of HT_.out (by kernel_rfl)) (fun _ _ _ h => h) (Or.inl ⟨by rfl, ?_⟩) ?_ ?_
  rotate_left; (intro w'; go_simp; with_reducible rfl); rotate_left; (simp only [Act.put, List.setIfInBounds_toArray, List.set_cons_zero, List.set_cons_succ, i64_w, i32_w]; rfl)
  refine done_ (done_of HT_.out (by kernel_rfl)) ?_
  clear HT_ HW_ hHeld HCB hlb
  have HI := Aside0.mk (HI.out.below HD5.out)
  have BZ := Aside0.mk (blk_below BZ.out HD5.out)
  have BR := Aside0.mk (blk_below BR.out HD5.out)
  have HFR := Aside0.mk (HFR.out.then_ (Fr.of_below HD5.out _))
  obtain ⟨_, _, _, d14, dz, _, _, _, _, _, _, _, _, _, _⟩ := HI.out.cells
  clear HD5
  have t3 : decide (0 ≤ idxI c.Br r.f5) = false := by have := HIX.out; simp; omega
  generalize idxI c.Br r.f5 = ix at t3 ⊢
  have HNX := Aside0.mk (next_c c W1.heap.size g now [] _ HI.out HBG.out)
  clear HI
  obtain ⟨s', hs'⟩ : ∃ s' : List S48, s' = [] := ⟨_, rfl⟩
  rw [← hs'] at HNX HV
  have HS' := Aside0.mk hs'
  clear hs'
  generalize nextC c = c' at HNX HV
  go_wp2_with (go_at_call 28; refine HNX.out.mono ?_; rintro e WA ⟨rfl, hI, hK⟩; have HI := Aside0.mk hI; have HKB := Aside0.mk hK; clear hI hK HNX)
  have HFR := Aside0.mk (HFR.out.then_ (HKB.out.mono (fun k hk => by have := HG.out; have := HS1.out; omega) (S2 := fun k => w.heap.size ≤ k)))
  have BZ := Aside0.mk ((HKB.out.block _ (blk_lt BZ.out) (show ¬ (w.heap.size + 1 + 1 = g) by have := HG.out; have := HS1.out; omega)).trans BZ.out)
  have BR := Aside0.mk ((HKB.out.block _ (blk_lt BR.out) (show ¬ (w.heap.size + 1 + 1 + 1 = g) by have := HG.out; have := HS1.out; omega)).trans BR.out)
  clear HKB t3 dz d14 
  obtain ⟨B1, j1, B2, j2, B3, j3, hb, m1, f1, m2, f2, m3, f3, hg⟩ := HI.out.blk
  have BG := Aside0.mk hb
  have FI := Aside0.mk (And.intro m1 (And.intro f1 (And.intro m2 (And.intro f2 (And.intro m3 f3)))))
  clear hb m1 f1 m2 f2 m3 f3 hg HI

  have dg : WA.heap[g]? = some (.cells #[.int .i64 c'.Id, .int .u64 c'.Inc, .int .u64 c'.N, .slice B1 c'.Br.length j1, .int .i64 c'.Busy, .int .i64 c'.Call.f0, .int .u64 c'.Call.f1, .int .u64 c'.Call.f2, .int .i64 c'.Call.f3, .int .i64 c'.Call.f4, .int .i64 c'.Call.f5, .int .u64 c'.Call.f6, .int .u64 c'.Call.f7, .slice B2 c'.Call.f8.length j2, .int .i64 c'.At, .int .u64 c'.Born, .int .u64 c'.Since, .int .u64 now, .slice B3 s'.length j3] 66 (0, 0)) := BG.out
  have d18 : WA.cell? ⟨g, 18, none⟩ = some (.slice B3 s'.length j3) := (cells_at BG.out rfl).1
  refine start_ (n := 13) (S := fun w' => w'.heap[g]? = some (.cells #[.int .i64 c'.Id, .int .u64 c'.Inc, .int .u64 c'.N, .slice B1 c'.Br.length j1, .int .i64 c'.Busy, .int .i64 c'.Call.f0, .int .u64 c'.Call.f1, .int .u64 c'.Call.f2, .int .i64 c'.Call.f3, .int .i64 c'.Call.f4, .int .i64 c'.Call.f5, .int .u64 c'.Call.f6, .int .u64 c'.Call.f7, .slice B2 c'.Call.f8.length j2, .int .i64 c'.At, .int .u64 c'.Born, .int .u64 c'.Since, .int .u64 now, .slice B3 s'.length j3] 66 (0, 0)) ∧ w'.cell? ⟨g, 18, none⟩ = some (.slice B3 s'.length j3)) (ds := []) #[false, false, false, false, false, false, false, false, false, false, false, false, false] (by kernel_rfl) rfl rfl ⟨dg, d18⟩ (fun hHeld => ?_)
  refine with_tabW tak.tab12 tak.bits12 (fun HT_ HW_ => ?_)
  have BZ := Aside0.mk (blk_drew BZ.out)
  have BR := Aside0.mk (blk_drew BR.out)
  have BG := Aside0.mk (blk_drew BG.out)
  have HFR := Aside0.mk HFR.out.drew
  have FI := Aside0.mk (And.intro FI.out.1 (And.intro (Kd.F_drew FI.out.2.1) (And.intro FI.out.2.2.1 (And.intro (Kd.F_drew FI.out.2.2.2.1) (And.intro FI.out.2.2.2.2.1 (Kd.F_drew FI.out.2.2.2.2.2))))))
  clear dg d18
  generalize WA.drew = WB at BZ BR BG HFR FI hHeld ⊢
  -- 0: Op.move
  refine pure_ (i := 0) (N := some 58) (v := ?_) (a' := ?_) #[true, false, false, false, false, false, false, false, false, false, false, false, false] rfl rfl (any_of HT_.out (by kernel_rfl)) (fun _ _ _ h => h) (Or.inl ⟨by rfl, ?_⟩) ?_ ?_
  rotate_left; (intro w'; go_simp; with_reducible rfl); rotate_left; (simp only [Act.put, List.setIfInBounds_toArray, List.set_cons_zero, List.set_cons_succ, i64_w, i32_w]; rfl)
  -- 1: Op.nilCheck
  refine pure_ (i := 1) (N := some 59) (v := ?_) (a' := ?_) #[true, true, false, false, false, false, false, false, false, false, false, false, false] rfl rfl (any_of HT_.out (by kernel_rfl)) (fun _ _ _ h => h) (Or.inl ⟨by rfl, ?_⟩) ?_ ?_
  rotate_left; (intro w'; go_simp; with_reducible rfl); rotate_left; (simp only [Act.put, List.setIfInBounds_toArray, List.set_cons_zero, List.set_cons_succ, i64_w, i32_w]; rfl)
  -- 2: Op.fieldAddr
  refine pure_ (i := 2) (N := some 60) (v := ?_) (a' := ?_) #[true, true, true, false, false, false, false, false, false, false, false, false, false] rfl rfl (any_of HT_.out (by kernel_rfl)) (fun _ _ _ h => h) (Or.inl ⟨by rfl, ?_⟩) ?_ ?_
  rotate_left; (intro w'; go_simp; with_reducible rfl); rotate_left; (simp only [Act.put, List.setIfInBounds_toArray, List.set_cons_zero, List.set_cons_succ, i64_w, i32_w]; rfl)
  -- 4: Op.move
  refine pure_ (i := 4) (N := some 62) (v := ?_) (a' := ?_) #[true, true, true, false, true, false, false, false, false, false, false, false, false] rfl rfl (any_of HT_.out (by kernel_rfl)) (fun _ _ _ h => h) (Or.inl ⟨by rfl, ?_⟩) ?_ ?_
  rotate_left; (intro w'; go_simp; with_reducible rfl); rotate_left; (simp only [Act.put, List.setIfInBounds_toArray, List.set_cons_zero, List.set_cons_succ, i64_w, i32_w]; rfl)
  -- 5: Op.nilCheck
  refine pure_ (i := 5) (N := some 63) (v := ?_) (a' := ?_) #[true, true, true, false, true, true, false, false, false, false, false, false, false] rfl rfl (any_of HT_.out (by kernel_rfl)) (fun _ _ _ h => h) (Or.inl ⟨by rfl, ?_⟩) ?_ ?_
  rotate_left; (intro w'; go_simp; with_reducible rfl); rotate_left; (simp only [Act.put, List.setIfInBounds_toArray, List.set_cons_zero, List.set_cons_succ, i64_w, i32_w]; rfl)
  -- 6: Op.fieldAddr
  refine pure_ (i := 6) (N := some 64) (v := ?_) (a' := ?_) #[true, true, true, false, true, true, true, false, false, false, false, false, false] rfl rfl (any_of HT_.out (by kernel_rfl)) (fun _ _ _ h => h) (Or.inl ⟨by rfl, ?_⟩) ?_ ?_
  rotate_left; (intro w'; go_simp; with_reducible rfl); rotate_left; (simp only [Act.put, List.setIfInBounds_toArray, List.set_cons_zero, List.set_cons_succ, i64_w, i32_w]; rfl)
  -- 8: Op.build
  refine pure_ (i := 8) (N := some 66) (v := ?_) (a' := ?_) #[true, true, true, false, true, true, true, false, true, false, false, false, false] rfl rfl (any_of HT_.out (by kernel_rfl)) (fun _ _ _ h => h) (Or.inl ⟨by rfl, ?_⟩) ?_ ?_
  rotate_left; (intro w'; go_simp; with_reducible rfl); rotate_left; (simp only [Act.put, List.setIfInBounds_toArray, List.set_cons_zero, List.set_cons_succ, i64_w, i32_w]; rfl)
  -- 3: Op.load
  refine take_ (i := 3) (N := some 61) (a' := ?_) #[true, true, true, true, true, true, true, false, true, false, false, false, false] rfl rfl (take_ofW HT_.out HW_.out (by kernel_rfl)) (fun _ _ _ h => h) (yieldsIf_load_mid (by rfl) 29 (.tmp 60) rfl g 0 (by rfl) (rM_ c' B1 j1 B2 j2) _ (fun w' s => blk_range s.1 0 _ rfl) Try.underlying29 rfl (by kernel_rfl)) hHeld ?_ ?_
  rotate_left
  · simp only [Act.put, List.setIfInBounds_toArray, List.set_cons_zero, List.set_cons_succ, List.toArray, i64_w, i32_w]
    rfl
  -- 7: Op.load
  refine take_ (i := 7) (N := some 65) (v := ?_) (a' := ?_) #[true, true, true, true, true, true, true, true, true, false, false, false, false] rfl rfl (take_ofW HT_.out HW_.out (by kernel_rfl)) (fun _ _ _ h => h) (Or.inl ⟨by rfl, ?_⟩) hHeld ?_ ?_
  rotate_left; (rintro w' ⟨s0, s1⟩; go_simp; with_reducible rfl); rotate_left; (simp only [Act.put, List.setIfInBounds_toArray, List.set_cons_zero, List.set_cons_succ, i64_w, i32_w]; rfl)
  -- 9: Op.store
  refine one_ (i := 9) (N := none) #[true, true, true, true, true, true, true, true, true, true, false, false, false] rfl rfl (one_of HT_.out (by kernel_rfl)) (by decide) (fun K hK => ?_)
  refine row_ 29 (.tmp 6) (.tmp 61) (w.heap.size + 1 + 1) (rL_ c' B1 j1 B2 j2) 29 rZC_ (by rfl) rfl rfl (by rfl) (by rfl) BZ.out (by kernel_rfl) (by rfl) (by kernel_rfl) ?_
  refine hK.out _ _ ⟨(setRow_other _ _ _ _ (by have := HG.out; have := HS1.out; omega)).trans hHeld.1, (cell_setRow_other _ _ _ _ (by show g ≠ _; have := HG.out; have := HS1.out; omega)).trans hHeld.2⟩ (fun hHeld => ?_)
  clear hK K
  -- 10: Op.assign
  refine pure_ (i := 10) (N := some 7) (v := ?_) (a' := ?_) #[true, true, true, true, true, true, true, true, true, true, true, false, false] rfl rfl (any_of HT_.out (by kernel_rfl)) (fun _ _ _ h => h) (Or.inl ⟨by rfl, ?_⟩) ?_ ?_
  rotate_left; (intro w'; go_simp; with_reducible rfl); rotate_left; (simp only [Act.put, List.setIfInBounds_toArray, List.set_cons_zero, List.set_cons_succ, i64_w, i32_w]; rfl)
  -- 11: Op.store
  refine one_ (i := 11) (N := none) #[true, true, true, true, true, true, true, true, true, true, true, true, false] rfl rfl (one_of HT_.out (by kernel_rfl)) (by decide) (fun K hK => ?_)
  refine row_ 36 (.tmp 8) (.tmp 66) (w.heap.size + 1 + 1 + 1) rZR_ 36 rZR_ (by rfl) rfl rfl (by rfl) (by rfl) (blk_row_far BR.out (rL_ c' B1 j1 B2 j2) (show w.heap.size + 1 + 1 + 1 ≠ w.heap.size + 1 + 1 by omega)) (by kernel_rfl) (by rfl) (by kernel_rfl) ?_
  refine hK.out _ _ ⟨(setRow_other _ _ _ _ (by have := HG.out; have := HS1.out; omega)).trans hHeld.1, (cell_setRow_other _ _ _ _ (by show g ≠ _; have := HG.out; have := HS1.out; omega)).trans hHeld.2⟩ (fun hHeld => ?_)
  clear hK K
  -- 12: Op.assign
  refine pure_ (i := 12) (N := some 9) (v := ?_) (a' := ?_) #[true, true, true, true, true, true, true, true, true, true, true, true, true] rfl rfl (any_of HT_.out (by kernel_rfl)) (fun _ _ _ h => h) (Or.inl ⟨by rfl, ?_⟩) ?_ ?_
  rotate_left; (intro w'; go_simp; with_reducible rfl); rotate_left; (simp only [Act.put, List.setIfInBounds_toArray, List.set_cons_zero, List.set_cons_succ, i64_w, i32_w]; rfl)
  refine done_ (done_of HT_.out (by kernel_rfl)) ?_
  clear HT_ HW_ hHeld

  have BZN := Aside0.mk (blk_row_far (blk_row BZ.out (rL_ c' B1 j1 B2 j2)) rZR_ (show w.heap.size + 1 + 1 ≠ w.heap.size + 1 + 1 + 1 by omega))
  have BRN := Aside0.mk (blk_row (blk_row_far BR.out (rL_ c' B1 j1 B2 j2) (show w.heap.size + 1 + 1 + 1 ≠ w.heap.size + 1 + 1 by omega)) rZR_)
  have HFRN := Aside0.mk ((HFR.out.setRow (w.heap.size + 1 + 1) (rL_ c' B1 j1 B2 j2) (fun h => by omega)).setRow (w.heap.size + 1 + 1 + 1) rZR_ (fun h => by omega))
  have FN := Aside0.mk ((Fr.setRow (Fr.refl (fun k => k = w.heap.size + 1 + 1 ∨ k = w.heap.size + 1 + 1 + 1) WB) (w.heap.size + 1 + 1) (rL_ c' B1 j1 B2 j2) (fun _ => .inl rfl)).setRow (w.heap.size + 1 + 1 + 1) rZR_ (fun _ => .inr rfl))
  generalize World.setRow _ _ _ = WC at BZN BRN HFRN FN ⊢
  clear BZ BG BR HFR
  go_wp2
  refine bodyPost_ret (results_list (rs := [.cell 6 29, .tmp 7, .cell 8 36, .tmp 9]) rfl (by simp) (.cell (w.heap.size + 1 + 1) 29 (rL_ c' B1 j1 B2 j2) (0, 0) _ rfl BZN.out Try.underlying29 rfl (by kernel_rfl) (.tmp (.cell (w.heap.size + 1 + 1 + 1) 36 rZR_ (0, 0) _ rfl BRN.out Try.underlying36 rfl (by kernel_rfl) (.tmp .nil))))) rfl ?_
  rw [HV.out]
  have hs := HS1.out
  have hw : ∀ k, W1.heap.size ≤ k ∧ k ≠ g → w.heap.size ≤ k := fun k hk => by omega
  have hk : ∀ k, W1.heap.size ≤ k ∧ k ≠ g → k < WB.heap.size → WC.heap[k]? = WB.heap[k]? := fun k hk hlt => FN.out.block k hlt (by omega)
  exact ⟨B1, j1, B2, j2, B3, j3, none, 0, rfl, ⟨Kd.F_mono (Kd.F_step FI.out.2.1 hk) hw, FI.out.1, Kd.F_mono (Kd.F_step FI.out.2.2.2.1 hk) hw, FI.out.2.2.1⟩, ⟨Kd.F_mono (Kd.F_step FI.out.2.2.2.2.2 hk) hw, FI.out.2.2.2.2.1⟩, BodyNew.nil _ _, HFRN.out.below (Nat.le_refl _) (fun _ h => h)⟩
set_option maxHeartbeats 8000000 in
set_option maxRecDepth 100000 in
theorem take_none2 (c : CliS) (A1 : Option Addr) (k1 : Nat) (A2 : Option Addr) (k2 : Nat) (now : Int) (r : S36) (A : Option Addr) (k : Nat) (w : World) (hc : CliIn w c A1 k1 A2 k2) (h3 : Kd.C (Kd.int .u8) w A r.f8.length r.f8) (hl3 : r.f8.length ≤ k) (hb1 : c.Br.length < 1000000) (hb2 : c.Call.f8.length ≤ 140737488351232) (hb3 : r.f8.length ≤ 140737488351232) (hm : mineB c r = true) (hr : r.f3 = 2) (hi : idxI c.Br r.f5 < 0) :
    Calls Try.prog 10 #[.agg (rL_ c A1 k1 A2 k2), .int .u64 now, .agg (rR_ r A k)] w (TakePost w (takeC c now r)) := by
  have HV := Aside0.mk (show takeC c now r = (nextC c, [], z36, false) by unfold takeC; rw [if_pos hm, if_pos (by omega), if_neg (by omega)])
  have HM := Aside0.mk hm
  have HR3 := Aside0.mk hr
  have HIX := Aside0.mk hi
  clear hm hr hi
  have HW1 := Aside0.mk (show (w.alloc (.cells (rL_ c A1 k1 A2 k2) 29)).heap.size = w.heap.size + 1 by simp)
  have HW2 := Aside0.mk (show ((w.alloc (.cells (rL_ c A1 k1 A2 k2) 29)).alloc (.cells (rR_ r A k) 36)).heap.size = w.heap.size + 1 + 1 by simp)
  have HW3 := Aside0.mk (show (((w.alloc (.cells (rL_ c A1 k1 A2 k2) 29)).alloc (.cells (rR_ r A k) 36)).alloc (.cells rZC_ 29)).heap.size = w.heap.size + 1 + 1 + 1 by simp)
  have HB0 := Aside0.mk (below_alloc (below_alloc (below_alloc (below_alloc (Below.refl w.heap.size w) (.cells (rL_ c A1 k1 A2 k2) 29)) (.cells (rR_ r A k) 36)) (.cells rZC_ 29)) (.cells rZR_ 36))
  have BC := Aside0.mk (blk_alloc (blk_alloc (blk_alloc (heap_alloc_new w (.cells (rL_ c A1 k1 A2 k2) 29)) (.cells (rR_ r A k) 36)) (.cells rZC_ 29)) (.cells rZR_ 36))
  have BX := Aside0.mk (HW1.out ▸ blk_alloc (blk_alloc (heap_alloc_new (w.alloc (.cells (rL_ c A1 k1 A2 k2) 29)) (.cells (rR_ r A k) 36)) (.cells rZC_ 29)) (.cells rZR_ 36))
  have BZ := Aside0.mk (HW2.out ▸ blk_alloc (heap_alloc_new ((w.alloc (.cells (rL_ c A1 k1 A2 k2) 29)).alloc (.cells (rR_ r A k) 36)) (.cells rZC_ 29)) (.cells rZR_ 36))
  have BR := Aside0.mk (HW3.out ▸ heap_alloc_new (((w.alloc (.cells (rL_ c A1 k1 A2 k2) 29)).alloc (.cells (rR_ r A k) 36)).alloc (.cells rZC_ 29)) (.cells rZR_ 36))
  have HS1 := Aside0.mk (show ((((w.alloc (.cells (rL_ c A1 k1 A2 k2) 29)).alloc (.cells (rR_ r A k) 36)).alloc (.cells rZC_ 29)).alloc (.cells rZR_ 36)).heap.size = w.heap.size + 4 by simp)
  have HIN := Aside0.mk (hc.below HB0.out)
  have H3 := Aside0.mk (Kd.C_below h3 HB0.out)
  clear hc h3 HW1 HW2 HW3
  go_enter Try.func10, Try.ntmps10
  go_wp2_with (refine wpList_load_row rfl 29 (.tmp 3) rfl w.heap.size (by rfl) 29 (rL_ c A1 k1 A2 k2) (0, 0) _ BC.out Try.underlying29 rfl (by kernel_rfl) ?_)
  generalize World.alloc _ _ = W1 at HB0 BC BX BZ BR HS1 HIN H3 ⊢
  have HWI := Aside0.mk (fun n => with_r c A1 k1 A2 k2 n W1 HIN.out.C1 HIN.out.l1 HIN.out.C2 HIN.out.l2 (by omega) hb2)
  go_wp2_with (first
      | (go_at_call 23; refine (HWI.out _).mono ?_; rintro e W2 ⟨g, rfl, hI, hB⟩; have HI2 := Aside0.mk hI; have HB2 := Aside0.mk hB; clear hI hB HWI; have BX2 := Aside0.mk (blk_below BX.out HB2.out); have BZ2 := Aside0.mk (blk_below BZ.out HB2.out); have BR2 := Aside0.mk (blk_below BR.out HB2.out); have HMI := Aside0.mk (mine_c c _ g _ [] W2 HI2.out r A k); clear BC BX BZ BR)
      | (refine wpList_load_row rfl 36 (.tmp 5) rfl (w.heap.size + 1) (by rfl) 36 (rR_ r A k) (0, 0) _ BX2.out Try.underlying36 rfl (by kernel_rfl) ?_)
      | (go_at_call 26; fail))
  rw [HM.out] at HMI
  have H32 := Aside0.mk (Kd.C_below H3.out HB2.out)
  have HGL := Aside0.mk HI2.out.lt
  have HFR2 := Aside0.mk ((Fr.of_below HB0.out (fun k => w.heap.size ≤ k)).then_ (Fr.of_below HB2.out _))
  have HG := Aside0.mk HI2.out.ge
  clear HIN H3 HB0
  have t1 : (r.f3 == 1) = false := by rw [HR3.out]; rfl
  have t2 : (r.f3 == 2) = true := by rw [HR3.out]; rfl
  go_wp2_with (first
      | (go_at_call 26; refine HMI.out.mono ?_; rintro e W3 ⟨rfl, hB3⟩; have HI := Aside0.mk (HI2.out.below hB3); have BX := Aside0.mk (blk_below BX2.out hB3); have BZ := Aside0.mk (blk_below BZ2.out hB3); have BR := Aside0.mk (blk_below BR2.out hB3); have HFR := Aside0.mk (HFR2.out.then_ (Fr.of_below hB3 _)); have H3 := Aside0.mk (Kd.C_below H32.out hB3); clear hB3 HI2 BX2 BZ2 BR2 HFR2 H32 HMI; have d3f : W3.cell? ⟨w.heap.size + 1, 3, none⟩ = some (.int .i64 r.f3) := (cells_at BX.out rfl).1))
  clear d3f
  have HBG := Aside0.mk hb1
  obtain ⟨C1, i1, d3, d14, dz, _, _, _, _, _, _, _, d4, _, _⟩ := HI.out.cells
  have d5 : W3.cell? ⟨w.heap.size + 1, 5, none⟩ = some (.int .i64 r.f5) := (cells_at BX.out rfl).1
  clear BX H3
  refine start_ (n := 9) (S := fun w' => w'.cell? ⟨g, 3, none⟩ = some (.slice C1 c.Br.length i1) ∧ w'.cell? ⟨w.heap.size + 1, 5, none⟩ = some (.int .i64 r.f5)) (ds := []) #[false, false, false, false, false, false, false, false, false] (by kernel_rfl) rfl rfl ⟨d3, d5⟩ (fun hHeld => ?_)
  refine with_tabW tak.tab7 tak.bits7 (fun HT_ HW_ => ?_)
  have HI := Aside0.mk (HI.out.fr ((Fr.refl (fun _ => False) W3).drew) (fun _ h => h.elim))
  have BZ := Aside0.mk (blk_drew BZ.out)
  have BR := Aside0.mk (blk_drew BR.out)
  have HFR := Aside0.mk HFR.out.drew
  clear d3 d5 d14 dz d4
  generalize W3.drew = W4 at HI BZ BR HFR hHeld ⊢
  obtain ⟨C1', i1', q3, q14, qz, _, _, _, _, _, _, _, _, lb, CB⟩ := HI.out.cells
  obtain ⟨rfl, rfl⟩ : C1 = C1' ∧ i1 = i1' := by
    have h1 := hHeld.1
    rw [q3] at h1
    injection h1 with h1
    injection h1 with h1 _ h2
    exact ⟨h1.symm, h2.symm⟩
  have HCB := Aside0.mk CB
  have hlb := Aside0.mk lb
  clear q3 q14 qz lb CB
  -- 0: Op.move
  refine pure_ (i := 0) (N := some 30) (v := ?_) (a' := ?_) #[true, false, false, false, false, false, false, false, false] rfl rfl (any_of HT_.out (by kernel_rfl)) (fun _ _ _ h => h) (Or.inl ⟨by rfl, ?_⟩) ?_ ?_
  rotate_left; (intro w'; go_simp; with_reducible rfl); rotate_left; (simp only [Act.put, List.setIfInBounds_toArray, List.set_cons_zero, List.set_cons_succ, i64_w, i32_w]; rfl)
  -- 1: Op.nilCheck
  refine pure_ (i := 1) (N := some 31) (v := ?_) (a' := ?_) #[true, true, false, false, false, false, false, false, false] rfl rfl (any_of HT_.out (by kernel_rfl)) (fun _ _ _ h => h) (Or.inl ⟨by rfl, ?_⟩) ?_ ?_
  rotate_left; (intro w'; go_simp; with_reducible rfl); rotate_left; (simp only [Act.put, List.setIfInBounds_toArray, List.set_cons_zero, List.set_cons_succ, i64_w, i32_w]; rfl)
  -- 2: Op.fieldAddr
  refine pure_ (i := 2) (N := some 32) (v := ?_) (a' := ?_) #[true, true, true, false, false, false, false, false, false] rfl rfl (any_of HT_.out (by kernel_rfl)) (fun _ _ _ h => h) (Or.inl ⟨by rfl, ?_⟩) ?_ ?_
  rotate_left; (intro w'; go_simp; with_reducible rfl); rotate_left; (simp only [Act.put, List.setIfInBounds_toArray, List.set_cons_zero, List.set_cons_succ, i64_w, i32_w]; rfl)
  -- 3: Op.fieldAddr
  refine pure_ (i := 3) (N := some 33) (v := ?_) (a' := ?_) #[true, true, true, true, false, false, false, false, false] rfl rfl (any_of HT_.out (by kernel_rfl)) (fun _ _ _ h => h) (Or.inl ⟨by rfl, ?_⟩) ?_ ?_
  rotate_left; (intro w'; go_simp; with_reducible rfl); rotate_left; (simp only [Act.put, List.setIfInBounds_toArray, List.set_cons_zero, List.set_cons_succ, i64_w, i32_w]; rfl)
  -- 5: Op.fieldAddr
  refine pure_ (i := 5) (N := some 35) (v := ?_) (a' := ?_) #[true, true, true, true, false, true, false, false, false] rfl rfl (any_of HT_.out (by kernel_rfl)) (fun _ _ _ h => h) (Or.inl ⟨by rfl, ?_⟩) ?_ ?_
  rotate_left; (intro w'; go_simp; with_reducible rfl); rotate_left; (simp only [Act.put, List.setIfInBounds_toArray, List.set_cons_zero, List.set_cons_succ, i64_w, i32_w]; rfl)
  -- 4: Op.load
  refine take_ (i := 4) (N := some 34) (v := ?_) (a' := ?_) #[true, true, true, true, true, true, false, false, false] rfl rfl (take_ofW HT_.out HW_.out (by kernel_rfl)) (fun _ _ _ h => h) (Or.inl ⟨by rfl, ?_⟩) hHeld ?_ ?_
  rotate_left; (rintro w' ⟨s0, s1⟩; go_simp; with_reducible rfl); rotate_left; (simp only [Act.put, List.setIfInBounds_toArray, List.set_cons_zero, List.set_cons_succ, i64_w, i32_w]; rfl)
  -- 6: Op.load
  refine take_ (i := 6) (N := some 36) (v := ?_) (a' := ?_) #[true, true, true, true, true, true, true, false, false] rfl rfl (take_ofW HT_.out HW_.out (by kernel_rfl)) (fun _ _ _ h => h) (Or.inl ⟨by rfl, ?_⟩) hHeld ?_ ?_
  rotate_left; (rintro w' ⟨s0, s1⟩; go_simp; with_reducible rfl); rotate_left; (simp only [Act.put, List.setIfInBounds_toArray, List.set_cons_zero, List.set_cons_succ, i64_w, i32_w]; rfl)
  -- 7: Op.call
  refine one_ (i := 7) (N := some 37) #[true, true, true, true, true, true, true, true, false] rfl rfl (one_of HT_.out (by kernel_rfl)) (by decide) (fun K hK => ?_)
  refine goes_ Try.func27 (by kernel_rfl) rfl #[.slice C1 c.Br.length i1, .int .i64 r.f5] (by rfl) rfl rfl (by (try simp only [List.map_toArray, List.map_cons, List.map_nil]); first | done | rfl) ?_
  refine (slices_Index_int_int.calls (c.Br.length + 1) C1 i1 c.Br r.f5 (idxI c.Br r.f5) W4 HCB.out hlb.out (idx_f c.Br r.f5 HBG.out)).mono ?_
  rintro e W5 ⟨rfl, hD⟩
  refine ⟨_, rfl, ?_⟩
  have HD5 := Aside0.mk (Drawn0.below hD)
  have d3 := pw_cell_below HD5.out hHeld.1
  have d5 := pw_cell_below HD5.out hHeld.2
  refine hK.out _ _ ⟨d3, d5⟩ (fun hHeld => ?_)
  clear d3 d5 hD
  clear hK K
  refine norm_ (a' := ?_) ?_ ?_
  rotate_left; (show Act.put _ (some 37) _ = _; simp only [Act.put, List.setIfInBounds_toArray, List.set_cons_zero, List.set_cons_succ, i64_w, i32_w]; rfl)
  -- 8: Op.assign
  refine pure_ (i := 8) (N := some 11) (v := ?_) (a' := ?_) #[true, true, true, true, true, true, true, true, true] rfl rfl (any_of HT_.out (by kernel_rfl)) (fun _ _ _ h => h) (Or.inl ⟨by rfl, ?_⟩) ?_ ?_
  rotate_left; (intro w'; go_simp; with_reducible rfl); rotate_left; (simp only [Act.put, List.setIfInBounds_toArray, List.set_cons_zero, List.set_cons_succ, i64_w, i32_w]; rfl)
  refine done_ (done_of HT_.out (by kernel_rfl)) ?_
  clear HT_ HW_ hHeld HCB hlb
  have HI := Aside0.mk (HI.out.below HD5.out)
  have BZ := Aside0.mk (blk_below BZ.out HD5.out)
  have BR := Aside0.mk (blk_below BR.out HD5.out)
  have HFR := Aside0.mk (HFR.out.then_ (Fr.of_below HD5.out _))
  obtain ⟨_, _, _, d14, dz, _, _, _, _, _, _, _, _, _, _⟩ := HI.out.cells
  clear HD5
  have t3 : decide (0 ≤ idxI c.Br r.f5) = false := by have := HIX.out; simp; omega
  generalize idxI c.Br r.f5 = ix at t3 ⊢
  have HNX := Aside0.mk (next_c c W1.heap.size g now [] _ HI.out HBG.out)
  clear HI
  obtain ⟨s', hs'⟩ : ∃ s' : List S48, s' = [] := ⟨_, rfl⟩
  rw [← hs'] at HNX HV
  have HS' := Aside0.mk hs'
  clear hs'
  generalize nextC c = c' at HNX HV
  go_wp2_with (go_at_call 28; refine HNX.out.mono ?_; rintro e WA ⟨rfl, hI, hK⟩; have HI := Aside0.mk hI; have HKB := Aside0.mk hK; clear hI hK HNX)
  have HFR := Aside0.mk (HFR.out.then_ (HKB.out.mono (fun k hk => by have := HG.out; have := HS1.out; omega) (S2 := fun k => w.heap.size ≤ k)))
  have BZ := Aside0.mk ((HKB.out.block _ (blk_lt BZ.out) (show ¬ (w.heap.size + 1 + 1 = g) by have := HG.out; have := HS1.out; omega)).trans BZ.out)
  have BR := Aside0.mk ((HKB.out.block _ (blk_lt BR.out) (show ¬ (w.heap.size + 1 + 1 + 1 = g) by have := HG.out; have := HS1.out; omega)).trans BR.out)
  clear HKB t3 dz d14 
  obtain ⟨B1, j1, B2, j2, B3, j3, hb, m1, f1, m2, f2, m3, f3, hg⟩ := HI.out.blk
  have BG := Aside0.mk hb
  have FI := Aside0.mk (And.intro m1 (And.intro f1 (And.intro m2 (And.intro f2 (And.intro m3 f3)))))
  clear hb m1 f1 m2 f2 m3 f3 hg HI

  have dg : WA.heap[g]? = some (.cells #[.int .i64 c'.Id, .int .u64 c'.Inc, .int .u64 c'.N, .slice B1 c'.Br.length j1, .int .i64 c'.Busy, .int .i64 c'.Call.f0, .int .u64 c'.Call.f1, .int .u64 c'.Call.f2, .int .i64 c'.Call.f3, .int .i64 c'.Call.f4, .int .i64 c'.Call.f5, .int .u64 c'.Call.f6, .int .u64 c'.Call.f7, .slice B2 c'.Call.f8.length j2, .int .i64 c'.At, .int .u64 c'.Born, .int .u64 c'.Since, .int .u64 now, .slice B3 s'.length j3] 66 (0, 0)) := BG.out
  have d18 : WA.cell? ⟨g, 18, none⟩ = some (.slice B3 s'.length j3) := (cells_at BG.out rfl).1
  refine start_ (n := 13) (S := fun w' => w'.heap[g]? = some (.cells #[.int .i64 c'.Id, .int .u64 c'.Inc, .int .u64 c'.N, .slice B1 c'.Br.length j1, .int .i64 c'.Busy, .int .i64 c'.Call.f0, .int .u64 c'.Call.f1, .int .u64 c'.Call.f2, .int .i64 c'.Call.f3, .int .i64 c'.Call.f4, .int .i64 c'.Call.f5, .int .u64 c'.Call.f6, .int .u64 c'.Call.f7, .slice B2 c'.Call.f8.length j2, .int .i64 c'.At, .int .u64 c'.Born, .int .u64 c'.Since, .int .u64 now, .slice B3 s'.length j3] 66 (0, 0)) ∧ w'.cell? ⟨g, 18, none⟩ = some (.slice B3 s'.length j3)) (ds := []) #[false, false, false, false, false, false, false, false, false, false, false, false, false] (by kernel_rfl) rfl rfl ⟨dg, d18⟩ (fun hHeld => ?_)
  refine with_tabW tak.tab12 tak.bits12 (fun HT_ HW_ => ?_)
  have BZ := Aside0.mk (blk_drew BZ.out)
  have BR := Aside0.mk (blk_drew BR.out)
  have BG := Aside0.mk (blk_drew BG.out)
  have HFR := Aside0.mk HFR.out.drew
  have FI := Aside0.mk (And.intro FI.out.1 (And.intro (Kd.F_drew FI.out.2.1) (And.intro FI.out.2.2.1 (And.intro (Kd.F_drew FI.out.2.2.2.1) (And.intro FI.out.2.2.2.2.1 (Kd.F_drew FI.out.2.2.2.2.2))))))
  clear dg d18
  generalize WA.drew = WB at BZ BR BG HFR FI hHeld ⊢
  -- 0: Op.move
  refine pure_ (i := 0) (N := some 58) (v := ?_) (a' := ?_) #[true, false, false, false, false, false, false, false, false, false, false, false, false] rfl rfl (any_of HT_.out (by kernel_rfl)) (fun _ _ _ h => h) (Or.inl ⟨by rfl, ?_⟩) ?_ ?_
  rotate_left; (intro w'; go_simp; with_reducible rfl); rotate_left; (simp only [Act.put, List.setIfInBounds_toArray, List.set_cons_zero, List.set_cons_succ, i64_w, i32_w]; rfl)
  -- 1: Op.nilCheck
  refine pure_ (i := 1) (N := some 59) (v := ?_) (a' := ?_) #[true, true, false, false, false, false, false, false, false, false, false, false, false] rfl rfl (any_of HT_.out (by kernel_rfl)) (fun _ _ _ h => h) (Or.inl ⟨by rfl, ?_⟩) ?_ ?_
  rotate_left; (intro w'; go_simp; with_reducible rfl); rotate_left; (simp only [Act.put, List.setIfInBounds_toArray, List.set_cons_zero, List.set_cons_succ, i64_w, i32_w]; rfl)
  -- 2: Op.fieldAddr
  refine pure_ (i := 2) (N := some 60) (v := ?_) (a' := ?_) #[true, true, true, false, false, false, false, false, false, false, false, false, false] rfl rfl (any_of HT_.out (by kernel_rfl)) (fun _ _ _ h => h) (Or.inl ⟨by rfl, ?_⟩) ?_ ?_
  rotate_left; (intro w'; go_simp; with_reducible rfl); rotate_left; (simp only [Act.put, List.setIfInBounds_toArray, List.set_cons_zero, List.set_cons_succ, i64_w, i32_w]; rfl)
  -- 4: Op.move
  refine pure_ (i := 4) (N := some 62) (v := ?_) (a' := ?_) #[true, true, true, false, true, false, false, false, false, false, false, false, false] rfl rfl (any_of HT_.out (by kernel_rfl)) (fun _ _ _ h => h) (Or.inl ⟨by rfl, ?_⟩) ?_ ?_
  rotate_left; (intro w'; go_simp; with_reducible rfl); rotate_left; (simp only [Act.put, List.setIfInBounds_toArray, List.set_cons_zero, List.set_cons_succ, i64_w, i32_w]; rfl)
  -- 5: Op.nilCheck
  refine pure_ (i := 5) (N := some 63) (v := ?_) (a' := ?_) #[true, true, true, false, true, true, false, false, false, false, false, false, false] rfl rfl (any_of HT_.out (by kernel_rfl)) (fun _ _ _ h => h) (Or.inl ⟨by rfl, ?_⟩) ?_ ?_
  rotate_left; (intro w'; go_simp; with_reducible rfl); rotate_left; (simp only [Act.put, List.setIfInBounds_toArray, List.set_cons_zero, List.set_cons_succ, i64_w, i32_w]; rfl)
  -- 6: Op.fieldAddr
  refine pure_ (i := 6) (N := some 64) (v := ?_) (a' := ?_) #[true, true, true, false, true, true, true, false, false, false, false, false, false] rfl rfl (any_of HT_.out (by kernel_rfl)) (fun _ _ _ h => h) (Or.inl ⟨by rfl, ?_⟩) ?_ ?_
  rotate_left; (intro w'; go_simp; with_reducible rfl); rotate_left; (simp only [Act.put, List.setIfInBounds_toArray, List.set_cons_zero, List.set_cons_succ, i64_w, i32_w]; rfl)
  -- 8: Op.build
  refine pure_ (i := 8) (N := some 66) (v := ?_) (a' := ?_) #[true, true, true, false, true, true, true, false, true, false, false, false, false] rfl rfl (any_of HT_.out (by kernel_rfl)) (fun _ _ _ h => h) (Or.inl ⟨by rfl, ?_⟩) ?_ ?_
  rotate_left; (intro w'; go_simp; with_reducible rfl); rotate_left; (simp only [Act.put, List.setIfInBounds_toArray, List.set_cons_zero, List.set_cons_succ, i64_w, i32_w]; rfl)
  -- 3: Op.load
  refine take_ (i := 3) (N := some 61) (a' := ?_) #[true, true, true, true, true, true, true, false, true, false, false, false, false] rfl rfl (take_ofW HT_.out HW_.out (by kernel_rfl)) (fun _ _ _ h => h) (yieldsIf_load_mid (by rfl) 29 (.tmp 60) rfl g 0 (by rfl) (rM_ c' B1 j1 B2 j2) _ (fun w' s => blk_range s.1 0 _ rfl) Try.underlying29 rfl (by kernel_rfl)) hHeld ?_ ?_
  rotate_left
  · simp only [Act.put, List.setIfInBounds_toArray, List.set_cons_zero, List.set_cons_succ, List.toArray, i64_w, i32_w]
    rfl
  -- 7: Op.load
  refine take_ (i := 7) (N := some 65) (v := ?_) (a' := ?_) #[true, true, true, true, true, true, true, true, true, false, false, false, false] rfl rfl (take_ofW HT_.out HW_.out (by kernel_rfl)) (fun _ _ _ h => h) (Or.inl ⟨by rfl, ?_⟩) hHeld ?_ ?_
  rotate_left; (rintro w' ⟨s0, s1⟩; go_simp; with_reducible rfl); rotate_left; (simp only [Act.put, List.setIfInBounds_toArray, List.set_cons_zero, List.set_cons_succ, i64_w, i32_w]; rfl)
  -- 9: Op.store
  refine one_ (i := 9) (N := none) #[true, true, true, true, true, true, true, true, true, true, false, false, false] rfl rfl (one_of HT_.out (by kernel_rfl)) (by decide) (fun K hK => ?_)
  refine row_ 29 (.tmp 6) (.tmp 61) (w.heap.size + 1 + 1) (rL_ c' B1 j1 B2 j2) 29 rZC_ (by rfl) rfl rfl (by rfl) (by rfl) BZ.out (by kernel_rfl) (by rfl) (by kernel_rfl) ?_
  refine hK.out _ _ ⟨(setRow_other _ _ _ _ (by have := HG.out; have := HS1.out; omega)).trans hHeld.1, (cell_setRow_other _ _ _ _ (by show g ≠ _; have := HG.out; have := HS1.out; omega)).trans hHeld.2⟩ (fun hHeld => ?_)
  clear hK K
  -- 10: Op.assign
  refine pure_ (i := 10) (N := some 7) (v := ?_) (a' := ?_) #[true, true, true, true, true, true, true, true, true, true, true, false, false] rfl rfl (any_of HT_.out (by kernel_rfl)) (fun _ _ _ h => h) (Or.inl ⟨by rfl, ?_⟩) ?_ ?_
  rotate_left; (intro w'; go_simp; with_reducible rfl); rotate_left; (simp only [Act.put, List.setIfInBounds_toArray, List.set_cons_zero, List.set_cons_succ, i64_w, i32_w]; rfl)
  -- 11: Op.store
  refine one_ (i := 11) (N := none) #[true, true, true, true, true, true, true, true, true, true, true, true, false] rfl rfl (one_of HT_.out (by kernel_rfl)) (by decide) (fun K hK => ?_)
  refine row_ 36 (.tmp 8) (.tmp 66) (w.heap.size + 1 + 1 + 1) rZR_ 36 rZR_ (by rfl) rfl rfl (by rfl) (by rfl) (blk_row_far BR.out (rL_ c' B1 j1 B2 j2) (show w.heap.size + 1 + 1 + 1 ≠ w.heap.size + 1 + 1 by omega)) (by kernel_rfl) (by rfl) (by kernel_rfl) ?_
  refine hK.out _ _ ⟨(setRow_other _ _ _ _ (by have := HG.out; have := HS1.out; omega)).trans hHeld.1, (cell_setRow_other _ _ _ _ (by show g ≠ _; have := HG.out; have := HS1.out; omega)).trans hHeld.2⟩ (fun hHeld => ?_)
  clear hK K
  -- 12: Op.assign
  refine pure_ (i := 12) (N := some 9) (v := ?_) (a' := ?_) #[true, true, true, true, true, true, true, true, true, true, true, true, true] rfl rfl (any_of HT_.out (by kernel_rfl)) (fun _ _ _ h => h) (Or.inl ⟨by rfl, ?_⟩) ?_ ?_
  rotate_left; (intro w'; go_simp; with_reducible rfl); rotate_left; (simp only [Act.put, List.setIfInBounds_toArray, List.set_cons_zero, List.set_cons_succ, i64_w, i32_w]; rfl)
  refine done_ (done_of HT_.out (by kernel_rfl)) ?_
  clear HT_ HW_ hHeld

  have BZN := Aside0.mk (blk_row_far (blk_row BZ.out (rL_ c' B1 j1 B2 j2)) rZR_ (show w.heap.size + 1 + 1 ≠ w.heap.size + 1 + 1 + 1 by omega))
  have BRN := Aside0.mk (blk_row (blk_row_far BR.out (rL_ c' B1 j1 B2 j2) (show w.heap.size + 1 + 1 + 1 ≠ w.heap.size + 1 + 1 by omega)) rZR_)
  have HFRN := Aside0.mk ((HFR.out.setRow (w.heap.size + 1 + 1) (rL_ c' B1 j1 B2 j2) (fun h => by omega)).setRow (w.heap.size + 1 + 1 + 1) rZR_ (fun h => by omega))
  have FN := Aside0.mk ((Fr.setRow (Fr.refl (fun k => k = w.heap.size + 1 + 1 ∨ k = w.heap.size + 1 + 1 + 1) WB) (w.heap.size + 1 + 1) (rL_ c' B1 j1 B2 j2) (fun _ => .inl rfl)).setRow (w.heap.size + 1 + 1 + 1) rZR_ (fun _ => .inr rfl))
  generalize World.setRow _ _ _ = WC at BZN BRN HFRN FN ⊢
  clear BZ BG BR HFR
  go_wp2
  refine bodyPost_ret (results_list (rs := [.cell 6 29, .tmp 7, .cell 8 36, .tmp 9]) rfl (by simp) (.cell (w.heap.size + 1 + 1) 29 (rL_ c' B1 j1 B2 j2) (0, 0) _ rfl BZN.out Try.underlying29 rfl (by kernel_rfl) (.tmp (.cell (w.heap.size + 1 + 1 + 1) 36 rZR_ (0, 0) _ rfl BRN.out Try.underlying36 rfl (by kernel_rfl) (.tmp .nil))))) rfl ?_
  rw [HV.out]
  have hs := HS1.out
  have hw : ∀ k, W1.heap.size ≤ k ∧ k ≠ g → w.heap.size ≤ k := fun k hk => by omega
  have hk : ∀ k, W1.heap.size ≤ k ∧ k ≠ g → k < WB.heap.size → WC.heap[k]? = WB.heap[k]? := fun k hk hlt => FN.out.block k hlt (by omega)
  exact ⟨B1, j1, B2, j2, B3, j3, none, 0, rfl, ⟨Kd.F_mono (Kd.F_step FI.out.2.1 hk) hw, FI.out.1, Kd.F_mono (Kd.F_step FI.out.2.2.2.1 hk) hw, FI.out.2.2.1⟩, ⟨Kd.F_mono (Kd.F_step FI.out.2.2.2.2.2 hk) hw, FI.out.2.2.2.2.1⟩, BodyNew.nil _ _, HFRN.out.below (Nat.le_refl _) (fun _ h => h)⟩
set_option maxHeartbeats 8000000 in
set_option maxRecDepth 100000 in
theorem take_same1 (c : CliS) (A1 : Option Addr) (k1 : Nat) (A2 : Option Addr) (k2 : Nat) (now : Int) (r : S36) (A : Option Addr) (k : Nat) (w : World) (hc : CliIn w c A1 k1 A2 k2) (h3 : Kd.C (Kd.int .u8) w A r.f8.length r.f8) (hl3 : r.f8.length ≤ k) (hb1 : c.Br.length < 1000000) (hb2 : c.Call.f8.length ≤ 140737488351232) (hb3 : r.f8.length ≤ 140737488351232) (hm : mineB c r = true) (hr : r.f3 = 1) (hi : 0 ≤ idxI c.Br r.f5 ∧ idxI c.Br r.f5 = c.At) :
    Calls Try.prog 10 #[.agg (rL_ c A1 k1 A2 k2), .int .u64 now, .agg (rR_ r A k)] w (TakePost w (takeC c now r)) := by
  have HV := Aside0.mk (show takeC c now r = (nextC c, [], z36, false) by unfold takeC; rw [if_pos hm, if_pos (by omega), if_neg (by omega)])
  have HM := Aside0.mk hm
  have HR3 := Aside0.mk hr
  have HIX := Aside0.mk hi
  clear hm hr hi
  have HW1 := Aside0.mk (show (w.alloc (.cells (rL_ c A1 k1 A2 k2) 29)).heap.size = w.heap.size + 1 by simp)
  have HW2 := Aside0.mk (show ((w.alloc (.cells (rL_ c A1 k1 A2 k2) 29)).alloc (.cells (rR_ r A k) 36)).heap.size = w.heap.size + 1 + 1 by simp)
  have HW3 := Aside0.mk (show (((w.alloc (.cells (rL_ c A1 k1 A2 k2) 29)).alloc (.cells (rR_ r A k) 36)).alloc (.cells rZC_ 29)).heap.size = w.heap.size + 1 + 1 + 1 by simp)
  have HB0 := Aside0.mk (below_alloc (below_alloc (below_alloc (below_alloc (Below.refl w.heap.size w) (.cells (rL_ c A1 k1 A2 k2) 29)) (.cells (rR_ r A k) 36)) (.cells rZC_ 29)) (.cells rZR_ 36))
  have BC := Aside0.mk (blk_alloc (blk_alloc (blk_alloc (heap_alloc_new w (.cells (rL_ c A1 k1 A2 k2) 29)) (.cells (rR_ r A k) 36)) (.cells rZC_ 29)) (.cells rZR_ 36))
  have BX := Aside0.mk (HW1.out ▸ blk_alloc (blk_alloc (heap_alloc_new (w.alloc (.cells (rL_ c A1 k1 A2 k2) 29)) (.cells (rR_ r A k) 36)) (.cells rZC_ 29)) (.cells rZR_ 36))
  have BZ := Aside0.mk (HW2.out ▸ blk_alloc (heap_alloc_new ((w.alloc (.cells (rL_ c A1 k1 A2 k2) 29)).alloc (.cells (rR_ r A k) 36)) (.cells rZC_ 29)) (.cells rZR_ 36))
  have BR := Aside0.mk (HW3.out ▸ heap_alloc_new (((w.alloc (.cells (rL_ c A1 k1 A2 k2) 29)).alloc (.cells (rR_ r A k) 36)).alloc (.cells rZC_ 29)) (.cells rZR_ 36))
  have HS1 := Aside0.mk (show ((((w.alloc (.cells (rL_ c A1 k1 A2 k2) 29)).alloc (.cells (rR_ r A k) 36)).alloc (.cells rZC_ 29)).alloc (.cells rZR_ 36)).heap.size = w.heap.size + 4 by simp)
  have HIN := Aside0.mk (hc.below HB0.out)
  have H3 := Aside0.mk (Kd.C_below h3 HB0.out)
  clear hc h3 HW1 HW2 HW3
  go_enter Try.func10, Try.ntmps10
  go_wp2_with (refine wpList_load_row rfl 29 (.tmp 3) rfl w.heap.size (by rfl) 29 (rL_ c A1 k1 A2 k2) (0, 0) _ BC.out Try.underlying29 rfl (by kernel_rfl) ?_)
  generalize World.alloc _ _ = W1 at HB0 BC BX BZ BR HS1 HIN H3 ⊢
  have HWI := Aside0.mk (fun n => with_r c A1 k1 A2 k2 n W1 HIN.out.C1 HIN.out.l1 HIN.out.C2 HIN.out.l2 (by omega) hb2)
  go_wp2_with (first
      | (go_at_call 23; refine (HWI.out _).mono ?_; rintro e W2 ⟨g, rfl, hI, hB⟩; have HI2 := Aside0.mk hI; have HB2 := Aside0.mk hB; clear hI hB HWI; have BX2 := Aside0.mk (blk_below BX.out HB2.out); have BZ2 := Aside0.mk (blk_below BZ.out HB2.out); have BR2 := Aside0.mk (blk_below BR.out HB2.out); have HMI := Aside0.mk (mine_c c _ g _ [] W2 HI2.out r A k); clear BC BX BZ BR)
      | (refine wpList_load_row rfl 36 (.tmp 5) rfl (w.heap.size + 1) (by rfl) 36 (rR_ r A k) (0, 0) _ BX2.out Try.underlying36 rfl (by kernel_rfl) ?_)
      | (go_at_call 26; fail))
  rw [HM.out] at HMI
  have H32 := Aside0.mk (Kd.C_below H3.out HB2.out)
  have HGL := Aside0.mk HI2.out.lt
  have HFR2 := Aside0.mk ((Fr.of_below HB0.out (fun k => w.heap.size ≤ k)).then_ (Fr.of_below HB2.out _))
  have HG := Aside0.mk HI2.out.ge
  clear HIN H3 HB0
  have t1 : (r.f3 == 1) = true := by rw [HR3.out]; rfl
  go_wp2_with (first
      | (go_at_call 26; refine HMI.out.mono ?_; rintro e W3 ⟨rfl, hB3⟩; have HI := Aside0.mk (HI2.out.below hB3); have BX := Aside0.mk (blk_below BX2.out hB3); have BZ := Aside0.mk (blk_below BZ2.out hB3); have BR := Aside0.mk (blk_below BR2.out hB3); have HFR := Aside0.mk (HFR2.out.then_ (Fr.of_below hB3 _)); have H3 := Aside0.mk (Kd.C_below H32.out hB3); clear hB3 HI2 BX2 BZ2 BR2 HFR2 H32 HMI; have d3f : W3.cell? ⟨w.heap.size + 1, 3, none⟩ = some (.int .i64 r.f3) := (cells_at BX.out rfl).1))
  clear d3f
  have HBG := Aside0.mk hb1
  obtain ⟨C1, i1, d3, d14, dz, _, _, _, _, _, _, _, d4, _, _⟩ := HI.out.cells
  have d5 : W3.cell? ⟨w.heap.size + 1, 5, none⟩ = some (.int .i64 r.f5) := (cells_at BX.out rfl).1
  clear BX H3
  refine start_ (n := 9) (S := fun w' => w'.cell? ⟨g, 3, none⟩ = some (.slice C1 c.Br.length i1) ∧ w'.cell? ⟨w.heap.size + 1, 5, none⟩ = some (.int .i64 r.f5)) (ds := []) #[false, false, false, false, false, false, false, false, false] (by kernel_rfl) rfl rfl ⟨d3, d5⟩ (fun hHeld => ?_)
  refine with_tabW tak.tab7 tak.bits7 (fun HT_ HW_ => ?_)
  have HI := Aside0.mk (HI.out.fr ((Fr.refl (fun _ => False) W3).drew) (fun _ h => h.elim))
  have BZ := Aside0.mk (blk_drew BZ.out)
  have BR := Aside0.mk (blk_drew BR.out)
  have HFR := Aside0.mk HFR.out.drew
  clear d3 d5 d14 dz d4
  generalize W3.drew = W4 at HI BZ BR HFR hHeld ⊢
  obtain ⟨C1', i1', q3, q14, qz, _, _, _, _, _, _, _, _, lb, CB⟩ := HI.out.cells
  obtain ⟨rfl, rfl⟩ : C1 = C1' ∧ i1 = i1' := by
    have h1 := hHeld.1
    rw [q3] at h1
    injection h1 with h1
    injection h1 with h1 _ h2
    exact ⟨h1.symm, h2.symm⟩
  have HCB := Aside0.mk CB
  have hlb := Aside0.mk lb
  clear q3 q14 qz lb CB
  -- 0: Op.move
  refine pure_ (i := 0) (N := some 30) (v := ?_) (a' := ?_) #[true, false, false, false, false, false, false, false, false] rfl rfl (any_of HT_.out (by kernel_rfl)) (fun _ _ _ h => h) (Or.inl ⟨by rfl, ?_⟩) ?_ ?_
  rotate_left; (intro w'; go_simp; with_reducible rfl); rotate_left; (simp only [Act.put, List.setIfInBounds_toArray, List.set_cons_zero, List.set_cons_succ, i64_w, i32_w]; rfl)
  -- 1: Op.nilCheck
  refine pure_ (i := 1) (N := some 31) (v := ?_) (a' := ?_) #[true, true, false, false, false, false, false, false, false] rfl rfl (any_of HT_.out (by kernel_rfl)) (fun _ _ _ h => h) (Or.inl ⟨by rfl, ?_⟩) ?_ ?_
  rotate_left; (intro w'; go_simp; with_reducible rfl); rotate_left; (simp only [Act.put, List.setIfInBounds_toArray, List.set_cons_zero, List.set_cons_succ, i64_w, i32_w]; rfl)
  -- 2: Op.fieldAddr
  refine pure_ (i := 2) (N := some 32) (v := ?_) (a' := ?_) #[true, true, true, false, false, false, false, false, false] rfl rfl (any_of HT_.out (by kernel_rfl)) (fun _ _ _ h => h) (Or.inl ⟨by rfl, ?_⟩) ?_ ?_
  rotate_left; (intro w'; go_simp; with_reducible rfl); rotate_left; (simp only [Act.put, List.setIfInBounds_toArray, List.set_cons_zero, List.set_cons_succ, i64_w, i32_w]; rfl)
  -- 3: Op.fieldAddr
  refine pure_ (i := 3) (N := some 33) (v := ?_) (a' := ?_) #[true, true, true, true, false, false, false, false, false] rfl rfl (any_of HT_.out (by kernel_rfl)) (fun _ _ _ h => h) (Or.inl ⟨by rfl, ?_⟩) ?_ ?_
  rotate_left; (intro w'; go_simp; with_reducible rfl); rotate_left; (simp only [Act.put, List.setIfInBounds_toArray, List.set_cons_zero, List.set_cons_succ, i64_w, i32_w]; rfl)
  -- 5: Op.fieldAddr
  refine pure_ (i := 5) (N := some 35) (v := ?_) (a' := ?_) #[true, true, true, true, false, true, false, false, false] rfl rfl (any_of HT_.out (by kernel_rfl)) (fun _ _ _ h => h) (Or.inl ⟨by rfl, ?_⟩) ?_ ?_
  rotate_left; (intro w'; go_simp; with_reducible rfl); rotate_left; (simp only [Act.put, List.setIfInBounds_toArray, List.set_cons_zero, List.set_cons_succ, i64_w, i32_w]; rfl)
  -- 4: Op.load
  refine take_ (i := 4) (N := some 34) (v := ?_) (a' := ?_) #[true, true, true, true, true, true, false, false, false] rfl rfl (take_ofW HT_.out HW_.out (by kernel_rfl)) (fun _ _ _ h => h) (Or.inl ⟨by rfl, ?_⟩) hHeld ?_ ?_
  rotate_left; (rintro w' ⟨s0, s1⟩; go_simp; with_reducible rfl); rotate_left; (simp only [Act.put, List.setIfInBounds_toArray, List.set_cons_zero, List.set_cons_succ, i64_w, i32_w]; rfl)
  -- 6: Op.load
  refine take_ (i := 6) (N := some 36) (v := ?_) (a' := ?_) #[true, true, true, true, true, true, true, false, false] rfl rfl (take_ofW HT_.out HW_.out (by kernel_rfl)) (fun _ _ _ h => h) (Or.inl ⟨by rfl, ?_⟩) hHeld ?_ ?_
  rotate_left; (rintro w' ⟨s0, s1⟩; go_simp; with_reducible rfl); rotate_left; (simp only [Act.put, List.setIfInBounds_toArray, List.set_cons_zero, List.set_cons_succ, i64_w, i32_w]; rfl)
  -- 7: Op.call
  refine one_ (i := 7) (N := some 37) #[true, true, true, true, true, true, true, true, false] rfl rfl (one_of HT_.out (by kernel_rfl)) (by decide) (fun K hK => ?_)
  refine goes_ Try.func27 (by kernel_rfl) rfl #[.slice C1 c.Br.length i1, .int .i64 r.f5] (by rfl) rfl rfl (by (try simp only [List.map_toArray, List.map_cons, List.map_nil]); first | done | rfl) ?_
  refine (slices_Index_int_int.calls (c.Br.length + 1) C1 i1 c.Br r.f5 (idxI c.Br r.f5) W4 HCB.out hlb.out (idx_f c.Br r.f5 HBG.out)).mono ?_
  rintro e W5 ⟨rfl, hD⟩
  refine ⟨_, rfl, ?_⟩
  have HD5 := Aside0.mk (Drawn0.below hD)
  have d3 := pw_cell_below HD5.out hHeld.1
  have d5 := pw_cell_below HD5.out hHeld.2
  refine hK.out _ _ ⟨d3, d5⟩ (fun hHeld => ?_)
  clear d3 d5 hD
  clear hK K
  refine norm_ (a' := ?_) ?_ ?_
  rotate_left; (show Act.put _ (some 37) _ = _; simp only [Act.put, List.setIfInBounds_toArray, List.set_cons_zero, List.set_cons_succ, i64_w, i32_w]; rfl)
  -- 8: Op.assign
  refine pure_ (i := 8) (N := some 11) (v := ?_) (a' := ?_) #[true, true, true, true, true, true, true, true, true] rfl rfl (any_of HT_.out (by kernel_rfl)) (fun _ _ _ h => h) (Or.inl ⟨by rfl, ?_⟩) ?_ ?_
  rotate_left; (intro w'; go_simp; with_reducible rfl); rotate_left; (simp only [Act.put, List.setIfInBounds_toArray, List.set_cons_zero, List.set_cons_succ, i64_w, i32_w]; rfl)
  refine done_ (done_of HT_.out (by kernel_rfl)) ?_
  clear HT_ HW_ hHeld HCB hlb
  have HI := Aside0.mk (HI.out.below HD5.out)
  have BZ := Aside0.mk (blk_below BZ.out HD5.out)
  have BR := Aside0.mk (blk_below BR.out HD5.out)
  have HFR := Aside0.mk (HFR.out.then_ (Fr.of_below HD5.out _))
  obtain ⟨_, _, _, d14, dz, _, _, _, _, _, _, _, _, _, _⟩ := HI.out.cells
  clear HD5
  have t3 : decide (0 ≤ idxI c.Br r.f5) = true := by simpa using HIX.out.1
  have t4 : (idxI c.Br r.f5 != c.At) = false := by simp [HIX.out.2]
  generalize idxI c.Br r.f5 = ix at t3 t4 ⊢
  have HNX := Aside0.mk (next_c c W1.heap.size g now [] _ HI.out HBG.out)
  clear HI
  obtain ⟨s', hs'⟩ : ∃ s' : List S48, s' = [] := ⟨_, rfl⟩
  rw [← hs'] at HNX HV
  have HS' := Aside0.mk hs'
  clear hs'
  generalize nextC c = c' at HNX HV
  go_wp2_with (go_at_call 28; refine HNX.out.mono ?_; rintro e WA ⟨rfl, hI, hK⟩; have HI := Aside0.mk hI; have HKB := Aside0.mk hK; clear hI hK HNX)
  have HFR := Aside0.mk (HFR.out.then_ (HKB.out.mono (fun k hk => by have := HG.out; have := HS1.out; omega) (S2 := fun k => w.heap.size ≤ k)))
  have BZ := Aside0.mk ((HKB.out.block _ (blk_lt BZ.out) (show ¬ (w.heap.size + 1 + 1 = g) by have := HG.out; have := HS1.out; omega)).trans BZ.out)
  have BR := Aside0.mk ((HKB.out.block _ (blk_lt BR.out) (show ¬ (w.heap.size + 1 + 1 + 1 = g) by have := HG.out; have := HS1.out; omega)).trans BR.out)
  clear HKB t3 dz d14 t4
  obtain ⟨B1, j1, B2, j2, B3, j3, hb, m1, f1, m2, f2, m3, f3, hg⟩ := HI.out.blk
  have BG := Aside0.mk hb
  have FI := Aside0.mk (And.intro m1 (And.intro f1 (And.intro m2 (And.intro f2 (And.intro m3 f3)))))
  clear hb m1 f1 m2 f2 m3 f3 hg HI

  have dg : WA.heap[g]? = some (.cells #[.int .i64 c'.Id, .int .u64 c'.Inc, .int .u64 c'.N, .slice B1 c'.Br.length j1, .int .i64 c'.Busy, .int .i64 c'.Call.f0, .int .u64 c'.Call.f1, .int .u64 c'.Call.f2, .int .i64 c'.Call.f3, .int .i64 c'.Call.f4, .int .i64 c'.Call.f5, .int .u64 c'.Call.f6, .int .u64 c'.Call.f7, .slice B2 c'.Call.f8.length j2, .int .i64 c'.At, .int .u64 c'.Born, .int .u64 c'.Since, .int .u64 now, .slice B3 s'.length j3] 66 (0, 0)) := BG.out
  have d18 : WA.cell? ⟨g, 18, none⟩ = some (.slice B3 s'.length j3) := (cells_at BG.out rfl).1
  refine start_ (n := 13) (S := fun w' => w'.heap[g]? = some (.cells #[.int .i64 c'.Id, .int .u64 c'.Inc, .int .u64 c'.N, .slice B1 c'.Br.length j1, .int .i64 c'.Busy, .int .i64 c'.Call.f0, .int .u64 c'.Call.f1, .int .u64 c'.Call.f2, .int .i64 c'.Call.f3, .int .i64 c'.Call.f4, .int .i64 c'.Call.f5, .int .u64 c'.Call.f6, .int .u64 c'.Call.f7, .slice B2 c'.Call.f8.length j2, .int .i64 c'.At, .int .u64 c'.Born, .int .u64 c'.Since, .int .u64 now, .slice B3 s'.length j3] 66 (0, 0)) ∧ w'.cell? ⟨g, 18, none⟩ = some (.slice B3 s'.length j3)) (ds := []) #[false, false, false, false, false, false, false, false, false, false, false, false, false] (by kernel_rfl) rfl rfl ⟨dg, d18⟩ (fun hHeld => ?_)
  refine with_tabW tak.tab12 tak.bits12 (fun HT_ HW_ => ?_)
  have BZ := Aside0.mk (blk_drew BZ.out)
  have BR := Aside0.mk (blk_drew BR.out)
  have BG := Aside0.mk (blk_drew BG.out)
  have HFR := Aside0.mk HFR.out.drew
  have FI := Aside0.mk (And.intro FI.out.1 (And.intro (Kd.F_drew FI.out.2.1) (And.intro FI.out.2.2.1 (And.intro (Kd.F_drew FI.out.2.2.2.1) (And.intro FI.out.2.2.2.2.1 (Kd.F_drew FI.out.2.2.2.2.2))))))
  clear dg d18
  generalize WA.drew = WB at BZ BR BG HFR FI hHeld ⊢
  -- 0: Op.move
  refine pure_ (i := 0) (N := some 58) (v := ?_) (a' := ?_) #[true, false, false, false, false, false, false, false, false, false, false, false, false] rfl rfl (any_of HT_.out (by kernel_rfl)) (fun _ _ _ h => h) (Or.inl ⟨by rfl, ?_⟩) ?_ ?_
  rotate_left; (intro w'; go_simp; with_reducible rfl); rotate_left; (simp only [Act.put, List.setIfInBounds_toArray, List.set_cons_zero, List.set_cons_succ, i64_w, i32_w]; rfl)
  -- 1: Op.nilCheck
  refine pure_ (i := 1) (N := some 59) (v := ?_) (a' := ?_) #[true, true, false, false, false, false, false, false, false, false, false, false, false] rfl rfl (any_of HT_.out (by kernel_rfl)) (fun _ _ _ h => h) (Or.inl ⟨by rfl, ?_⟩) ?_ ?_
  rotate_left; (intro w'; go_simp; with_reducible rfl); rotate_left; (simp only [Act.put, List.setIfInBounds_toArray, List.set_cons_zero, List.set_cons_succ, i64_w, i32_w]; rfl)
  -- 2: Op.fieldAddr
  refine pure_ (i := 2) (N := some 60) (v := ?_) (a' := ?_) #[true, true, true, false, false, false, false, false, false, false, false, false, false] rfl rfl (any_of HT_.out (by kernel_rfl)) (fun _ _ _ h => h) (Or.inl ⟨by rfl, ?_⟩) ?_ ?_
  rotate_left; (intro w'; go_simp; with_reducible rfl); rotate_left; (simp only [Act.put, List.setIfInBounds_toArray, List.set_cons_zero, List.set_cons_succ, i64_w, i32_w]; rfl)
  -- 4: Op.move
  refine pure_ (i := 4) (N := some 62) (v := ?_) (a' := ?_) #[true, true, true, false, true, false, false, false, false, false, false, false, false] rfl rfl (any_of HT_.out (by kernel_rfl)) (fun _ _ _ h => h) (Or.inl ⟨by rfl, ?_⟩) ?_ ?_
  rotate_left; (intro w'; go_simp; with_reducible rfl); rotate_left; (simp only [Act.put, List.setIfInBounds_toArray, List.set_cons_zero, List.set_cons_succ, i64_w, i32_w]; rfl)
  -- 5: Op.nilCheck
  refine pure_ (i := 5) (N := some 63) (v := ?_) (a' := ?_) #[true, true, true, false, true, true, false, false, false, false, false, false, false] rfl rfl (any_of HT_.out (by kernel_rfl)) (fun _ _ _ h => h) (Or.inl ⟨by rfl, ?_⟩) ?_ ?_
  rotate_left; (intro w'; go_simp; with_reducible rfl); rotate_left; (simp only [Act.put, List.setIfInBounds_toArray, List.set_cons_zero, List.set_cons_succ, i64_w, i32_w]; rfl)
  -- 6: Op.fieldAddr
  refine pure_ (i := 6) (N := some 64) (v := ?_) (a' := ?_) #[true, true, true, false, true, true, true, false, false, false, false, false, false] rfl rfl (any_of HT_.out (by kernel_rfl)) (fun _ _ _ h => h) (Or.inl ⟨by rfl, ?_⟩) ?_ ?_
  rotate_left; (intro w'; go_simp; with_reducible rfl); rotate_left; (simp only [Act.put, List.setIfInBounds_toArray, List.set_cons_zero, List.set_cons_succ, i64_w, i32_w]; rfl)
  -- 8: Op.build
  refine pure_ (i := 8) (N := some 66) (v := ?_) (a' := ?_) #[true, true, true, false, true, true, true, false, true, false, false, false, false] rfl rfl (any_of HT_.out (by kernel_rfl)) (fun _ _ _ h => h) (Or.inl ⟨by rfl, ?_⟩) ?_ ?_
  rotate_left; (intro w'; go_simp; with_reducible rfl); rotate_left; (simp only [Act.put, List.setIfInBounds_toArray, List.set_cons_zero, List.set_cons_succ, i64_w, i32_w]; rfl)
  -- 3: Op.load
  refine take_ (i := 3) (N := some 61) (a' := ?_) #[true, true, true, true, true, true, true, false, true, false, false, false, false] rfl rfl (take_ofW HT_.out HW_.out (by kernel_rfl)) (fun _ _ _ h => h) (yieldsIf_load_mid (by rfl) 29 (.tmp 60) rfl g 0 (by rfl) (rM_ c' B1 j1 B2 j2) _ (fun w' s => blk_range s.1 0 _ rfl) Try.underlying29 rfl (by kernel_rfl)) hHeld ?_ ?_
  rotate_left
  · simp only [Act.put, List.setIfInBounds_toArray, List.set_cons_zero, List.set_cons_succ, List.toArray, i64_w, i32_w]
    rfl
  -- 7: Op.load
  refine take_ (i := 7) (N := some 65) (v := ?_) (a' := ?_) #[true, true, true, true, true, true, true, true, true, false, false, false, false] rfl rfl (take_ofW HT_.out HW_.out (by kernel_rfl)) (fun _ _ _ h => h) (Or.inl ⟨by rfl, ?_⟩) hHeld ?_ ?_
  rotate_left; (rintro w' ⟨s0, s1⟩; go_simp; with_reducible rfl); rotate_left; (simp only [Act.put, List.setIfInBounds_toArray, List.set_cons_zero, List.set_cons_succ, i64_w, i32_w]; rfl)
  -- 9: Op.store
  refine one_ (i := 9) (N := none) #[true, true, true, true, true, true, true, true, true, true, false, false, false] rfl rfl (one_of HT_.out (by kernel_rfl)) (by decide) (fun K hK => ?_)
  refine row_ 29 (.tmp 6) (.tmp 61) (w.heap.size + 1 + 1) (rL_ c' B1 j1 B2 j2) 29 rZC_ (by rfl) rfl rfl (by rfl) (by rfl) BZ.out (by kernel_rfl) (by rfl) (by kernel_rfl) ?_
  refine hK.out _ _ ⟨(setRow_other _ _ _ _ (by have := HG.out; have := HS1.out; omega)).trans hHeld.1, (cell_setRow_other _ _ _ _ (by show g ≠ _; have := HG.out; have := HS1.out; omega)).trans hHeld.2⟩ (fun hHeld => ?_)
  clear hK K
  -- 10: Op.assign
  refine pure_ (i := 10) (N := some 7) (v := ?_) (a' := ?_) #[true, true, true, true, true, true, true, true, true, true, true, false, false] rfl rfl (any_of HT_.out (by kernel_rfl)) (fun _ _ _ h => h) (Or.inl ⟨by rfl, ?_⟩) ?_ ?_
  rotate_left; (intro w'; go_simp; with_reducible rfl); rotate_left; (simp only [Act.put, List.setIfInBounds_toArray, List.set_cons_zero, List.set_cons_succ, i64_w, i32_w]; rfl)
  -- 11: Op.store
  refine one_ (i := 11) (N := none) #[true, true, true, true, true, true, true, true, true, true, true, true, false] rfl rfl (one_of HT_.out (by kernel_rfl)) (by decide) (fun K hK => ?_)
  refine row_ 36 (.tmp 8) (.tmp 66) (w.heap.size + 1 + 1 + 1) rZR_ 36 rZR_ (by rfl) rfl rfl (by rfl) (by rfl) (blk_row_far BR.out (rL_ c' B1 j1 B2 j2) (show w.heap.size + 1 + 1 + 1 ≠ w.heap.size + 1 + 1 by omega)) (by kernel_rfl) (by rfl) (by kernel_rfl) ?_
  refine hK.out _ _ ⟨(setRow_other _ _ _ _ (by have := HG.out; have := HS1.out; omega)).trans hHeld.1, (cell_setRow_other _ _ _ _ (by show g ≠ _; have := HG.out; have := HS1.out; omega)).trans hHeld.2⟩ (fun hHeld => ?_)
  clear hK K
  -- 12: Op.assign
  refine pure_ (i := 12) (N := some 9) (v := ?_) (a' := ?_) #[true, true, true, true, true, true, true, true, true, true, true, true, true] rfl rfl (any_of HT_.out (by kernel_rfl)) (fun _ _ _ h => h) (Or.inl ⟨by rfl, ?_⟩) ?_ ?_
  rotate_left; (intro w'; go_simp; with_reducible rfl); rotate_left; (simp only [Act.put, List.setIfInBounds_toArray, List.set_cons_zero, List.set_cons_succ, i64_w, i32_w]; rfl)
  refine done_ (done_of HT_.out (by kernel_rfl)) ?_
  clear HT_ HW_ hHeld

  have BZN := Aside0.mk (blk_row_far (blk_row BZ.out (rL_ c' B1 j1 B2 j2)) rZR_ (show w.heap.size + 1 + 1 ≠ w.heap.size + 1 + 1 + 1 by omega))
  have BRN := Aside0.mk (blk_row (blk_row_far BR.out (rL_ c' B1 j1 B2 j2) (show w.heap.size + 1 + 1 + 1 ≠ w.heap.size + 1 + 1 by omega)) rZR_)
  have HFRN := Aside0.mk ((HFR.out.setRow (w.heap.size + 1 + 1) (rL_ c' B1 j1 B2 j2) (fun h => by omega)).setRow (w.heap.size + 1 + 1 + 1) rZR_ (fun h => by omega))
  have FN := Aside0.mk ((Fr.setRow (Fr.refl (fun k => k = w.heap.size + 1 + 1 ∨ k = w.heap.size + 1 + 1 + 1) WB) (w.heap.size + 1 + 1) (rL_ c' B1 j1 B2 j2) (fun _ => .inl rfl)).setRow (w.heap.size + 1 + 1 + 1) rZR_ (fun _ => .inr rfl))
  generalize World.setRow _ _ _ = WC at BZN BRN HFRN FN ⊢
  clear BZ BG BR HFR
  go_wp2
  refine bodyPost_ret (results_list (rs := [.cell 6 29, .tmp 7, .cell 8 36, .tmp 9]) rfl (by simp) (.cell (w.heap.size + 1 + 1) 29 (rL_ c' B1 j1 B2 j2) (0, 0) _ rfl BZN.out Try.underlying29 rfl (by kernel_rfl) (.tmp (.cell (w.heap.size + 1 + 1 + 1) 36 rZR_ (0, 0) _ rfl BRN.out Try.underlying36 rfl (by kernel_rfl) (.tmp .nil))))) rfl ?_
  rw [HV.out]
  have hs := HS1.out
  have hw : ∀ k, W1.heap.size ≤ k ∧ k ≠ g → w.heap.size ≤ k := fun k hk => by omega
  have hk : ∀ k, W1.heap.size ≤ k ∧ k ≠ g → k < WB.heap.size → WC.heap[k]? = WB.heap[k]? := fun k hk hlt => FN.out.block k hlt (by omega)
  exact ⟨B1, j1, B2, j2, B3, j3, none, 0, rfl, ⟨Kd.F_mono (Kd.F_step FI.out.2.1 hk) hw, FI.out.1, Kd.F_mono (Kd.F_step FI.out.2.2.2.1 hk) hw, FI.out.2.2.1⟩, ⟨Kd.F_mono (Kd.F_step FI.out.2.2.2.2.2 hk) hw, FI.out.2.2.2.2.1⟩, BodyNew.nil _ _, HFRN.out.below (Nat.le_refl _) (fun _ h => h)⟩
set_option maxHeartbeats 8000000 in
set_option maxRecDepth 100000 in
theorem take_same2 (c : CliS) (A1 : Option Addr) (k1 : Nat) (A2 : Option Addr) (k2 : Nat) (now : Int) (r : S36) (A : Option Addr) (k : Nat) (w : World) (hc : CliIn w c A1 k1 A2 k2) (h3 : Kd.C (Kd.int .u8) w A r.f8.length r.f8) (hl3 : r.f8.length ≤ k) (hb1 : c.Br.length < 1000000) (hb2 : c.Call.f8.length ≤ 140737488351232) (hb3 : r.f8.length ≤ 140737488351232) (hm : mineB c r = true) (hr : r.f3 = 2) (hi : 0 ≤ idxI c.Br r.f5 ∧ idxI c.Br r.f5 = c.At) :
    Calls Try.prog 10 #[.agg (rL_ c A1 k1 A2 k2), .int .u64 now, .agg (rR_ r A k)] w (TakePost w (takeC c now r)) := by
  have HV := Aside0.mk (show takeC c now r = (nextC c, [], z36, false) by unfold takeC; rw [if_pos hm, if_pos (by omega), if_neg (by omega)])
  have HM := Aside0.mk hm
  have HR3 := Aside0.mk hr
  have HIX := Aside0.mk hi
  clear hm hr hi
  have HW1 := Aside0.mk (show (w.alloc (.cells (rL_ c A1 k1 A2 k2) 29)).heap.size = w.heap.size + 1 by simp)
  have HW2 := Aside0.mk (show ((w.alloc (.cells (rL_ c A1 k1 A2 k2) 29)).alloc (.cells (rR_ r A k) 36)).heap.size = w.heap.size + 1 + 1 by simp)
  have HW3 := Aside0.mk (show (((w.alloc (.cells (rL_ c A1 k1 A2 k2) 29)).alloc (.cells (rR_ r A k) 36)).alloc (.cells rZC_ 29)).heap.size = w.heap.size + 1 + 1 + 1 by simp)
  have HB0 := Aside0.mk (below_alloc (below_alloc (below_alloc (below_alloc (Below.refl w.heap.size w) (.cells (rL_ c A1 k1 A2 k2) 29)) (.cells (rR_ r A k) 36)) (.cells rZC_ 29)) (.cells rZR_ 36))
  have BC := Aside0.mk (blk_alloc (blk_alloc (blk_alloc (heap_alloc_new w (.cells (rL_ c A1 k1 A2 k2) 29)) (.cells (rR_ r A k) 36)) (.cells rZC_ 29)) (.cells rZR_ 36))
  have BX := Aside0.mk (HW1.out ▸ blk_alloc (blk_alloc (heap_alloc_new (w.alloc (.cells (rL_ c A1 k1 A2 k2) 29)) (.cells (rR_ r A k) 36)) (.cells rZC_ 29)) (.cells rZR_ 36))
  have BZ := Aside0.mk (HW2.out ▸ blk_alloc (heap_alloc_new ((w.alloc (.cells (rL_ c A1 k1 A2 k2) 29)).alloc (.cells (rR_ r A k) 36)) (.cells rZC_ 29)) (.cells rZR_ 36))
  have BR := Aside0.mk (HW3.out ▸ heap_alloc_new (((w.alloc (.cells (rL_ c A1 k1 A2 k2) 29)).alloc (.cells (rR_ r A k) 36)).alloc (.cells rZC_ 29)) (.cells rZR_ 36))
  have HS1 := Aside0.mk (show ((((w.alloc (.cells (rL_ c A1 k1 A2 k2) 29)).alloc (.cells (rR_ r A k) 36)).alloc (.cells rZC_ 29)).alloc (.cells rZR_ 36)).heap.size = w.heap.size + 4 by simp)
  have HIN := Aside0.mk (hc.below HB0.out)
  have H3 := Aside0.mk (Kd.C_below h3 HB0.out)
  clear hc h3 HW1 HW2 HW3
  go_enter Try.func10, Try.ntmps10
  go_wp2_with (refine wpList_load_row rfl 29 (.tmp 3) rfl w.heap.size (by rfl) 29 (rL_ c A1 k1 A2 k2) (0, 0) _ BC.out Try.underlying29 rfl (by kernel_rfl) ?_)
  generalize World.alloc _ _ = W1 at HB0 BC BX BZ BR HS1 HIN H3 ⊢
  have HWI := Aside0.mk (fun n => with_r c A1 k1 A2 k2 n W1 HIN.out.C1 HIN.out.l1 HIN.out.C2 HIN.out.l2 (by omega) hb2)
  go_wp2_with (first
      | (go_at_call 23; refine (HWI.out _).mono ?_; rintro e W2 ⟨g, rfl, hI, hB⟩; have HI2 := Aside0.mk hI; have HB2 := Aside0.mk hB; clear hI hB HWI; have BX2 := Aside0.mk (blk_below BX.out HB2.out); have BZ2 := Aside0.mk (blk_below BZ.out HB2.out); have BR2 := Aside0.mk (blk_below BR.out HB2.out); have HMI := Aside0.mk (mine_c c _ g _ [] W2 HI2.out r A k); clear BC BX BZ BR)
      | (refine wpList_load_row rfl 36 (.tmp 5) rfl (w.heap.size + 1) (by rfl) 36 (rR_ r A k) (0, 0) _ BX2.out Try.underlying36 rfl (by kernel_rfl) ?_)
      | (go_at_call 26; fail))
  rw [HM.out] at HMI
  have H32 := Aside0.mk (Kd.C_below H3.out HB2.out)
  have HGL := Aside0.mk HI2.out.lt
  have HFR2 := Aside0.mk ((Fr.of_below HB0.out (fun k => w.heap.size ≤ k)).then_ (Fr.of_below HB2.out _))
  have HG := Aside0.mk HI2.out.ge
  clear HIN H3 HB0
  have t1 : (r.f3 == 1) = false := by rw [HR3.out]; rfl
  have t2 : (r.f3 == 2) = true := by rw [HR3.out]; rfl
  go_wp2_with (first
      | (go_at_call 26; refine HMI.out.mono ?_; rintro e W3 ⟨rfl, hB3⟩; have HI := Aside0.mk (HI2.out.below hB3); have BX := Aside0.mk (blk_below BX2.out hB3); have BZ := Aside0.mk (blk_below BZ2.out hB3); have BR := Aside0.mk (blk_below BR2.out hB3); have HFR := Aside0.mk (HFR2.out.then_ (Fr.of_below hB3 _)); have H3 := Aside0.mk (Kd.C_below H32.out hB3); clear hB3 HI2 BX2 BZ2 BR2 HFR2 H32 HMI; have d3f : W3.cell? ⟨w.heap.size + 1, 3, none⟩ = some (.int .i64 r.f3) := (cells_at BX.out rfl).1))
  clear d3f
  have HBG := Aside0.mk hb1
  obtain ⟨C1, i1, d3, d14, dz, _, _, _, _, _, _, _, d4, _, _⟩ := HI.out.cells
  have d5 : W3.cell? ⟨w.heap.size + 1, 5, none⟩ = some (.int .i64 r.f5) := (cells_at BX.out rfl).1
  clear BX H3
  refine start_ (n := 9) (S := fun w' => w'.cell? ⟨g, 3, none⟩ = some (.slice C1 c.Br.length i1) ∧ w'.cell? ⟨w.heap.size + 1, 5, none⟩ = some (.int .i64 r.f5)) (ds := []) #[false, false, false, false, false, false, false, false, false] (by kernel_rfl) rfl rfl ⟨d3, d5⟩ (fun hHeld => ?_)
  refine with_tabW tak.tab7 tak.bits7 (fun HT_ HW_ => ?_)
  have HI := Aside0.mk (HI.out.fr ((Fr.refl (fun _ => False) W3).drew) (fun _ h => h.elim))
  have BZ := Aside0.mk (blk_drew BZ.out)
  have BR := Aside0.mk (blk_drew BR.out)
  have HFR := Aside0.mk HFR.out.drew
  clear d3 d5 d14 dz d4
  generalize W3.drew = W4 at HI BZ BR HFR hHeld ⊢
  obtain ⟨C1', i1', q3, q14, qz, _, _, _, _, _, _, _, _, lb, CB⟩ := HI.out.cells
  obtain ⟨rfl, rfl⟩ : C1 = C1' ∧ i1 = i1' := by
    have h1 := hHeld.1
    rw [q3] at h1
    injection h1 with h1
    injection h1 with h1 _ h2
    exact ⟨h1.symm, h2.symm⟩
  have HCB := Aside0.mk CB
  have hlb := Aside0.mk lb
  clear q3 q14 qz lb CB
  -- 0: Op.move
  refine pure_ (i := 0) (N := some 30) (v := ?_) (a' := ?_) #[true, false, false, false, false, false, false, false, false] rfl rfl (any_of HT_.out (by kernel_rfl)) (fun _ _ _ h => h) (Or.inl ⟨by rfl, ?_⟩) ?_ ?_
  rotate_left; (intro w'; go_simp; with_reducible rfl); rotate_left; (simp only [Act.put, List.setIfInBounds_toArray, List.set_cons_zero, List.set_cons_succ, i64_w, i32_w]; rfl)
  -- 1: Op.nilCheck
  refine pure_ (i := 1) (N := some 31) (v := ?_) (a' := ?_) #[true, true, false, false, false, false, false, false, false] rfl rfl (any_of HT_.out (by kernel_rfl)) (fun _ _ _ h => h) (Or.inl ⟨by rfl, ?_⟩) ?_ ?_
  rotate_left; (intro w'; go_simp; with_reducible rfl); rotate_left; (simp only [Act.put, List.setIfInBounds_toArray, List.set_cons_zero, List.set_cons_succ, i64_w, i32_w]; rfl)
  -- 2: Op.fieldAddr
  refine pure_ (i := 2) (N := some 32) (v := ?_) (a' := ?_) #[true, true, true, false, false, false, false, false, false] rfl rfl (any_of HT_.out (by kernel_rfl)) (fun _ _ _ h => h) (Or.inl ⟨by rfl, ?_⟩) ?_ ?_
  rotate_left; (intro w'; go_simp; with_reducible rfl); rotate_left; (simp only [Act.put, List.setIfInBounds_toArray, List.set_cons_zero, List.set_cons_succ, i64_w, i32_w]; rfl)
  -- 3: Op.fieldAddr
  refine pure_ (i := 3) (N := some 33) (v := ?_) (a' := ?_) #[true, true, true, true, false, false, false, false, false] rfl rfl (any_of HT_.out (by kernel_rfl)) (fun _ _ _ h => h) (Or.inl ⟨by rfl, ?_⟩) ?_ ?_
  rotate_left; (intro w'; go_simp; with_reducible rfl); rotate_left; (simp only [Act.put, List.setIfInBounds_toArray, List.set_cons_zero, List.set_cons_succ, i64_w, i32_w]; rfl)
  -- 5: Op.fieldAddr
  refine pure_ (i := 5) (N := some 35) (v := ?_) (a' := ?_) #[true, true, true, true, false, true, false, false, false] rfl rfl (any_of HT_.out (by kernel_rfl)) (fun _ _ _ h => h) (Or.inl ⟨by rfl, ?_⟩) ?_ ?_
  rotate_left; (intro w'; go_simp; with_reducible rfl); rotate_left; (simp only [Act.put, List.setIfInBounds_toArray, List.set_cons_zero, List.set_cons_succ, i64_w, i32_w]; rfl)
  -- 4: Op.load
  refine take_ (i := 4) (N := some 34) (v := ?_) (a' := ?_) #[true, true, true, true, true, true, false, false, false] rfl rfl (take_ofW HT_.out HW_.out (by kernel_rfl)) (fun _ _ _ h => h) (Or.inl ⟨by rfl, ?_⟩) hHeld ?_ ?_
  rotate_left; (rintro w' ⟨s0, s1⟩; go_simp; with_reducible rfl); rotate_left; (simp only [Act.put, List.setIfInBounds_toArray, List.set_cons_zero, List.set_cons_succ, i64_w, i32_w]; rfl)
  -- 6: Op.load
  refine take_ (i := 6) (N := some 36) (v := ?_) (a' := ?_) #[true, true, true, true, true, true, true, false, false] rfl rfl (take_ofW HT_.out HW_.out (by kernel_rfl)) (fun _ _ _ h => h) (Or.inl ⟨by rfl, ?_⟩) hHeld ?_ ?_
  rotate_left; (rintro w' ⟨s0, s1⟩; go_simp; with_reducible rfl); rotate_left; (simp only [Act.put, List.setIfInBounds_toArray, List.set_cons_zero, List.set_cons_succ, i64_w, i32_w]; rfl)
  -- 7: Op.call
  refine one_ (i := 7) (N := some 37) #[true, true, true, true, true, true, true, true, false] rfl rfl (one_of HT_.out (by kernel_rfl)) (by decide) (fun K hK => ?_)
  refine goes_ Try.func27 (by kernel_rfl) rfl #[.slice C1 c.Br.length i1, .int .i64 r.f5] (by rfl) rfl rfl (by (try simp only [List.map_toArray, List.map_cons, List.map_nil]); first | done | rfl) ?_
  refine (slices_Index_int_int.calls (c.Br.length + 1) C1 i1 c.Br r.f5 (idxI c.Br r.f5) W4 HCB.out hlb.out (idx_f c.Br r.f5 HBG.out)).mono ?_
  rintro e W5 ⟨rfl, hD⟩
  refine ⟨_, rfl, ?_⟩
  have HD5 := Aside0.mk (Drawn0.below hD)
  have d3 := pw_cell_below HD5.out hHeld.1
  have d5 := pw_cell_below HD5.out hHeld.2
  refine hK.out _ _ ⟨d3, d5⟩ (fun hHeld => ?_)
  clear d3 d5 hD
  clear hK K
  refine norm_ (a' := ?_) ?_ ?_
  rotate_left; (show Act.put _ (some 37) _ = _; simp only [Act.put, List.setIfInBounds_toArray, List.set_cons_zero, List.set_cons_succ, i64_w, i32_w]; rfl)
  -- 8: Op.assign
  refine pure_ (i := 8) (N := some 11) (v := ?_) (a' := ?_) #[true, true, true, true, true, true, true, true, true] rfl rfl (any_of HT_.out (by kernel_rfl)) (fun _ _ _ h => h) (Or.inl ⟨by rfl, ?_⟩) ?_ ?_
  rotate_left; (intro w'; go_simp; with_reducible rfl); rotate_left; (simp only [Act.put, List.setIfInBounds_toArray, List.set_cons_zero, List.set_cons_succ, i64_w, i32_w]; rfl)
  refine done_ (done_of HT_.out (by kernel_rfl)) ?_
  clear HT_ HW_ hHeld HCB hlb
  have HI := Aside0.mk (HI.out.below HD5.out)
  have BZ := Aside0.mk (blk_below BZ.out HD5.out)
  have BR := Aside0.mk (blk_below BR.out HD5.out)
  have HFR := Aside0.mk (HFR.out.then_ (Fr.of_below HD5.out _))
  obtain ⟨_, _, _, d14, dz, _, _, _, _, _, _, _, _, _, _⟩ := HI.out.cells
  clear HD5
  have t3 : decide (0 ≤ idxI c.Br r.f5) = true := by simpa using HIX.out.1
  have t4 : (idxI c.Br r.f5 != c.At) = false := by simp [HIX.out.2]
  generalize idxI c.Br r.f5 = ix at t3 t4 ⊢
  have HNX := Aside0.mk (next_c c W1.heap.size g now [] _ HI.out HBG.out)
  clear HI
  obtain ⟨s', hs'⟩ : ∃ s' : List S48, s' = [] := ⟨_, rfl⟩
  rw [← hs'] at HNX HV
  have HS' := Aside0.mk hs'
  clear hs'
  generalize nextC c = c' at HNX HV
  go_wp2_with (go_at_call 28; refine HNX.out.mono ?_; rintro e WA ⟨rfl, hI, hK⟩; have HI := Aside0.mk hI; have HKB := Aside0.mk hK; clear hI hK HNX)
  have HFR := Aside0.mk (HFR.out.then_ (HKB.out.mono (fun k hk => by have := HG.out; have := HS1.out; omega) (S2 := fun k => w.heap.size ≤ k)))
  have BZ := Aside0.mk ((HKB.out.block _ (blk_lt BZ.out) (show ¬ (w.heap.size + 1 + 1 = g) by have := HG.out; have := HS1.out; omega)).trans BZ.out)
  have BR := Aside0.mk ((HKB.out.block _ (blk_lt BR.out) (show ¬ (w.heap.size + 1 + 1 + 1 = g) by have := HG.out; have := HS1.out; omega)).trans BR.out)
  clear HKB t3 dz d14 t4
  obtain ⟨B1, j1, B2, j2, B3, j3, hb, m1, f1, m2, f2, m3, f3, hg⟩ := HI.out.blk
  have BG := Aside0.mk hb
  have FI := Aside0.mk (And.intro m1 (And.intro f1 (And.intro m2 (And.intro f2 (And.intro m3 f3)))))
  clear hb m1 f1 m2 f2 m3 f3 hg HI

  have dg : WA.heap[g]? = some (.cells #[.int .i64 c'.Id, .int .u64 c'.Inc, .int .u64 c'.N, .slice B1 c'.Br.length j1, .int .i64 c'.Busy, .int .i64 c'.Call.f0, .int .u64 c'.Call.f1, .int .u64 c'.Call.f2, .int .i64 c'.Call.f3, .int .i64 c'.Call.f4, .int .i64 c'.Call.f5, .int .u64 c'.Call.f6, .int .u64 c'.Call.f7, .slice B2 c'.Call.f8.length j2, .int .i64 c'.At, .int .u64 c'.Born, .int .u64 c'.Since, .int .u64 now, .slice B3 s'.length j3] 66 (0, 0)) := BG.out
  have d18 : WA.cell? ⟨g, 18, none⟩ = some (.slice B3 s'.length j3) := (cells_at BG.out rfl).1
  refine start_ (n := 13) (S := fun w' => w'.heap[g]? = some (.cells #[.int .i64 c'.Id, .int .u64 c'.Inc, .int .u64 c'.N, .slice B1 c'.Br.length j1, .int .i64 c'.Busy, .int .i64 c'.Call.f0, .int .u64 c'.Call.f1, .int .u64 c'.Call.f2, .int .i64 c'.Call.f3, .int .i64 c'.Call.f4, .int .i64 c'.Call.f5, .int .u64 c'.Call.f6, .int .u64 c'.Call.f7, .slice B2 c'.Call.f8.length j2, .int .i64 c'.At, .int .u64 c'.Born, .int .u64 c'.Since, .int .u64 now, .slice B3 s'.length j3] 66 (0, 0)) ∧ w'.cell? ⟨g, 18, none⟩ = some (.slice B3 s'.length j3)) (ds := []) #[false, false, false, false, false, false, false, false, false, false, false, false, false] (by kernel_rfl) rfl rfl ⟨dg, d18⟩ (fun hHeld => ?_)
  refine with_tabW tak.tab12 tak.bits12 (fun HT_ HW_ => ?_)
  have BZ := Aside0.mk (blk_drew BZ.out)
  have BR := Aside0.mk (blk_drew BR.out)
  have BG := Aside0.mk (blk_drew BG.out)
  have HFR := Aside0.mk HFR.out.drew
  have FI := Aside0.mk (And.intro FI.out.1 (And.intro (Kd.F_drew FI.out.2.1) (And.intro FI.out.2.2.1 (And.intro (Kd.F_drew FI.out.2.2.2.1) (And.intro FI.out.2.2.2.2.1 (Kd.F_drew FI.out.2.2.2.2.2))))))
  clear dg d18
  generalize WA.drew = WB at BZ BR BG HFR FI hHeld ⊢
  -- 0: Op.move
  refine pure_ (i := 0) (N := some 58) (v := ?_) (a' := ?_) #[true, false, false, false, false, false, false, false, false, false, false, false, false] rfl rfl (any_of HT_.out (by kernel_rfl)) (fun _ _ _ h => h) (Or.inl ⟨by rfl, ?_⟩) ?_ ?_
  rotate_left; (intro w'; go_simp; with_reducible rfl); rotate_left; (simp only [Act.put, List.setIfInBounds_toArray, List.set_cons_zero, List.set_cons_succ, i64_w, i32_w]; rfl)
  -- 1: Op.nilCheck
  refine pure_ (i := 1) (N := some 59) (v := ?_) (a' := ?_) #[true, true, false, false, false, false, false, false, false, false, false, false, false] rfl rfl (any_of HT_.out (by kernel_rfl)) (fun _ _ _ h => h) (Or.inl ⟨by rfl, ?_⟩) ?_ ?_
  rotate_left; (intro w'; go_simp; with_reducible rfl); rotate_left; (simp only [Act.put, List.setIfInBounds_toArray, List.set_cons_zero, List.set_cons_succ, i64_w, i32_w]; rfl)
  -- 2: Op.fieldAddr
  refine pure_ (i := 2) (N := some 60) (v := ?_) (a' := ?_) #[true, true, true, false, false, false, false, false, false, false, false, false, false] rfl rfl (any_of HT_.out (by kernel_rfl)) (fun _ _ _ h => h) (Or.inl ⟨by rfl, ?_⟩) ?_ ?_
  rotate_left; (intro w'; go_simp; with_reducible rfl); rotate_left; (simp only [Act.put, List.setIfInBounds_toArray, List.set_cons_zero, List.set_cons_succ, i64_w, i32_w]; rfl)
  -- 4: Op.move
  refine pure_ (i := 4) (N := some 62) (v := ?_) (a' := ?_) #[true, true, true, false, true, false, false, false, false, false, false, false, false] rfl rfl (any_of HT_.out (by kernel_rfl)) (fun _ _ _ h => h) (Or.inl ⟨by rfl, ?_⟩) ?_ ?_
  rotate_left; (intro w'; go_simp; with_reducible rfl); rotate_left; (simp only [Act.put, List.setIfInBounds_toArray, List.set_cons_zero, List.set_cons_succ, i64_w, i32_w]; rfl)
  -- 5: Op.nilCheck
  refine pure_ (i := 5) (N := some 63) (v := ?_) (a' := ?_) #[true, true, true, false, true, true, false, false, false, false, false, false, false] rfl rfl (any_of HT_.out (by kernel_rfl)) (fun _ _ _ h => h) (Or.inl ⟨by rfl, ?_⟩) ?_ ?_
  rotate_left; (intro w'; go_simp; with_reducible rfl); rotate_left; (simp only [Act.put, List.setIfInBounds_toArray, List.set_cons_zero, List.set_cons_succ, i64_w, i32_w]; rfl)
  -- 6: Op.fieldAddr
  refine pure_ (i := 6) (N := some 64) (v := ?_) (a' := ?_) #[true, true, true, false, true, true, true, false, false, false, false, false, false] rfl rfl (any_of HT_.out (by kernel_rfl)) (fun _ _ _ h => h) (Or.inl ⟨by rfl, ?_⟩) ?_ ?_
  rotate_left; (intro w'; go_simp; with_reducible rfl); rotate_left; (simp only [Act.put, List.setIfInBounds_toArray, List.set_cons_zero, List.set_cons_succ, i64_w, i32_w]; rfl)
  -- 8: Op.build
  refine pure_ (i := 8) (N := some 66) (v := ?_) (a' := ?_) #[true, true, true, false, true, true, true, false, true, false, false, false, false] rfl rfl (any_of HT_.out (by kernel_rfl)) (fun _ _ _ h => h) (Or.inl ⟨by rfl, ?_⟩) ?_ ?_
  rotate_left; (intro w'; go_simp; with_reducible rfl); rotate_left; (simp only [Act.put, List.setIfInBounds_toArray, List.set_cons_zero, List.set_cons_succ, i64_w, i32_w]; rfl)
  -- 3: Op.load
  refine take_ (i := 3) (N := some 61) (a' := ?_) #[true, true, true, true, true, true, true, false, true, false, false, false, false] rfl rfl (take_ofW HT_.out HW_.out (by kernel_rfl)) (fun _ _ _ h => h) (yieldsIf_load_mid (by rfl) 29 (.tmp 60) rfl g 0 (by rfl) (rM_ c' B1 j1 B2 j2) _ (fun w' s => blk_range s.1 0 _ rfl) Try.underlying29 rfl (by kernel_rfl)) hHeld ?_ ?_
  rotate_left
  · simp only [Act.put, List.setIfInBounds_toArray, List.set_cons_zero, List.set_cons_succ, List.toArray, i64_w, i32_w]
    rfl
  -- 7: Op.load
  refine take_ (i := 7) (N := some 65) (v := ?_) (a' := ?_) #[true, true, true, true, true, true, true, true, true, false, false, false, false] rfl rfl (take_ofW HT_.out HW_.out (by kernel_rfl)) (fun _ _ _ h => h) (Or.inl ⟨by rfl, ?_⟩) hHeld ?_ ?_
  rotate_left; (rintro w' ⟨s0, s1⟩; go_simp; with_reducible rfl); rotate_left; (simp only [Act.put, List.setIfInBounds_toArray, List.set_cons_zero, List.set_cons_succ, i64_w, i32_w]; rfl)
  -- 9: Op.store
  refine one_ (i := 9) (N := none) #[true, true, true, true, true, true, true, true, true, true, false, false, false] rfl rfl (one_of HT_.out (by kernel_rfl)) (by decide) (fun K hK => ?_)
  refine row_ 29 (.tmp 6) (.tmp 61) (w.heap.size + 1 + 1) (rL_ c' B1 j1 B2 j2) 29 rZC_ (by rfl) rfl rfl (by rfl) (by rfl) BZ.out (by kernel_rfl) (by rfl) (by kernel_rfl) ?_
  refine hK.out _ _ ⟨(setRow_other _ _ _ _ (by have := HG.out; have := HS1.out; omega)).trans hHeld.1, (cell_setRow_other _ _ _ _ (by show g ≠ _; have := HG.out; have := HS1.out; omega)).trans hHeld.2⟩ (fun hHeld => ?_)
  clear hK K
  -- 10: Op.assign
  refine pure_ (i := 10) (N := some 7) (v := ?_) (a' := ?_) #[true, true, true, true, true, true, true, true, true, true, true, false, false] rfl rfl (any_of HT_.out (by kernel_rfl)) (fun _ _ _ h => h) (Or.inl ⟨by rfl, ?_⟩) ?_ ?_
  rotate_left; (intro w'; go_simp; with_reducible rfl); rotate_left; (simp only [Act.put, List.setIfInBounds_toArray, List.set_cons_zero, List.set_cons_succ, i64_w, i32_w]; rfl)
  -- 11: Op.store
  refine one_ (i := 11) (N := none) #[true, true, true, true, true, true, true, true, true, true, true, true, false] rfl rfl (one_of HT_.out (by kernel_rfl)) (by decide) (fun K hK => ?_)
  refine row_ 36 (.tmp 8) (.tmp 66) (w.heap.size + 1 + 1 + 1) rZR_ 36 rZR_ (by rfl) rfl rfl (by rfl) (by rfl) (blk_row_far BR.out (rL_ c' B1 j1 B2 j2) (show w.heap.size + 1 + 1 + 1 ≠ w.heap.size + 1 + 1 by omega)) (by kernel_rfl) (by rfl) (by kernel_rfl) ?_
  refine hK.out _ _ ⟨(setRow_other _ _ _ _ (by have := HG.out; have := HS1.out; omega)).trans hHeld.1, (cell_setRow_other _ _ _ _ (by show g ≠ _; have := HG.out; have := HS1.out; omega)).trans hHeld.2⟩ (fun hHeld => ?_)
  clear hK K
  -- 12: Op.assign
  refine pure_ (i := 12) (N := some 9) (v := ?_) (a' := ?_) #[true, true, true, true, true, true, true, true, true, true, true, true, true] rfl rfl (any_of HT_.out (by kernel_rfl)) (fun _ _ _ h => h) (Or.inl ⟨by rfl, ?_⟩) ?_ ?_
  rotate_left; (intro w'; go_simp; with_reducible rfl); rotate_left; (simp only [Act.put, List.setIfInBounds_toArray, List.set_cons_zero, List.set_cons_succ, i64_w, i32_w]; rfl)
  refine done_ (done_of HT_.out (by kernel_rfl)) ?_
  clear HT_ HW_ hHeld

  have BZN := Aside0.mk (blk_row_far (blk_row BZ.out (rL_ c' B1 j1 B2 j2)) rZR_ (show w.heap.size + 1 + 1 ≠ w.heap.size + 1 + 1 + 1 by omega))
  have BRN := Aside0.mk (blk_row (blk_row_far BR.out (rL_ c' B1 j1 B2 j2) (show w.heap.size + 1 + 1 + 1 ≠ w.heap.size + 1 + 1 by omega)) rZR_)
  have HFRN := Aside0.mk ((HFR.out.setRow (w.heap.size + 1 + 1) (rL_ c' B1 j1 B2 j2) (fun h => by omega)).setRow (w.heap.size + 1 + 1 + 1) rZR_ (fun h => by omega))
  have FN := Aside0.mk ((Fr.setRow (Fr.refl (fun k => k = w.heap.size + 1 + 1 ∨ k = w.heap.size + 1 + 1 + 1) WB) (w.heap.size + 1 + 1) (rL_ c' B1 j1 B2 j2) (fun _ => .inl rfl)).setRow (w.heap.size + 1 + 1 + 1) rZR_ (fun _ => .inr rfl))
  generalize World.setRow _ _ _ = WC at BZN BRN HFRN FN ⊢
  clear BZ BG BR HFR
  go_wp2
  refine bodyPost_ret (results_list (rs := [.cell 6 29, .tmp 7, .cell 8 36, .tmp 9]) rfl (by simp) (.cell (w.heap.size + 1 + 1) 29 (rL_ c' B1 j1 B2 j2) (0, 0) _ rfl BZN.out Try.underlying29 rfl (by kernel_rfl) (.tmp (.cell (w.heap.size + 1 + 1 + 1) 36 rZR_ (0, 0) _ rfl BRN.out Try.underlying36 rfl (by kernel_rfl) (.tmp .nil))))) rfl ?_
  rw [HV.out]
  have hs := HS1.out
  have hw : ∀ k, W1.heap.size ≤ k ∧ k ≠ g → w.heap.size ≤ k := fun k hk => by omega
  have hk : ∀ k, W1.heap.size ≤ k ∧ k ≠ g → k < WB.heap.size → WC.heap[k]? = WB.heap[k]? := fun k hk hlt => FN.out.block k hlt (by omega)
  exact ⟨B1, j1, B2, j2, B3, j3, none, 0, rfl, ⟨Kd.F_mono (Kd.F_step FI.out.2.1 hk) hw, FI.out.1, Kd.F_mono (Kd.F_step FI.out.2.2.2.1 hk) hw, FI.out.2.2.1⟩, ⟨Kd.F_mono (Kd.F_step FI.out.2.2.2.2.2 hk) hw, FI.out.2.2.2.2.1⟩, BodyNew.nil _ _, HFRN.out.below (Nat.le_refl _) (fun _ h => h)⟩
end Go.Proofs.Ytajnladoomkgaaa.Cli
