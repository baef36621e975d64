/- A tick that is the last of a call. -/
import Derived.Test.YtajnladoomkgaaaTic
namespace Go.Proofs.Ytajnladoomkgaaa.Cli
set_option linter.unusedVariables false
set_option linter.unusedSimpArgs false
open RowOf Go.RowKit Go.Proofs.YtajnladoomkgaaaW.PrintWords Go.Proofs.YtajnladoomkgaaaW.PrintLast Go.Proofs.YtajnladoomkgaaaW.PrintMore Go.Proofs.Ytajnladoomkgaaa.XC
attribute [local go_sem] max2_int min2_int max_two min_two
def tid.T5 : Bool × List (List Nat × List Nat) := (true, [([], []), ([0], [0]), ([1], [1]), ([2], [2]), ([], []), ([4], [4]), ([5], [5]), ([6], [6]), ([7], [7]), ([8], [8]), ([], []), ([10], [10]), ([11], [11]), ([12], [12]), ([13], [13]), ([14], [14]), ([], []), ([16], [16]), ([17], [17]), ([18], [18]), ([19], [19]), ([20], [20]), ([9, 15, 21], [9, 15, 21]), ([3, 0, 1, 2, 3], [3]), ([23, 0, 1, 2, 3, 23], []), ([22, 24, 0, 1, 2, 3, 4, 5, 6, 7, 8, 9, 10, 11, 12, 13, 14, 15, 16, 17, 18, 19, 20, 21, 22, 23, 24], [22]), ([25, 0, 1, 2, 3, 4, 5, 6, 7, 8, 9, 10, 11, 12, 13, 14, 15, 16, 17, 18, 19, 20, 21, 22, 23, 24, 25], [])])
def tid.B5 : List Nat := [0, 1, 3, 7, 0, 16, 48, 112, 240, 496, 0, 1024, 3072, 7168, 15360, 31744, 0, 65536, 196608, 458752, 983040, 2031616, 4194288, 15, 8388623, 33554431, 67108863]
theorem tid.tab5 : rtab .any (opsOf Try.f12 5) = tid.T5 := by kernel_rfl
theorem tid.bits5 : waitsOk tid.T5.2 tid.B5 = true := by kernel_rfl
set_option maxHeartbeats 8000000 in
set_option maxRecDepth 100000 in
theorem tick_late (c : CliS) (A1 : Option Addr) (k1 : Nat) (A2 : Option Addr) (k2 : Nat) (now : Int) (w : World) (hc : CliIn w c A1 k1 A2 k2) (hb1 : c.Br.length < 1000000) (hb2 : c.Call.f8.length ≤ 140737488351232) (hn : now < 18446744073709551616) (hp : 0 ≤ c.Born ∧ 0 ≤ c.Since) (hb : c.Busy = 1) (h1 : 240 ≤ afterI now c.Born) :
    Calls Try.prog 12 #[.agg (rL_ c A1 k1 A2 k2), .int .u64 now] w (TakePost w (tickC c now)) := by
  have HV := Aside0.mk (show tickC c now = ({ c with Busy := 0 }, [], late ({ c with Busy := 0 } : CliS).Call, true) by unfold tickC; rw [if_pos hb, if_pos h1])
  have t1 : (c.Busy != 1) = false := by simp [hb]
  have t2 : decide (240 ≤ afterI now c.Born) = true := by simpa using h1
  clear hb h1
  have HW1 := Aside0.mk (show (w.alloc (.cells (rL_ c A1 k1 A2 k2) 29)).heap.size = w.heap.size + 1 by simp)
  have HW2 := Aside0.mk (show ((w.alloc (.cells (rL_ c A1 k1 A2 k2) 29)).alloc (.cells rZC_ 29)).heap.size = w.heap.size + 1 + 1 by simp)
  have HB0 := Aside0.mk (below_alloc (below_alloc (below_alloc (Below.refl w.heap.size w) (.cells (rL_ c A1 k1 A2 k2) 29)) (.cells rZC_ 29)) (.cells rZR_ 36))
  have BC := Aside0.mk (blk_alloc (blk_alloc (heap_alloc_new w (.cells (rL_ c A1 k1 A2 k2) 29)) (.cells rZC_ 29)) (.cells rZR_ 36))
  have BZ := Aside0.mk (HW1.out ▸ blk_alloc (heap_alloc_new (w.alloc (.cells (rL_ c A1 k1 A2 k2) 29)) (.cells rZC_ 29)) (.cells rZR_ 36))
  have BR := Aside0.mk (HW2.out ▸ heap_alloc_new ((w.alloc (.cells (rL_ c A1 k1 A2 k2) 29)).alloc (.cells rZC_ 29)) (.cells rZR_ 36))
  have HS1 := Aside0.mk (show (((w.alloc (.cells (rL_ c A1 k1 A2 k2) 29)).alloc (.cells rZC_ 29)).alloc (.cells rZR_ 36)).heap.size = w.heap.size + 3 by simp)
  have HIN := Aside0.mk (hc.below HB0.out)
  clear hc HW1 HW2
  go_enter Try.func12, Try.ntmps12
  go_wp2_with (refine wpList_load_row rfl 29 (.tmp 2) rfl w.heap.size (by rfl) 29 (rL_ c A1 k1 A2 k2) (0, 0) _ BC.out Try.underlying29 rfl (by kernel_rfl) ?_)
  generalize World.alloc _ _ = W1 at HB0 BC BZ BR HS1 HIN ⊢
  have HWI := Aside0.mk (fun n => with_r c A1 k1 A2 k2 n W1 HIN.out.C1 HIN.out.l1 HIN.out.C2 HIN.out.l2 (by omega) hb2)
  have HBG := Aside0.mk hb1
  have HBL := Aside0.mk hb2
  have HN := Aside0.mk hn
  have HP := Aside0.mk hp
  go_wp2_with (first
      | (go_at_call 23; refine (HWI.out _).mono ?_; rintro e W2 ⟨g, rfl, hI, hB⟩; have HI := Aside0.mk hI; have HB2 := Aside0.mk hB; clear hI hB HWI; have BZ2 := Aside0.mk (blk_below BZ.out HB2.out); have BR2 := Aside0.mk (blk_below BR.out HB2.out); have HG := Aside0.mk HI.out.ge; have HFR := Aside0.mk ((Fr.of_below HB0.out (fun k => w.heap.size ≤ k)).then_ (Fr.of_below HB2.out _)); have HAF := Aside0.mk (fun (t : Int) (h : t = c.Born ∨ t = c.Since) => after_c c W1.heap.size g now [] W2 HI.out t (by have := HP.out; rcases h with h | h <;> omega) HN.out); have HC2 := HI.out.cells; obtain ⟨C1, i1, d3, d14, dz, d4, _, _, _, _, d15, d16, dz4, _, _⟩ := HC2; clear BC BZ BR HIN HB0)
      | (go_at_call 30; refine (HAF.out _ (by first | exact .inl rfl | exact .inr rfl)).mono ?_; rintro e w' ⟨rfl, rfl⟩))
  have HSB := HI.out.setBusy 0
  have HFB := Aside0.mk HSB.2
  have HI := Aside0.mk HSB.1
  have BZ := Aside0.mk ((HFB.out.block _ (blk_lt BZ2.out) (show ¬ (w.heap.size + 1 = g) by have := HG.out; have := HS1.out; omega)).trans BZ2.out)
  have BR := Aside0.mk ((HFB.out.block _ (blk_lt BR2.out) (show ¬ (w.heap.size + 1 + 1 = g) by have := HG.out; have := HS1.out; omega)).trans BR2.out)
  have HFR := Aside0.mk (HFR.out.then_ (HFB.out.mono (fun k hk => by have := HG.out; have := HS1.out; omega) (S2 := fun k => w.heap.size ≤ k)))
  clear HSB t1 t2 d3 d14 dz d4 d15 d16 dz4 BZ2 BR2 HFB
  generalize World.setCell _ _ _ = W3 at HI BZ BR HFR ⊢
  obtain ⟨c', hc'⟩ : ∃ c' : CliS, c' = { c with Busy := 0 } := ⟨_, rfl⟩
  have HCC := Aside0.mk (show c'.Call = c.Call by rw [hc'])
  rw [← hc'] at HV HI
  clear hc'
  obtain ⟨s', hs'⟩ : ∃ s' : List S48, s' = [] := ⟨_, rfl⟩
  have HS' := Aside0.mk hs'
  rw [← hs'] at HI
  clear hs'

  obtain ⟨B1, j1, B2, j2, B3, j3, hb, m1, f1, m2, f2, m3, f3, hg⟩ := HI.out.blk
  have BG := Aside0.mk hb
  have FI := Aside0.mk (And.intro m1 (And.intro f1 (And.intro m2 (And.intro f2 (And.intro m3 f3)))))
  clear hb m1 f1 m2 f2 m3 f3 hg HI

  have dg : W3.heap[g]? = some (.cells #[.int .i64 c'.Id, .int .u64 c'.Inc, .int .u64 c'.N, .slice B1 c'.Br.length j1, .int .i64 c'.Busy, .int .i64 c'.Call.f0, .int .u64 c'.Call.f1, .int .u64 c'.Call.f2, .int .i64 c'.Call.f3, .int .i64 c'.Call.f4, .int .i64 c'.Call.f5, .int .u64 c'.Call.f6, .int .u64 c'.Call.f7, .slice B2 c'.Call.f8.length j2, .int .i64 c'.At, .int .u64 c'.Born, .int .u64 c'.Since, .int .u64 now, .slice B3 s'.length j3] 66 (0, 0)) := BG.out
  have d5 : W3.cell? ⟨g, 5, none⟩ = some (.int .i64 c'.Call.f0) := (cells_at BG.out rfl).1
  have d6 : W3.cell? ⟨g, 6, none⟩ = some (.int .u64 c'.Call.f1) := (cells_at BG.out rfl).1
  have d7 : W3.cell? ⟨g, 7, none⟩ = some (.int .u64 c'.Call.f2) := (cells_at BG.out rfl).1
  refine start_ (n := 27) (S := fun w' => w'.heap[g]? = some (.cells #[.int .i64 c'.Id, .int .u64 c'.Inc, .int .u64 c'.N, .slice B1 c'.Br.length j1, .int .i64 c'.Busy, .int .i64 c'.Call.f0, .int .u64 c'.Call.f1, .int .u64 c'.Call.f2, .int .i64 c'.Call.f3, .int .i64 c'.Call.f4, .int .i64 c'.Call.f5, .int .u64 c'.Call.f6, .int .u64 c'.Call.f7, .slice B2 c'.Call.f8.length j2, .int .i64 c'.At, .int .u64 c'.Born, .int .u64 c'.Since, .int .u64 now, .slice B3 s'.length j3] 66 (0, 0)) ∧ w'.cell? ⟨g, 5, none⟩ = some (.int .i64 c'.Call.f0) ∧ w'.cell? ⟨g, 6, none⟩ = some (.int .u64 c'.Call.f1) ∧ w'.cell? ⟨g, 7, none⟩ = some (.int .u64 c'.Call.f2)) (ds := []) #[false, false, false, false, false, false, false, false, false, false, false, false, false, false, false, false, false, false, false, false, false, false, false, false, false, false, false] (by kernel_rfl) rfl rfl ⟨dg, d5, d6, d7⟩ (fun hHeld => ?_)
  refine with_tabW tid.tab5 tid.bits5 (fun HT_ HW_ => ?_)
  have BZ := Aside0.mk (blk_drew BZ.out)
  have BR := Aside0.mk (blk_drew BR.out)
  have BG := Aside0.mk (blk_drew BG.out)
  have HFR := Aside0.mk HFR.out.drew
  have FI := Aside0.mk (And.intro FI.out.1 (And.intro (Kd.F_drew FI.out.2.1) (And.intro FI.out.2.2.1 (And.intro (Kd.F_drew FI.out.2.2.2.1) (And.intro FI.out.2.2.2.2.1 (Kd.F_drew FI.out.2.2.2.2.2))))))
  clear dg d5 d6 d7
  generalize World.drew _ = WB at BZ BR BG HFR FI hHeld ⊢
  -- 0: Op.move
  refine pure_ (i := 0) (N := some 32) (v := ?_) (a' := ?_) #[true, false, false, false, false, false, false, false, false, false, false, false, false, false, false, false, false, false, false, false, false, false, false, false, false, false, false] rfl rfl (any_of HT_.out (by kernel_rfl)) (fun _ _ _ h => h) (Or.inl ⟨by rfl, ?_⟩) ?_ ?_
  rotate_left; (intro w'; go_simp; with_reducible rfl); rotate_left; (simp only [Act.put, List.setIfInBounds_toArray, List.set_cons_zero, List.set_cons_succ, i64_w, i32_w]; rfl)
  -- 1: Op.nilCheck
  refine pure_ (i := 1) (N := some 33) (v := ?_) (a' := ?_) #[true, true, false, false, false, false, false, false, false, false, false, false, false, false, false, false, false, false, false, false, false, false, false, false, false, false, false] rfl rfl (any_of HT_.out (by kernel_rfl)) (fun _ _ _ h => h) (Or.inl ⟨by rfl, ?_⟩) ?_ ?_
  rotate_left; (intro w'; go_simp; with_reducible rfl); rotate_left; (simp only [Act.put, List.setIfInBounds_toArray, List.set_cons_zero, List.set_cons_succ, i64_w, i32_w]; rfl)
  -- 2: Op.fieldAddr
  refine pure_ (i := 2) (N := some 34) (v := ?_) (a' := ?_) #[true, true, true, false, false, false, false, false, false, false, false, false, false, false, false, false, false, false, false, false, false, false, false, false, false, false, false] rfl rfl (any_of HT_.out (by kernel_rfl)) (fun _ _ _ h => h) (Or.inl ⟨by rfl, ?_⟩) ?_ ?_
  rotate_left; (intro w'; go_simp; with_reducible rfl); rotate_left; (simp only [Act.put, List.setIfInBounds_toArray, List.set_cons_zero, List.set_cons_succ, i64_w, i32_w]; rfl)
  -- 4: Op.move
  refine pure_ (i := 4) (N := some 36) (v := ?_) (a' := ?_) #[true, true, true, false, true, false, false, false, false, false, false, false, false, false, false, false, false, false, false, false, false, false, false, false, false, false, false] rfl rfl (any_of HT_.out (by kernel_rfl)) (fun _ _ _ h => h) (Or.inl ⟨by rfl, ?_⟩) ?_ ?_
  rotate_left; (intro w'; go_simp; with_reducible rfl); rotate_left; (simp only [Act.put, List.setIfInBounds_toArray, List.set_cons_zero, List.set_cons_succ, i64_w, i32_w]; rfl)
  -- 5: Op.nilCheck
  refine pure_ (i := 5) (N := some 37) (v := ?_) (a' := ?_) #[true, true, true, false, true, true, false, false, false, false, false, false, false, false, false, false, false, false, false, false, false, false, false, false, false, false, false] rfl rfl (any_of HT_.out (by kernel_rfl)) (fun _ _ _ h => h) (Or.inl ⟨by rfl, ?_⟩) ?_ ?_
  rotate_left; (intro w'; go_simp; with_reducible rfl); rotate_left; (simp only [Act.put, List.setIfInBounds_toArray, List.set_cons_zero, List.set_cons_succ, i64_w, i32_w]; rfl)
  -- 6: Op.fieldAddr
  refine pure_ (i := 6) (N := some 38) (v := ?_) (a' := ?_) #[true, true, true, false, true, true, true, false, false, false, false, false, false, false, false, false, false, false, false, false, false, false, false, false, false, false, false] rfl rfl (any_of HT_.out (by kernel_rfl)) (fun _ _ _ h => h) (Or.inl ⟨by rfl, ?_⟩) ?_ ?_
  rotate_left; (intro w'; go_simp; with_reducible rfl); rotate_left; (simp only [Act.put, List.setIfInBounds_toArray, List.set_cons_zero, List.set_cons_succ, i64_w, i32_w]; rfl)
  -- 7: Op.fieldAddr
  refine pure_ (i := 7) (N := some 39) (v := ?_) (a' := ?_) #[true, true, true, false, true, true, true, true, false, false, false, false, false, false, false, false, false, false, false, false, false, false, false, false, false, false, false] rfl rfl (any_of HT_.out (by kernel_rfl)) (fun _ _ _ h => h) (Or.inl ⟨by rfl, ?_⟩) ?_ ?_
  rotate_left; (intro w'; go_simp; with_reducible rfl); rotate_left; (simp only [Act.put, List.setIfInBounds_toArray, List.set_cons_zero, List.set_cons_succ, i64_w, i32_w]; rfl)
  -- 8: Op.fieldAddr
  refine pure_ (i := 8) (N := some 40) (v := ?_) (a' := ?_) #[true, true, true, false, true, true, true, true, true, false, false, false, false, false, false, false, false, false, false, false, false, false, false, false, false, false, false] rfl rfl (any_of HT_.out (by kernel_rfl)) (fun _ _ _ h => h) (Or.inl ⟨by rfl, ?_⟩) ?_ ?_
  rotate_left; (intro w'; go_simp; with_reducible rfl); rotate_left; (simp only [Act.put, List.setIfInBounds_toArray, List.set_cons_zero, List.set_cons_succ, i64_w, i32_w]; rfl)
  -- 10: Op.move
  refine pure_ (i := 10) (N := some 42) (v := ?_) (a' := ?_) #[true, true, true, false, true, true, true, true, true, false, true, false, false, false, false, false, false, false, false, false, false, false, false, false, false, false, false] rfl rfl (any_of HT_.out (by kernel_rfl)) (fun _ _ _ h => h) (Or.inl ⟨by rfl, ?_⟩) ?_ ?_
  rotate_left; (intro w'; go_simp; with_reducible rfl); rotate_left; (simp only [Act.put, List.setIfInBounds_toArray, List.set_cons_zero, List.set_cons_succ, i64_w, i32_w]; rfl)
  -- 11: Op.nilCheck
  refine pure_ (i := 11) (N := some 43) (v := ?_) (a' := ?_) #[true, true, true, false, true, true, true, true, true, false, true, true, false, false, false, false, false, false, false, false, false, false, false, false, false, false, false] rfl rfl (any_of HT_.out (by kernel_rfl)) (fun _ _ _ h => h) (Or.inl ⟨by rfl, ?_⟩) ?_ ?_
  rotate_left; (intro w'; go_simp; with_reducible rfl); rotate_left; (simp only [Act.put, List.setIfInBounds_toArray, List.set_cons_zero, List.set_cons_succ, i64_w, i32_w]; rfl)
  -- 12: Op.fieldAddr
  refine pure_ (i := 12) (N := some 44) (v := ?_) (a' := ?_) #[true, true, true, false, true, true, true, true, true, false, true, true, true, false, false, false, false, false, false, false, false, false, false, false, false, false, false] rfl rfl (any_of HT_.out (by kernel_rfl)) (fun _ _ _ h => h) (Or.inl ⟨by rfl, ?_⟩) ?_ ?_
  rotate_left; (intro w'; go_simp; with_reducible rfl); rotate_left; (simp only [Act.put, List.setIfInBounds_toArray, List.set_cons_zero, List.set_cons_succ, i64_w, i32_w]; rfl)
  -- 13: Op.fieldAddr
  refine pure_ (i := 13) (N := some 45) (v := ?_) (a' := ?_) #[true, true, true, false, true, true, true, true, true, false, true, true, true, true, false, false, false, false, false, false, false, false, false, false, false, false, false] rfl rfl (any_of HT_.out (by kernel_rfl)) (fun _ _ _ h => h) (Or.inl ⟨by rfl, ?_⟩) ?_ ?_
  rotate_left; (intro w'; go_simp; with_reducible rfl); rotate_left; (simp only [Act.put, List.setIfInBounds_toArray, List.set_cons_zero, List.set_cons_succ, i64_w, i32_w]; rfl)
  -- 14: Op.fieldAddr
  refine pure_ (i := 14) (N := some 46) (v := ?_) (a' := ?_) #[true, true, true, false, true, true, true, true, true, false, true, true, true, true, true, false, false, false, false, false, false, false, false, false, false, false, false] rfl rfl (any_of HT_.out (by kernel_rfl)) (fun _ _ _ h => h) (Or.inl ⟨by rfl, ?_⟩) ?_ ?_
  rotate_left; (intro w'; go_simp; with_reducible rfl); rotate_left; (simp only [Act.put, List.setIfInBounds_toArray, List.set_cons_zero, List.set_cons_succ, i64_w, i32_w]; rfl)
  -- 16: Op.move
  refine pure_ (i := 16) (N := some 48) (v := ?_) (a' := ?_) #[true, true, true, false, true, true, true, true, true, false, true, true, true, true, true, false, true, false, false, false, false, false, false, false, false, false, false] rfl rfl (any_of HT_.out (by kernel_rfl)) (fun _ _ _ h => h) (Or.inl ⟨by rfl, ?_⟩) ?_ ?_
  rotate_left; (intro w'; go_simp; with_reducible rfl); rotate_left; (simp only [Act.put, List.setIfInBounds_toArray, List.set_cons_zero, List.set_cons_succ, i64_w, i32_w]; rfl)
  -- 17: Op.nilCheck
  refine pure_ (i := 17) (N := some 49) (v := ?_) (a' := ?_) #[true, true, true, false, true, true, true, true, true, false, true, true, true, true, true, false, true, true, false, false, false, false, false, false, false, false, false] rfl rfl (any_of HT_.out (by kernel_rfl)) (fun _ _ _ h => h) (Or.inl ⟨by rfl, ?_⟩) ?_ ?_
  rotate_left; (intro w'; go_simp; with_reducible rfl); rotate_left; (simp only [Act.put, List.setIfInBounds_toArray, List.set_cons_zero, List.set_cons_succ, i64_w, i32_w]; rfl)
  -- 18: Op.fieldAddr
  refine pure_ (i := 18) (N := some 50) (v := ?_) (a' := ?_) #[true, true, true, false, true, true, true, true, true, false, true, true, true, true, true, false, true, true, true, false, false, false, false, false, false, false, false] rfl rfl (any_of HT_.out (by kernel_rfl)) (fun _ _ _ h => h) (Or.inl ⟨by rfl, ?_⟩) ?_ ?_
  rotate_left; (intro w'; go_simp; with_reducible rfl); rotate_left; (simp only [Act.put, List.setIfInBounds_toArray, List.set_cons_zero, List.set_cons_succ, i64_w, i32_w]; rfl)
  -- 19: Op.fieldAddr
  refine pure_ (i := 19) (N := some 51) (v := ?_) (a' := ?_) #[true, true, true, false, true, true, true, true, true, false, true, true, true, true, true, false, true, true, true, true, false, false, false, false, false, false, false] rfl rfl (any_of HT_.out (by kernel_rfl)) (fun _ _ _ h => h) (Or.inl ⟨by rfl, ?_⟩) ?_ ?_
  rotate_left; (intro w'; go_simp; with_reducible rfl); rotate_left; (simp only [Act.put, List.setIfInBounds_toArray, List.set_cons_zero, List.set_cons_succ, i64_w, i32_w]; rfl)
  -- 20: Op.fieldAddr
  refine pure_ (i := 20) (N := some 52) (v := ?_) (a' := ?_) #[true, true, true, false, true, true, true, true, true, false, true, true, true, true, true, false, true, true, true, true, true, false, false, false, false, false, false] rfl rfl (any_of HT_.out (by kernel_rfl)) (fun _ _ _ h => h) (Or.inl ⟨by rfl, ?_⟩) ?_ ?_
  rotate_left; (intro w'; go_simp; with_reducible rfl); rotate_left; (simp only [Act.put, List.setIfInBounds_toArray, List.set_cons_zero, List.set_cons_succ, i64_w, i32_w]; rfl)
  -- 3: Op.load
  refine take_ (i := 3) (N := some 35) (a' := ?_) #[true, true, true, true, true, true, true, true, true, false, true, true, true, true, true, false, true, true, true, true, true, false, false, false, false, false, false] rfl rfl (take_ofW HT_.out HW_.out (by kernel_rfl)) (fun _ _ _ h => h) (yieldsIf_load_mid (by rfl) 29 (.tmp 34) rfl g 0 (by rfl) (rM_ c' B1 j1 B2 j2) _ (fun w' s => blk_range s.1 0 _ rfl) Try.underlying29 rfl (by kernel_rfl)) hHeld ?_ ?_
  rotate_left
  · simp only [Act.put, List.setIfInBounds_toArray, List.set_cons_zero, List.set_cons_succ, List.toArray, i64_w, i32_w]
    rfl
  -- 9: Op.load
  refine take_ (i := 9) (N := some 41) (v := ?_) (a' := ?_) #[true, true, true, true, true, true, true, true, true, true, true, true, true, true, true, false, true, true, true, true, true, false, false, false, false, false, false] rfl rfl (take_ofW HT_.out HW_.out (by kernel_rfl)) (fun _ _ _ h => h) (Or.inl ⟨by rfl, ?_⟩) hHeld ?_ ?_
  rotate_left; (rintro w' ⟨s0, s1, s2, s3⟩; go_simp; with_reducible rfl); rotate_left; (simp only [Act.put, List.setIfInBounds_toArray, List.set_cons_zero, List.set_cons_succ, i64_w, i32_w]; rfl)
  -- 15: Op.load
  refine take_ (i := 15) (N := some 47) (v := ?_) (a' := ?_) #[true, true, true, true, true, true, true, true, true, true, true, true, true, true, true, true, true, true, true, true, true, false, false, false, false, false, false] rfl rfl (take_ofW HT_.out HW_.out (by kernel_rfl)) (fun _ _ _ h => h) (Or.inl ⟨by rfl, ?_⟩) hHeld ?_ ?_
  rotate_left; (rintro w' ⟨s0, s1, s2, s3⟩; go_simp; with_reducible rfl); rotate_left; (simp only [Act.put, List.setIfInBounds_toArray, List.set_cons_zero, List.set_cons_succ, i64_w, i32_w]; rfl)
  -- 21: Op.load
  refine take_ (i := 21) (N := some 53) (v := ?_) (a' := ?_) #[true, true, true, true, true, true, true, true, true, true, true, true, true, true, true, true, true, true, true, true, true, true, false, false, false, false, false] rfl rfl (take_ofW HT_.out HW_.out (by kernel_rfl)) (fun _ _ _ h => h) (Or.inl ⟨by rfl, ?_⟩) hHeld ?_ ?_
  rotate_left; (rintro w' ⟨s0, s1, s2, s3⟩; go_simp; with_reducible rfl); rotate_left; (simp only [Act.put, List.setIfInBounds_toArray, List.set_cons_zero, List.set_cons_succ, i64_w, i32_w]; rfl)
  -- 22: Op.build
  refine pure_ (i := 22) (N := some 54) (v := ?_) (a' := ?_) #[true, true, true, true, true, true, true, true, true, true, true, true, true, true, true, true, true, true, true, true, true, true, true, false, false, false, false] rfl rfl (any_of HT_.out (by kernel_rfl)) (fun _ _ _ h => h) (Or.inl ⟨by rfl, ?_⟩) ?_ ?_
  rotate_left; (intro w'; go_simp; with_reducible rfl); rotate_left; (simp only [Act.put, List.setIfInBounds_toArray, List.set_cons_zero, List.set_cons_succ, i64_w, i32_w]; rfl)
  -- 23: Op.store
  refine one_ (i := 23) (N := none) #[true, true, true, true, true, true, true, true, true, true, true, true, true, true, true, true, true, true, true, true, true, true, true, true, false, false, false] rfl rfl (one_of HT_.out (by kernel_rfl)) (by decide) (fun K hK => ?_)
  refine row_ 29 (.tmp 4) (.tmp 35) (w.heap.size + 1) (rL_ c' B1 j1 B2 j2) 29 rZC_ (by rfl) rfl rfl (by rfl) (by rfl) BZ.out (by kernel_rfl) (by rfl) (by kernel_rfl) ?_
  refine hK.out _ _ ⟨(setRow_other _ _ _ _ (by have := HG.out; have := HS1.out; omega)).trans hHeld.1, (cell_setRow_other _ _ _ _ (by show g ≠ _; have := HG.out; have := HS1.out; omega)).trans hHeld.2.1, (cell_setRow_other _ _ _ _ (by show g ≠ _; have := HG.out; have := HS1.out; omega)).trans hHeld.2.2.1, (cell_setRow_other _ _ _ _ (by show g ≠ _; have := HG.out; have := HS1.out; omega)).trans hHeld.2.2.2⟩ (fun hHeld => ?_)
  clear hK K
  -- 24: Op.assign
  refine pure_ (i := 24) (N := some 5) (v := ?_) (a' := ?_) #[true, true, true, true, true, true, true, true, true, true, true, true, true, true, true, true, true, true, true, true, true, true, true, true, true, false, false] rfl rfl (any_of HT_.out (by kernel_rfl)) (fun _ _ _ h => h) (Or.inl ⟨by rfl, ?_⟩) ?_ ?_
  rotate_left; (intro w'; go_simp; with_reducible rfl); rotate_left; (simp only [Act.put, List.setIfInBounds_toArray, List.set_cons_zero, List.set_cons_succ, i64_w, i32_w]; rfl)
  -- 25: Op.store
  refine one_ (i := 25) (N := none) #[true, true, true, true, true, true, true, true, true, true, true, true, true, true, true, true, true, true, true, true, true, true, true, true, true, true, false] rfl rfl (one_of HT_.out (by kernel_rfl)) (by decide) (fun K hK => ?_)
  refine row_ 36 (.tmp 6) (.tmp 54) (w.heap.size + 1 + 1) #[.int .i64 c'.Call.f0, .int .u64 c'.Call.f1, .int .u64 c'.Call.f2, .int .i64 3, .int .u64 0, .int .i64 0, .int .i64 0, .int .u64 0, .slice none 0 0] 36 rZR_ (by rfl) rfl rfl (by rfl) (by rfl) (blk_row_far BR.out (rL_ c' B1 j1 B2 j2) (show w.heap.size + 1 + 1 ≠ w.heap.size + 1 by omega)) (by kernel_rfl) (by rfl) (by kernel_rfl) ?_
  refine hK.out _ _ ⟨(setRow_other _ _ _ _ (by have := HG.out; have := HS1.out; omega)).trans hHeld.1, (cell_setRow_other _ _ _ _ (by show g ≠ _; have := HG.out; have := HS1.out; omega)).trans hHeld.2.1, (cell_setRow_other _ _ _ _ (by show g ≠ _; have := HG.out; have := HS1.out; omega)).trans hHeld.2.2.1, (cell_setRow_other _ _ _ _ (by show g ≠ _; have := HG.out; have := HS1.out; omega)).trans hHeld.2.2.2⟩ (fun hHeld => ?_)
  clear hK K
  -- 26: Op.assign
  refine pure_ (i := 26) (N := some 7) (v := ?_) (a' := ?_) #[true, true, true, true, true, true, true, true, true, true, true, true, true, true, true, true, true, true, true, true, true, true, true, true, true, true, true] rfl rfl (any_of HT_.out (by kernel_rfl)) (fun _ _ _ h => h) (Or.inl ⟨by rfl, ?_⟩) ?_ ?_
  rotate_left; (intro w'; go_simp; with_reducible rfl); rotate_left; (simp only [Act.put, List.setIfInBounds_toArray, List.set_cons_zero, List.set_cons_succ, i64_w, i32_w]; rfl)
  refine done_ (done_of HT_.out (by kernel_rfl)) ?_
  clear HT_ HW_ hHeld

  have BZN := Aside0.mk (blk_row_far (blk_row BZ.out (rL_ c' B1 j1 B2 j2)) #[.int .i64 c'.Call.f0, .int .u64 c'.Call.f1, .int .u64 c'.Call.f2, .int .i64 3, .int .u64 0, .int .i64 0, .int .i64 0, .int .u64 0, .slice none 0 0] (show w.heap.size + 1 ≠ w.heap.size + 1 + 1 by omega))
  have BRN := Aside0.mk (blk_row (blk_row_far BR.out (rL_ c' B1 j1 B2 j2) (show w.heap.size + 1 + 1 ≠ w.heap.size + 1 by omega)) #[.int .i64 c'.Call.f0, .int .u64 c'.Call.f1, .int .u64 c'.Call.f2, .int .i64 3, .int .u64 0, .int .i64 0, .int .i64 0, .int .u64 0, .slice none 0 0])
  have HFRN := Aside0.mk ((HFR.out.setRow (w.heap.size + 1) (rL_ c' B1 j1 B2 j2) (fun h => by omega)).setRow (w.heap.size + 1 + 1) #[.int .i64 c'.Call.f0, .int .u64 c'.Call.f1, .int .u64 c'.Call.f2, .int .i64 3, .int .u64 0, .int .i64 0, .int .i64 0, .int .u64 0, .slice none 0 0] (fun h => by omega))
  have FN := Aside0.mk ((Fr.setRow (Fr.refl (fun k => k = w.heap.size + 1 ∨ k = w.heap.size + 1 + 1) WB) (w.heap.size + 1) (rL_ c' B1 j1 B2 j2) (fun _ => .inl rfl)).setRow (w.heap.size + 1 + 1) #[.int .i64 c'.Call.f0, .int .u64 c'.Call.f1, .int .u64 c'.Call.f2, .int .i64 3, .int .u64 0, .int .i64 0, .int .i64 0, .int .u64 0, .slice none 0 0] (fun _ => .inr rfl))
  generalize World.setRow _ _ _ = WC at BZN BRN HFRN FN ⊢
  clear BZ BG BR HFR
  go_wp2
  refine bodyPost_ret (results_list (rs := [.cell 4 29, .tmp 5, .cell 6 36, .tmp 7]) rfl (by simp) (.cell (w.heap.size + 1) 29 (rL_ c' B1 j1 B2 j2) (0, 0) _ rfl BZN.out Try.underlying29 rfl (by kernel_rfl) (.tmp (.cell (w.heap.size + 1 + 1) 36 #[.int .i64 c'.Call.f0, .int .u64 c'.Call.f1, .int .u64 c'.Call.f2, .int .i64 3, .int .u64 0, .int .i64 0, .int .i64 0, .int .u64 0, .slice none 0 0] (0, 0) _ rfl BRN.out Try.underlying36 rfl (by kernel_rfl) (.tmp .nil))))) rfl ?_
  rw [HV.out, ← HCC.out]
  have hs := HS1.out
  have hw : ∀ k, W1.heap.size ≤ k ∧ k ≠ g → w.heap.size ≤ k := fun k hk => by omega
  have hk : ∀ k, W1.heap.size ≤ k ∧ k ≠ g → k < WB.heap.size → WC.heap[k]? = WB.heap[k]? := fun k hk hlt => FN.out.block k hlt (by omega)
  exact ⟨B1, j1, B2, j2, none, 0, none, 0, rfl, ⟨Kd.F_mono (Kd.F_step FI.out.2.1 hk) hw, FI.out.1, Kd.F_mono (Kd.F_step FI.out.2.2.2.1 hk) hw, FI.out.2.2.1⟩, SentNew.nil _ _, BodyNew.nil _ _, HFRN.out.below (Nat.le_refl _) (fun _ h => h)⟩
set_option maxHeartbeats 400000 in
set_option maxRecDepth 100000 in
theorem tick_c (c : CliS) (A1 : Option Addr) (k1 : Nat) (A2 : Option Addr) (k2 : Nat) (now : Int) (w : World) (hc : CliIn w c A1 k1 A2 k2) (hb1 : c.Br.length < 1000000) (hb2 : c.Call.f8.length ≤ 140737488351232) (hn : now < 18446744073709551616) (hp : 0 ≤ c.Born ∧ 0 ≤ c.Since) :
    Calls Try.prog 12 #[.agg (rL_ c A1 k1 A2 k2), .int .u64 now] w (TakePost w (tickC c now)) := by
  by_cases hb : c.Busy = 1
  · by_cases h1 : 240 ≤ afterI now c.Born
    · exact tick_late c A1 k1 A2 k2 now w hc hb1 hb2 hn hp hb h1
    · by_cases h2 : 3 ≤ afterI now c.Since
      · by_cases h3 : 9 ≤ afterI now c.Born
        · exact tick_next c A1 k1 A2 k2 now w hc hb1 hb2 hn hp hb (by omega) h3 h2
        · exact tick_ask c A1 k1 A2 k2 now w hc hb1 hb2 hn hp hb (by omega) h2
      · exact tick_wait c A1 k1 A2 k2 now w hc hb1 hb2 hn hp hb (by omega) (by omega)
  · exact tick_idle c A1 k1 A2 k2 now w hc hb1 hb2 hn hp hb
end Go.Proofs.Ytajnladoomkgaaa.Cli
