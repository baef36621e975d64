/- A call is begun, or refused. -/
import Derived.Test.YtajnladoomkgaaaHlp
namespace Go.Proofs.Ytajnladoomkgaaa.Cli
set_option linter.unusedVariables false
set_option linter.unusedSimpArgs false
open RowOf Go.RowKit Go.Proofs.YtajnladoomkgaaaW.PrintWords Go.Proofs.YtajnladoomkgaaaW.PrintLast Go.Proofs.YtajnladoomkgaaaW.PrintMore Go.Proofs.Ytajnladoomkgaaa.XC
attribute [local go_sem] max2_int min2_int max_two min_two
def str.T3 : Bool × List (List Nat × List Nat) := (true, [([], []), ([0], [0]), ([], []), ([2], [2]), ([], []), ([4], [4]), ([5], [5]), ([6], [6]), ([7], [7]), ([0, 1], []), ([9, 1, 0, 1], [1, 9]), ([0, 1, 2, 3, 9, 10], []), ([11, 3, 10, 0, 1, 2, 3, 9, 10], [3, 11]), ([0, 1, 2, 3, 4, 5, 6, 7, 8, 9, 10, 11, 12], []), ([13, 8, 12, 0, 1, 2, 3, 4, 5, 6, 7, 8, 9, 10, 11, 12], [8, 13])])
def str.B3 : List Nat := [0, 1, 0, 4, 0, 16, 48, 112, 240, 3, 515, 1551, 3599, 8191, 16383]
theorem str.tab3 : rtab .any (opsOf Try.f8 3) = str.T3 := by kernel_rfl
theorem str.bits3 : waitsOk str.T3.2 str.B3 = true := by kernel_rfl
set_option maxHeartbeats 8000000 in
set_option maxRecDepth 100000 in
theorem start_arg (c : CliS) (A1 : Option Addr) (k1 : Nat) (A2 : Option Addr) (k2 : Nat) (now : Int) (x : S27) (A : Option Addr) (k : Nat) (w : World) (hc : CliIn w c A1 k1 A2 k2) (h3 : Kd.C (Kd.int .u8) w A x.f8.length x.f8) (hl3 : x.f8.length ≤ k) (hb1 : c.Br.length < 1000000) (hb2 : c.Call.f8.length ≤ 140737488351232) (hb3 : x.f8.length ≤ 140737488351232) (hN : 0 ≤ c.N ∧ c.N < 18446744073709551616) (hm : mayB (begun c x) = false) :
    Calls Try.prog 8 #[.agg (rL_ c A1 k1 A2 k2), .int .u64 now, .agg (rK_ x A k)] w (StartPost w (startC c now x)) := by
  have HV := Aside0.mk (show startC c now x = (zCli, [], 1) by unfold startC; rw [hm]; rfl)
  have HM := Aside0.mk hm
  clear hm
  have HW0 := Aside0.mk (show ((w.alloc (.cells (rL_ c A1 k1 A2 k2) 29)).alloc (.cells (rK_ x A k) 27)).heap.size = w.heap.size + 1 + 1 by simp)
  have HB0 := Aside0.mk (below_alloc (below_alloc (below_alloc (Below.refl w.heap.size w) (.cells (rL_ c A1 k1 A2 k2) 29)) (.cells (rK_ x A k) 27)) (.cells rZC_ 29))
  have BC := Aside0.mk (blk_alloc (blk_alloc (heap_alloc_new w (.cells (rL_ c A1 k1 A2 k2) 29)) (.cells (rK_ x A k) 27)) (.cells rZC_ 29))
  have BX := Aside0.mk (show _ = some (Obj.cells (rK_ x A k) 27 (0, 0)) from (show (w.alloc (.cells (rL_ c A1 k1 A2 k2) 29)).heap.size = w.heap.size + 1 by simp) ▸ blk_alloc (heap_alloc_new (w.alloc (.cells (rL_ c A1 k1 A2 k2) 29)) (.cells (rK_ x A k) 27)) (.cells rZC_ 29))
  have BZ := Aside0.mk (HW0.out ▸ heap_alloc_new ((w.alloc (.cells (rL_ c A1 k1 A2 k2) 29)).alloc (.cells (rK_ x A k) 27)) (.cells rZC_ 29))
  have HS1 := Aside0.mk (show (((w.alloc (.cells (rL_ c A1 k1 A2 k2) 29)).alloc (.cells (rK_ x A k) 27)).alloc (.cells rZC_ 29)).heap.size = w.heap.size + 3 by simp)
  have HIN := Aside0.mk (hc.below HB0.out)
  have H3 := Aside0.mk (Kd.C_below h3 HB0.out)
  clear hc h3 HW0
  go_enter Try.func8, Try.ntmps8
  go_wp2_with (refine wpList_load_row rfl 29 (.tmp 3) rfl w.heap.size (by rfl) 29 (rL_ c A1 k1 A2 k2) (0, 0) _ BC.out Try.underlying29 rfl (by kernel_rfl) ?_)
  generalize World.alloc _ _ = W1 at HB0 BC BX BZ HS1 HIN H3 ⊢
  have HWI := Aside0.mk (fun n => with_r c A1 k1 A2 k2 n W1 HIN.out.C1 HIN.out.l1 HIN.out.C2 HIN.out.l2 (by omega) hb2)
  have HOWN := Aside0.mk (show client_own.f x.f0 x.f1 x.f2 x.f3 x.f4 x.f5 x.f6 x.f7 x.f8 = some (x.f0, x.f1, x.f2, x.f3, x.f4, x.f5, x.f6, x.f7, x.f8) by unfold client_own.f slices_Clone_byte_byte.f; rw [if_pos (by omega)]; rfl)
  go_wp2_with (first
      | (go_at_call 23; refine (HWI.out _).mono ?_; rintro e W2 ⟨g, rfl, hI, hB⟩; have HI := Aside0.mk hI; have HB2 := Aside0.mk hB; clear hI hB HWI; have BX2 := Aside0.mk (blk_below BX.out HB2.out))
      | (refine wpList_load_row rfl 27 (.tmp 5) rfl (w.heap.size + 1) (by rfl) 27 (rK_ x A k) (0, 0) _ BX2.out Try.underlying27 rfl (by kernel_rfl) ?_)
      | (go_at_call 24; refine (client_own.calls x.f0 x.f1 x.f2 x.f3 x.f4 x.f5 x.f6 x.f7 A k x.f8 x.f0 x.f1 x.f2 x.f3 x.f4 x.f5 x.f6 x.f7 x.f8 _ (Kd.C_below H3.out HB2.out) hl3 HOWN.out).mono ?_; rintro e W3 ⟨v3, rfl, hR3, hB3⟩; obtain ⟨A5, k5, rfl, hl5, hF5⟩ := R_F0 hR3; have HF5 := Aside0.mk hF5; have HL5 := Aside0.mk hl5; have HB3 := Aside0.mk hB3; have BX3 := Aside0.mk (blk_below BX2.out hB3); clear hR3 hB3 hF5 hl5)
      | (refine wpList_store_row rfl 27 (.tmp 5) (.tmp 14) rfl (w.heap.size + 1) (rK_ x A5 k5) (by rfl) (by rfl) 27 (rK_ x A k) BX3.out (by kernel_rfl) (by rfl) (by kernel_rfl) ?_))
  trace "X"

  have HS2 := Aside0.mk HB2.out.size
  have HFR4 := Aside0.mk ((((Fr.of_below HB0.out (fun k => w.heap.size ≤ k)).then_ (Fr.of_below HB2.out _)).then_ (Fr.of_below HB3.out _)).setRow (w.heap.size + 1) (rK_ x A5 k5) (fun h => by omega))
  have HI4 := Aside0.mk ((HI.out.below HB3.out).fr (Fr.setRow (Fr.refl (fun k => k = w.heap.size + 1) W3) (w.heap.size + 1) (rK_ x A5 k5) (fun _ => rfl)) (fun k hk => by have := HS1.out; omega))
  have HF54 := Aside0.mk (Kd.F_step HF5.out (W1 := W3.setRow (w.heap.size + 1) (rK_ x A5 k5)) (fun k hk _ => setRow_other W3 (w.heap.size + 1) k _ (by have := HS1.out; have := HS2.out; omega)))
  have BX4 := Aside0.mk (blk_row BX3.out (rK_ x A5 k5))
  have BC4 := Aside0.mk (blk_row_far (blk_below (blk_below BC.out HB2.out) HB3.out) (rK_ x A5 k5) (g' := w.heap.size + 1) (by omega))
  have BZ4 := Aside0.mk (blk_row_far (blk_below (blk_below BZ.out HB2.out) HB3.out) (rK_ x A5 k5) (g' := w.heap.size + 1) (by omega))
  clear HI HB3 HF5 BX3 BX2 BX BC BZ HIN H3 HOWN
  generalize W3.setRow _ _ = W4 at HFR4 HI4 HF54 BX4 BC4 BZ4 ⊢
  have e0 := hN.1
  have e1 := hN.2
  have d0 : W4.cell? ⟨w.heap.size, 0, none⟩ = some (.int .i64 c.Id) := (cells_at BC4.out rfl).1
  have d1 : W4.cell? ⟨w.heap.size, 1, none⟩ = some (.int .u64 c.Inc) := (cells_at BC4.out rfl).1
  have d2 : W4.cell? ⟨w.heap.size, 2, none⟩ = some (.int .u64 c.N) := (cells_at BC4.out rfl).1
  refine start_ (n := 15) (S := fun w' => w'.cell? ⟨w.heap.size, 0, none⟩ = some (.int .i64 c.Id) ∧ w'.cell? ⟨w.heap.size, 1, none⟩ = some (.int .u64 c.Inc) ∧ w'.cell? ⟨w.heap.size, 2, none⟩ = some (.int .u64 c.N)) (ds := [14]) #[false, false, false, false, false, false, false, false, false, false, false, false, false, false, false] (by kernel_rfl) rfl rfl ⟨d0, d1, d2⟩ (fun hHeld => ?_)
  refine with_tabW str.tab3 str.bits3 (fun HT_ HW_ => ?_)
  have BX5 := Aside0.mk (blk_drew BX4.out)
  have BC5 := Aside0.mk (blk_drew BC4.out)
  have BZ5 := Aside0.mk (blk_drew BZ4.out)
  have HFR5 := Aside0.mk HFR4.out.drew
  have HF55 := Aside0.mk (Kd.F_drew HF54.out)
  have HI5 := Aside0.mk (HI4.out.fr ((Fr.refl (fun _ => False) W4).drew) (fun _ h => h.elim))
  clear BX4 BC4 BZ4 HFR4 HF54 HI4 d0 d1 d2
  generalize W4.drew = W5 at BX5 BC5 BZ5 HFR5 HF55 HI5 hHeld ⊢
  -- 0: Op.fieldAddr
  refine pure_ (i := 0) (N := some 15) (v := ?_) (a' := ?_) #[true, false, false, false, false, false, false, false, false, false, false, false, false, false, false] rfl rfl (any_of HT_.out (by kernel_rfl)) (fun _ _ _ h => h) (Or.inl ⟨by rfl, ?_⟩) ?_ ?_
  rotate_left; (intro w'; go_simp; with_reducible rfl); rotate_left; (simp only [Act.put, List.setIfInBounds_toArray, List.set_cons_zero, List.set_cons_succ, i64_w, i32_w]; rfl)
  -- 2: Op.fieldAddr
  refine pure_ (i := 2) (N := some 17) (v := ?_) (a' := ?_) #[true, false, true, false, false, false, false, false, false, false, false, false, false, false, false] rfl rfl (any_of HT_.out (by kernel_rfl)) (fun _ _ _ h => h) (Or.inl ⟨by rfl, ?_⟩) ?_ ?_
  rotate_left; (intro w'; go_simp; with_reducible rfl); rotate_left; (simp only [Act.put, List.setIfInBounds_toArray, List.set_cons_zero, List.set_cons_succ, i64_w, i32_w]; rfl)
  -- 4: Op.fieldAddr
  refine pure_ (i := 4) (N := some 19) (v := ?_) (a' := ?_) #[true, false, true, false, true, false, false, false, false, false, false, false, false, false, false] rfl rfl (any_of HT_.out (by kernel_rfl)) (fun _ _ _ h => h) (Or.inl ⟨by rfl, ?_⟩) ?_ ?_
  rotate_left; (intro w'; go_simp; with_reducible rfl); rotate_left; (simp only [Act.put, List.setIfInBounds_toArray, List.set_cons_zero, List.set_cons_succ, i64_w, i32_w]; rfl)
  -- 1: Op.load
  refine take_ (i := 1) (N := some 16) (v := ?_) (a' := ?_) #[true, true, true, false, true, false, false, false, false, false, false, false, false, false, false] rfl rfl (take_ofW HT_.out HW_.out (by kernel_rfl)) (fun _ _ _ h => h) (Or.inl ⟨by rfl, ?_⟩) hHeld ?_ ?_
  rotate_left; (rintro w' ⟨s0, s1, s2⟩; go_simp; with_reducible rfl); rotate_left; (simp only [Act.put, List.setIfInBounds_toArray, List.set_cons_zero, List.set_cons_succ, i64_w, i32_w]; rfl)
  -- 9: Op.fieldAddr
  refine pure_ (i := 9) (N := some 24) (v := ?_) (a' := ?_) #[true, true, true, false, true, false, false, false, false, true, false, false, false, false, false] rfl rfl (any_of HT_.out (by kernel_rfl)) (fun _ _ _ h => h) (Or.inl ⟨by rfl, ?_⟩) ?_ ?_
  rotate_left; (intro w'; go_simp; with_reducible rfl); rotate_left; (simp only [Act.put, List.setIfInBounds_toArray, List.set_cons_zero, List.set_cons_succ, i64_w, i32_w]; rfl)
  -- 3: Op.load
  refine take_ (i := 3) (N := some 18) (v := ?_) (a' := ?_) #[true, true, true, true, true, false, false, false, false, true, false, false, false, false, false] rfl rfl (take_ofW HT_.out HW_.out (by kernel_rfl)) (fun _ _ _ h => h) (Or.inl ⟨by rfl, ?_⟩) hHeld ?_ ?_
  rotate_left; (rintro w' ⟨s0, s1, s2⟩; go_simp; with_reducible rfl); rotate_left; (simp only [Act.put, List.setIfInBounds_toArray, List.set_cons_zero, List.set_cons_succ, i64_w, i32_w]; rfl)
  -- 5: Op.load
  refine take_ (i := 5) (N := some 20) (v := ?_) (a' := ?_) #[true, true, true, true, true, true, false, false, false, true, false, false, false, false, false] rfl rfl (take_ofW HT_.out HW_.out (by kernel_rfl)) (fun _ _ _ h => h) (Or.inl ⟨by rfl, ?_⟩) hHeld ?_ ?_
  rotate_left; (rintro w' ⟨s0, s1, s2⟩; go_simp; with_reducible rfl); rotate_left; (simp only [Act.put, List.setIfInBounds_toArray, List.set_cons_zero, List.set_cons_succ, i64_w, i32_w]; rfl)
  -- 6: Op.call
  refine pure_ (i := 6) (N := some 21) (v := ?_) (a' := ?_) #[true, true, true, true, true, true, true, false, false, true, false, false, false, false, false] rfl rfl (any_of HT_.out (by kernel_rfl)) (fun _ _ _ h => h) (Or.inl ⟨by rfl, ?_⟩) ?_ ?_
  rotate_left; (intro w'; go_simp; with_reducible rfl); rotate_left; (simp only [Act.put, List.setIfInBounds_toArray, List.set_cons_zero, List.set_cons_succ, i64_w, i32_w]; rfl)
  -- 7: Op.binOp
  refine pure_ (i := 7) (N := some 22) (v := ?_) (a' := ?_) #[true, true, true, true, true, true, true, true, false, true, false, false, false, false, false] rfl rfl (any_of HT_.out (by kernel_rfl)) (fun _ _ _ h => h) (Or.inl ⟨by rfl, ?_⟩) ?_ ?_
  rotate_left; (intro w'; go_simp; with_reducible rfl); rotate_left; (simp only [Act.put, List.setIfInBounds_toArray, List.set_cons_zero, List.set_cons_succ, i64_w, i32_w]; rfl)
  -- 8: Op.call
  refine pure_ (i := 8) (N := some 23) (v := ?_) (a' := ?_) #[true, true, true, true, true, true, true, true, true, true, false, false, false, false, false] rfl rfl (any_of HT_.out (by kernel_rfl)) (fun _ _ _ h => h) (Or.inl ⟨by rfl, ?_⟩) ?_ ?_
  rotate_left; (intro w'; go_simp; with_reducible rfl); rotate_left; (simp only [Act.put, List.setIfInBounds_toArray, List.set_cons_zero, List.set_cons_succ, i64_w, i32_w]; rfl)
  -- 10: Op.store
  refine one_ (i := 10) (N := none) #[true, true, true, true, true, true, true, true, true, true, true, false, false, false, false] rfl rfl (one_of HT_.out (by kernel_rfl)) (by decide) (fun K hK => ?_)
  have hfz := blk_frozen BX5.out 0
  have e0 : W5.cell? ⟨(w.heap.size + 1), 0, none⟩ = some (.int .i64 x.f0) := (cells_at BX5.out rfl).1
  refine skip_ (w1 := ?_) (by rfl) rfl ?_ ?_
  rotate_left
  · go_simp
    rfl
  clear hfz e0
  have bq := blk_set BX5.out 0 (.int .i64 c.Id)
  simp only [List.setIfInBounds_toArray, List.set_cons_zero, List.set_cons_succ] at bq
  have BX6 := Aside0.mk bq
  clear bq
  refine hK.out _ _ ⟨(World.cell?_setCell_far _ _ _ _ (by simp)).trans hHeld.1, (World.cell?_setCell_far _ _ _ _ (by simp)).trans hHeld.2.1, (World.cell?_setCell_far _ _ _ _ (by simp)).trans hHeld.2.2⟩ (fun hHeld => ?_)
  clear hK K
  -- 11: Op.fieldAddr
  refine pure_ (i := 11) (N := some 25) (v := ?_) (a' := ?_) #[true, true, true, true, true, true, true, true, true, true, true, true, false, false, false] rfl rfl (any_of HT_.out (by kernel_rfl)) (fun _ _ _ h => h) (Or.inl ⟨by rfl, ?_⟩) ?_ ?_
  rotate_left; (intro w'; go_simp; with_reducible rfl); rotate_left; (simp only [Act.put, List.setIfInBounds_toArray, List.set_cons_zero, List.set_cons_succ, i64_w, i32_w]; rfl)
  -- 12: Op.store
  refine one_ (i := 12) (N := none) #[true, true, true, true, true, true, true, true, true, true, true, true, true, false, false] rfl rfl (one_of HT_.out (by kernel_rfl)) (by decide) (fun K hK => ?_)
  have hfz := blk_frozen BX6.out 1
  have e0 : (W5.setCell ⟨w.heap.size + 1, 0, none⟩ (.int .i64 c.Id)).cell? ⟨(w.heap.size + 1), 1, none⟩ = some (.int .u64 x.f1) := (cells_at BX6.out rfl).1
  refine skip_ (w1 := ?_) (by rfl) rfl ?_ ?_
  rotate_left
  · go_simp
    rfl
  clear hfz e0
  have bq := blk_set BX6.out 1 (.int .u64 c.Inc)
  simp only [List.setIfInBounds_toArray, List.set_cons_zero, List.set_cons_succ] at bq
  have BX7 := Aside0.mk bq
  clear bq
  refine hK.out _ _ ⟨(World.cell?_setCell_far _ _ _ _ (by simp)).trans hHeld.1, (World.cell?_setCell_far _ _ _ _ (by simp)).trans hHeld.2.1, (World.cell?_setCell_far _ _ _ _ (by simp)).trans hHeld.2.2⟩ (fun hHeld => ?_)
  clear hK K
  -- 13: Op.fieldAddr
  refine pure_ (i := 13) (N := some 26) (v := ?_) (a' := ?_) #[true, true, true, true, true, true, true, true, true, true, true, true, true, true, false] rfl rfl (any_of HT_.out (by kernel_rfl)) (fun _ _ _ h => h) (Or.inl ⟨by rfl, ?_⟩) ?_ ?_
  rotate_left; (intro w'; go_simp; with_reducible rfl); rotate_left; (simp only [Act.put, List.setIfInBounds_toArray, List.set_cons_zero, List.set_cons_succ, i64_w, i32_w]; rfl)
  -- 14: Op.store
  refine last_ (i := 14) (N := none) #[true, true, true, true, true, true, true, true, true, true, true, true, true, true, true] rfl rfl (one_of HT_.out (by kernel_rfl)) (by decide) (fun K hK => ?_)
  have hfz := blk_frozen BX7.out 2
  have e0 : ((W5.setCell ⟨w.heap.size + 1, 0, none⟩ (.int .i64 c.Id)).setCell ⟨w.heap.size + 1, 1, none⟩ (.int .u64 c.Inc)).cell? ⟨(w.heap.size + 1), 2, none⟩ = some (.int .u64 x.f2) := (cells_at BX7.out rfl).1
  refine skip_ (w1 := ?_) (by rfl) rfl ?_ ?_
  rotate_left
  · go_simp
    rfl
  clear hfz e0
  have bq := blk_set BX7.out 2 (.int .u64 (if IntKind.u64.wrap ((if 4611686018427387902 < c.N then 4611686018427387902 else c.N) + 1) < 1 then 1 else IntKind.u64.wrap ((if 4611686018427387902 < c.N then 4611686018427387902 else c.N) + 1)))
  simp only [List.setIfInBounds_toArray, List.set_cons_zero, List.set_cons_succ] at bq
  have BX8 := Aside0.mk bq
  clear bq
  refine hK.out _ _ ?_
  clear hK K
  refine done_ (done_of HT_.out (by kernel_rfl)) ?_
  clear HT_ HW_ hHeld e0 e1
  have HFR8 := Aside0.mk (((HFR5.out.setCell (p := ⟨w.heap.size + 1, 0, none⟩) (fun h => by simp only at h; omega) (.int .i64 c.Id)).setCell (p := ⟨w.heap.size + 1, 1, none⟩) (fun h => by simp only at h; omega) (.int .u64 c.Inc)).setCell (p := ⟨w.heap.size + 1, 2, none⟩) (fun h => by simp only at h; omega) (.int .u64 (if IntKind.u64.wrap ((if 4611686018427387902 < c.N then 4611686018427387902 else c.N) + 1) < 1 then 1 else IntKind.u64.wrap ((if 4611686018427387902 < c.N then 4611686018427387902 else c.N) + 1))))
  have HR8 := Aside0.mk ((((Fr.refl (fun k => k = w.heap.size + 1) W5).setCell (p := ⟨w.heap.size + 1, 0, none⟩) (fun _ => rfl) (.int .i64 c.Id)).setCell (p := ⟨w.heap.size + 1, 1, none⟩) (fun _ => rfl) (.int .u64 c.Inc)).setCell (p := ⟨w.heap.size + 1, 2, none⟩) (fun _ => rfl) (.int .u64 (if IntKind.u64.wrap ((if 4611686018427387902 < c.N then 4611686018427387902 else c.N) + 1) < 1 then 1 else IntKind.u64.wrap ((if 4611686018427387902 < c.N then 4611686018427387902 else c.N) + 1))))
  clear BX5 BX6 BX7 HFR5
  generalize World.setCell _ _ _ = W6 at BX8 HFR8 HR8 ⊢
  have BX9 := Aside0.mk (show _ = some (Obj.cells (rK_ (begun c x) A5 k5) 27 (0, 0)) from BX8.out)
  have BC9 := Aside0.mk ((HR8.out.block _ (blk_lt BC5.out) (show ¬ (w.heap.size = w.heap.size + 1) by omega)).trans BC5.out)
  have BZ9 := Aside0.mk ((HR8.out.block _ (blk_lt BZ5.out) (show ¬ (w.heap.size + 1 + 1 = w.heap.size + 1) by omega)).trans BZ5.out)
  have HI9 := Aside0.mk (HI5.out.fr HR8.out (fun k hk => by have := HS1.out; omega))
  have HF59 := Aside0.mk (Kd.F_step HF55.out (W1 := W6) (fun k hk hlt => HR8.out.block k hlt (by have := HS1.out; have := HS2.out; omega)))
  have HMAY := Aside0.mk (client_May.calls 4 (begun c x).f0 (begun c x).f1 (begun c x).f2 (begun c x).f3 (begun c x).f4 (begun c x).f5 (begun c x).f6 (begun c x).f7 A5 k5 (begun c x).f8 (mayB (begun c x)) W6 (Kd.F_now HF59.out) HL5.out (may_f (begun c x)))
  clear BX8 BC5 BZ5 HI5 HF55 HR8
  generalize (if (4611686018427387902 : Int) < c.N then 4611686018427387902 else c.N) = m0
  generalize IntKind.u64.wrap (m0 + 1) = m1
  generalize (if m1 < 1 then 1 else m1) = m2
  rw [HM.out] at HMAY
  go_wp2_with (first
      | (refine wpList_load_row rfl 27 (.tmp 5) rfl (w.heap.size + 1) (by rfl) 27 (rK_ (begun c x) A5 k5) (0, 0) _ BX9.out Try.underlying27 rfl (by kernel_rfl) ?_)
      | (go_at_call 14; refine HMAY.out.mono ?_; rintro e W7 ⟨rfl, hB7⟩; have BC := Aside0.mk (blk_below BC9.out hB7); have BX := Aside0.mk (blk_below BX9.out hB7); have BZ := Aside0.mk (blk_below BZ9.out hB7); have HI := Aside0.mk (HI9.out.below hB7); have HF := Aside0.mk (Kd.F_below HF59.out hB7); have HFR := Aside0.mk (HFR8.out.then_ (Fr.of_below hB7 _)); clear hB7 BC9 BX9 BZ9 HI9 HF59 HFR8 HMAY)
      | (refine wpList_store_row rfl 29 (.tmp 6) (.tmp 31) rfl (w.heap.size + 1 + 1) rZC_ (by rfl) (by rfl) 29 rZC_ BZ.out (by kernel_rfl) (by rfl) (by kernel_rfl) ?_))
  have HFR2 := Aside0.mk (HFR.out.setRow (w.heap.size + 1 + 1) rZC_ (fun h => by omega))
  have BZ2 := Aside0.mk (blk_row BZ.out rZC_)
  refine bodyPost_ret (results_list (rs := [.cell 6 29, .tmp 7, .tmp 8]) rfl (by simp) (.cell (w.heap.size + 1 + 1) 29 rZC_ (0, 0) _ rfl BZ2.out Try.underlying29 rfl (by kernel_rfl) (.tmp (.tmp .nil)))) rfl ?_
  rw [HV.out]
  exact ⟨none, 0, none, 0, none, 0, rfl, CliNew.zero _ _, SentNew.nil _ _, HFR2.out.below (Nat.le_refl _) (fun _ h => h)⟩
set_option maxHeartbeats 8000000 in
set_option maxRecDepth 100000 in
theorem start_busy (c : CliS) (A1 : Option Addr) (k1 : Nat) (A2 : Option Addr) (k2 : Nat) (now : Int) (x : S27) (A : Option Addr) (k : Nat) (w : World) (hc : CliIn w c A1 k1 A2 k2) (h3 : Kd.C (Kd.int .u8) w A x.f8.length x.f8) (hl3 : x.f8.length ≤ k) (hb1 : c.Br.length < 1000000) (hb2 : c.Call.f8.length ≤ 140737488351232) (hb3 : x.f8.length ≤ 140737488351232) (hN : 0 ≤ c.N ∧ c.N < 18446744073709551616) (hm : mayB (begun c x) = true) (hb : c.Busy = 1) :
    Calls Try.prog 8 #[.agg (rL_ c A1 k1 A2 k2), .int .u64 now, .agg (rK_ x A k)] w (StartPost w (startC c now x)) := by
  have HV := Aside0.mk (show startC c now x = (zCli, [], 5) by unfold startC; rw [hm, hb]; rfl)
  have HM := Aside0.mk hm
  have HBU := Aside0.mk hb
  clear hm hb
  have HW0 := Aside0.mk (show ((w.alloc (.cells (rL_ c A1 k1 A2 k2) 29)).alloc (.cells (rK_ x A k) 27)).heap.size = w.heap.size + 1 + 1 by simp)
  have HB0 := Aside0.mk (below_alloc (below_alloc (below_alloc (Below.refl w.heap.size w) (.cells (rL_ c A1 k1 A2 k2) 29)) (.cells (rK_ x A k) 27)) (.cells rZC_ 29))
  have BC := Aside0.mk (blk_alloc (blk_alloc (heap_alloc_new w (.cells (rL_ c A1 k1 A2 k2) 29)) (.cells (rK_ x A k) 27)) (.cells rZC_ 29))
  have BX := Aside0.mk (show _ = some (Obj.cells (rK_ x A k) 27 (0, 0)) from (show (w.alloc (.cells (rL_ c A1 k1 A2 k2) 29)).heap.size = w.heap.size + 1 by simp) ▸ blk_alloc (heap_alloc_new (w.alloc (.cells (rL_ c A1 k1 A2 k2) 29)) (.cells (rK_ x A k) 27)) (.cells rZC_ 29))
  have BZ := Aside0.mk (HW0.out ▸ heap_alloc_new ((w.alloc (.cells (rL_ c A1 k1 A2 k2) 29)).alloc (.cells (rK_ x A k) 27)) (.cells rZC_ 29))
  have HS1 := Aside0.mk (show (((w.alloc (.cells (rL_ c A1 k1 A2 k2) 29)).alloc (.cells (rK_ x A k) 27)).alloc (.cells rZC_ 29)).heap.size = w.heap.size + 3 by simp)
  have HIN := Aside0.mk (hc.below HB0.out)
  have H3 := Aside0.mk (Kd.C_below h3 HB0.out)
  clear hc h3 HW0
  go_enter Try.func8, Try.ntmps8
  go_wp2_with (refine wpList_load_row rfl 29 (.tmp 3) rfl w.heap.size (by rfl) 29 (rL_ c A1 k1 A2 k2) (0, 0) _ BC.out Try.underlying29 rfl (by kernel_rfl) ?_)
  generalize World.alloc _ _ = W1 at HB0 BC BX BZ HS1 HIN H3 ⊢
  have HWI := Aside0.mk (fun n => with_r c A1 k1 A2 k2 n W1 HIN.out.C1 HIN.out.l1 HIN.out.C2 HIN.out.l2 (by omega) hb2)
  have HOWN := Aside0.mk (show client_own.f x.f0 x.f1 x.f2 x.f3 x.f4 x.f5 x.f6 x.f7 x.f8 = some (x.f0, x.f1, x.f2, x.f3, x.f4, x.f5, x.f6, x.f7, x.f8) by unfold client_own.f slices_Clone_byte_byte.f; rw [if_pos (by omega)]; rfl)
  go_wp2_with (first
      | (go_at_call 23; refine (HWI.out _).mono ?_; rintro e W2 ⟨g, rfl, hI, hB⟩; have HI := Aside0.mk hI; have HB2 := Aside0.mk hB; clear hI hB HWI; have BX2 := Aside0.mk (blk_below BX.out HB2.out))
      | (refine wpList_load_row rfl 27 (.tmp 5) rfl (w.heap.size + 1) (by rfl) 27 (rK_ x A k) (0, 0) _ BX2.out Try.underlying27 rfl (by kernel_rfl) ?_)
      | (go_at_call 24; refine (client_own.calls x.f0 x.f1 x.f2 x.f3 x.f4 x.f5 x.f6 x.f7 A k x.f8 x.f0 x.f1 x.f2 x.f3 x.f4 x.f5 x.f6 x.f7 x.f8 _ (Kd.C_below H3.out HB2.out) hl3 HOWN.out).mono ?_; rintro e W3 ⟨v3, rfl, hR3, hB3⟩; obtain ⟨A5, k5, rfl, hl5, hF5⟩ := R_F0 hR3; have HF5 := Aside0.mk hF5; have HL5 := Aside0.mk hl5; have HB3 := Aside0.mk hB3; have BX3 := Aside0.mk (blk_below BX2.out hB3); clear hR3 hB3 hF5 hl5)
      | (refine wpList_store_row rfl 27 (.tmp 5) (.tmp 14) rfl (w.heap.size + 1) (rK_ x A5 k5) (by rfl) (by rfl) 27 (rK_ x A k) BX3.out (by kernel_rfl) (by rfl) (by kernel_rfl) ?_))
  trace "X"

  have HS2 := Aside0.mk HB2.out.size
  have HFR4 := Aside0.mk ((((Fr.of_below HB0.out (fun k => w.heap.size ≤ k)).then_ (Fr.of_below HB2.out _)).then_ (Fr.of_below HB3.out _)).setRow (w.heap.size + 1) (rK_ x A5 k5) (fun h => by omega))
  have HI4 := Aside0.mk ((HI.out.below HB3.out).fr (Fr.setRow (Fr.refl (fun k => k = w.heap.size + 1) W3) (w.heap.size + 1) (rK_ x A5 k5) (fun _ => rfl)) (fun k hk => by have := HS1.out; omega))
  have HF54 := Aside0.mk (Kd.F_step HF5.out (W1 := W3.setRow (w.heap.size + 1) (rK_ x A5 k5)) (fun k hk _ => setRow_other W3 (w.heap.size + 1) k _ (by have := HS1.out; have := HS2.out; omega)))
  have BX4 := Aside0.mk (blk_row BX3.out (rK_ x A5 k5))
  have BC4 := Aside0.mk (blk_row_far (blk_below (blk_below BC.out HB2.out) HB3.out) (rK_ x A5 k5) (g' := w.heap.size + 1) (by omega))
  have BZ4 := Aside0.mk (blk_row_far (blk_below (blk_below BZ.out HB2.out) HB3.out) (rK_ x A5 k5) (g' := w.heap.size + 1) (by omega))
  clear HI HB3 HF5 BX3 BX2 BX BC BZ HIN H3 HOWN
  generalize W3.setRow _ _ = W4 at HFR4 HI4 HF54 BX4 BC4 BZ4 ⊢
  have e0 := hN.1
  have e1 := hN.2
  have d0 : W4.cell? ⟨w.heap.size, 0, none⟩ = some (.int .i64 c.Id) := (cells_at BC4.out rfl).1
  have d1 : W4.cell? ⟨w.heap.size, 1, none⟩ = some (.int .u64 c.Inc) := (cells_at BC4.out rfl).1
  have d2 : W4.cell? ⟨w.heap.size, 2, none⟩ = some (.int .u64 c.N) := (cells_at BC4.out rfl).1
  refine start_ (n := 15) (S := fun w' => w'.cell? ⟨w.heap.size, 0, none⟩ = some (.int .i64 c.Id) ∧ w'.cell? ⟨w.heap.size, 1, none⟩ = some (.int .u64 c.Inc) ∧ w'.cell? ⟨w.heap.size, 2, none⟩ = some (.int .u64 c.N)) (ds := [14]) #[false, false, false, false, false, false, false, false, false, false, false, false, false, false, false] (by kernel_rfl) rfl rfl ⟨d0, d1, d2⟩ (fun hHeld => ?_)
  refine with_tabW str.tab3 str.bits3 (fun HT_ HW_ => ?_)
  have BX5 := Aside0.mk (blk_drew BX4.out)
  have BC5 := Aside0.mk (blk_drew BC4.out)
  have BZ5 := Aside0.mk (blk_drew BZ4.out)
  have HFR5 := Aside0.mk HFR4.out.drew
  have HF55 := Aside0.mk (Kd.F_drew HF54.out)
  have HI5 := Aside0.mk (HI4.out.fr ((Fr.refl (fun _ => False) W4).drew) (fun _ h => h.elim))
  clear BX4 BC4 BZ4 HFR4 HF54 HI4 d0 d1 d2
  generalize W4.drew = W5 at BX5 BC5 BZ5 HFR5 HF55 HI5 hHeld ⊢
  -- 0: Op.fieldAddr
  refine pure_ (i := 0) (N := some 15) (v := ?_) (a' := ?_) #[true, false, false, false, false, false, false, false, false, false, false, false, false, false, false] rfl rfl (any_of HT_.out (by kernel_rfl)) (fun _ _ _ h => h) (Or.inl ⟨by rfl, ?_⟩) ?_ ?_
  rotate_left; (intro w'; go_simp; with_reducible rfl); rotate_left; (simp only [Act.put, List.setIfInBounds_toArray, List.set_cons_zero, List.set_cons_succ, i64_w, i32_w]; rfl)
  -- 2: Op.fieldAddr
  refine pure_ (i := 2) (N := some 17) (v := ?_) (a' := ?_) #[true, false, true, false, false, false, false, false, false, false, false, false, false, false, false] rfl rfl (any_of HT_.out (by kernel_rfl)) (fun _ _ _ h => h) (Or.inl ⟨by rfl, ?_⟩) ?_ ?_
  rotate_left; (intro w'; go_simp; with_reducible rfl); rotate_left; (simp only [Act.put, List.setIfInBounds_toArray, List.set_cons_zero, List.set_cons_succ, i64_w, i32_w]; rfl)
  -- 4: Op.fieldAddr
  refine pure_ (i := 4) (N := some 19) (v := ?_) (a' := ?_) #[true, false, true, false, true, false, false, false, false, false, false, false, false, false, false] rfl rfl (any_of HT_.out (by kernel_rfl)) (fun _ _ _ h => h) (Or.inl ⟨by rfl, ?_⟩) ?_ ?_
  rotate_left; (intro w'; go_simp; with_reducible rfl); rotate_left; (simp only [Act.put, List.setIfInBounds_toArray, List.set_cons_zero, List.set_cons_succ, i64_w, i32_w]; rfl)
  -- 1: Op.load
  refine take_ (i := 1) (N := some 16) (v := ?_) (a' := ?_) #[true, true, true, false, true, false, false, false, false, false, false, false, false, false, false] rfl rfl (take_ofW HT_.out HW_.out (by kernel_rfl)) (fun _ _ _ h => h) (Or.inl ⟨by rfl, ?_⟩) hHeld ?_ ?_
  rotate_left; (rintro w' ⟨s0, s1, s2⟩; go_simp; with_reducible rfl); rotate_left; (simp only [Act.put, List.setIfInBounds_toArray, List.set_cons_zero, List.set_cons_succ, i64_w, i32_w]; rfl)
  -- 9: Op.fieldAddr
  refine pure_ (i := 9) (N := some 24) (v := ?_) (a' := ?_) #[true, true, true, false, true, false, false, false, false, true, false, false, false, false, false] rfl rfl (any_of HT_.out (by kernel_rfl)) (fun _ _ _ h => h) (Or.inl ⟨by rfl, ?_⟩) ?_ ?_
  rotate_left; (intro w'; go_simp; with_reducible rfl); rotate_left; (simp only [Act.put, List.setIfInBounds_toArray, List.set_cons_zero, List.set_cons_succ, i64_w, i32_w]; rfl)
  -- 3: Op.load
  refine take_ (i := 3) (N := some 18) (v := ?_) (a' := ?_) #[true, true, true, true, true, false, false, false, false, true, false, false, false, false, false] rfl rfl (take_ofW HT_.out HW_.out (by kernel_rfl)) (fun _ _ _ h => h) (Or.inl ⟨by rfl, ?_⟩) hHeld ?_ ?_
  rotate_left; (rintro w' ⟨s0, s1, s2⟩; go_simp; with_reducible rfl); rotate_left; (simp only [Act.put, List.setIfInBounds_toArray, List.set_cons_zero, List.set_cons_succ, i64_w, i32_w]; rfl)
  -- 5: Op.load
  refine take_ (i := 5) (N := some 20) (v := ?_) (a' := ?_) #[true, true, true, true, true, true, false, false, false, true, false, false, false, false, false] rfl rfl (take_ofW HT_.out HW_.out (by kernel_rfl)) (fun _ _ _ h => h) (Or.inl ⟨by rfl, ?_⟩) hHeld ?_ ?_
  rotate_left; (rintro w' ⟨s0, s1, s2⟩; go_simp; with_reducible rfl); rotate_left; (simp only [Act.put, List.setIfInBounds_toArray, List.set_cons_zero, List.set_cons_succ, i64_w, i32_w]; rfl)
  -- 6: Op.call
  refine pure_ (i := 6) (N := some 21) (v := ?_) (a' := ?_) #[true, true, true, true, true, true, true, false, false, true, false, false, false, false, false] rfl rfl (any_of HT_.out (by kernel_rfl)) (fun _ _ _ h => h) (Or.inl ⟨by rfl, ?_⟩) ?_ ?_
  rotate_left; (intro w'; go_simp; with_reducible rfl); rotate_left; (simp only [Act.put, List.setIfInBounds_toArray, List.set_cons_zero, List.set_cons_succ, i64_w, i32_w]; rfl)
  -- 7: Op.binOp
  refine pure_ (i := 7) (N := some 22) (v := ?_) (a' := ?_) #[true, true, true, true, true, true, true, true, false, true, false, false, false, false, false] rfl rfl (any_of HT_.out (by kernel_rfl)) (fun _ _ _ h => h) (Or.inl ⟨by rfl, ?_⟩) ?_ ?_
  rotate_left; (intro w'; go_simp; with_reducible rfl); rotate_left; (simp only [Act.put, List.setIfInBounds_toArray, List.set_cons_zero, List.set_cons_succ, i64_w, i32_w]; rfl)
  -- 8: Op.call
  refine pure_ (i := 8) (N := some 23) (v := ?_) (a' := ?_) #[true, true, true, true, true, true, true, true, true, true, false, false, false, false, false] rfl rfl (any_of HT_.out (by kernel_rfl)) (fun _ _ _ h => h) (Or.inl ⟨by rfl, ?_⟩) ?_ ?_
  rotate_left; (intro w'; go_simp; with_reducible rfl); rotate_left; (simp only [Act.put, List.setIfInBounds_toArray, List.set_cons_zero, List.set_cons_succ, i64_w, i32_w]; rfl)
  -- 10: Op.store
  refine one_ (i := 10) (N := none) #[true, true, true, true, true, true, true, true, true, true, true, false, false, false, false] rfl rfl (one_of HT_.out (by kernel_rfl)) (by decide) (fun K hK => ?_)
  have hfz := blk_frozen BX5.out 0
  have e0 : W5.cell? ⟨(w.heap.size + 1), 0, none⟩ = some (.int .i64 x.f0) := (cells_at BX5.out rfl).1
  refine skip_ (w1 := ?_) (by rfl) rfl ?_ ?_
  rotate_left
  · go_simp
    rfl
  clear hfz e0
  have bq := blk_set BX5.out 0 (.int .i64 c.Id)
  simp only [List.setIfInBounds_toArray, List.set_cons_zero, List.set_cons_succ] at bq
  have BX6 := Aside0.mk bq
  clear bq
  refine hK.out _ _ ⟨(World.cell?_setCell_far _ _ _ _ (by simp)).trans hHeld.1, (World.cell?_setCell_far _ _ _ _ (by simp)).trans hHeld.2.1, (World.cell?_setCell_far _ _ _ _ (by simp)).trans hHeld.2.2⟩ (fun hHeld => ?_)
  clear hK K
  -- 11: Op.fieldAddr
  refine pure_ (i := 11) (N := some 25) (v := ?_) (a' := ?_) #[true, true, true, true, true, true, true, true, true, true, true, true, false, false, false] rfl rfl (any_of HT_.out (by kernel_rfl)) (fun _ _ _ h => h) (Or.inl ⟨by rfl, ?_⟩) ?_ ?_
  rotate_left; (intro w'; go_simp; with_reducible rfl); rotate_left; (simp only [Act.put, List.setIfInBounds_toArray, List.set_cons_zero, List.set_cons_succ, i64_w, i32_w]; rfl)
  -- 12: Op.store
  refine one_ (i := 12) (N := none) #[true, true, true, true, true, true, true, true, true, true, true, true, true, false, false] rfl rfl (one_of HT_.out (by kernel_rfl)) (by decide) (fun K hK => ?_)
  have hfz := blk_frozen BX6.out 1
  have e0 : (W5.setCell ⟨w.heap.size + 1, 0, none⟩ (.int .i64 c.Id)).cell? ⟨(w.heap.size + 1), 1, none⟩ = some (.int .u64 x.f1) := (cells_at BX6.out rfl).1
  refine skip_ (w1 := ?_) (by rfl) rfl ?_ ?_
  rotate_left
  · go_simp
    rfl
  clear hfz e0
  have bq := blk_set BX6.out 1 (.int .u64 c.Inc)
  simp only [List.setIfInBounds_toArray, List.set_cons_zero, List.set_cons_succ] at bq
  have BX7 := Aside0.mk bq
  clear bq
  refine hK.out _ _ ⟨(World.cell?_setCell_far _ _ _ _ (by simp)).trans hHeld.1, (World.cell?_setCell_far _ _ _ _ (by simp)).trans hHeld.2.1, (World.cell?_setCell_far _ _ _ _ (by simp)).trans hHeld.2.2⟩ (fun hHeld => ?_)
  clear hK K
  -- 13: Op.fieldAddr
  refine pure_ (i := 13) (N := some 26) (v := ?_) (a' := ?_) #[true, true, true, true, true, true, true, true, true, true, true, true, true, true, false] rfl rfl (any_of HT_.out (by kernel_rfl)) (fun _ _ _ h => h) (Or.inl ⟨by rfl, ?_⟩) ?_ ?_
  rotate_left; (intro w'; go_simp; with_reducible rfl); rotate_left; (simp only [Act.put, List.setIfInBounds_toArray, List.set_cons_zero, List.set_cons_succ, i64_w, i32_w]; rfl)
  -- 14: Op.store
  refine last_ (i := 14) (N := none) #[true, true, true, true, true, true, true, true, true, true, true, true, true, true, true] rfl rfl (one_of HT_.out (by kernel_rfl)) (by decide) (fun K hK => ?_)
  have hfz := blk_frozen BX7.out 2
  have e0 : ((W5.setCell ⟨w.heap.size + 1, 0, none⟩ (.int .i64 c.Id)).setCell ⟨w.heap.size + 1, 1, none⟩ (.int .u64 c.Inc)).cell? ⟨(w.heap.size + 1), 2, none⟩ = some (.int .u64 x.f2) := (cells_at BX7.out rfl).1
  refine skip_ (w1 := ?_) (by rfl) rfl ?_ ?_
  rotate_left
  · go_simp
    rfl
  clear hfz e0
  have bq := blk_set BX7.out 2 (.int .u64 (if IntKind.u64.wrap ((if 4611686018427387902 < c.N then 4611686018427387902 else c.N) + 1) < 1 then 1 else IntKind.u64.wrap ((if 4611686018427387902 < c.N then 4611686018427387902 else c.N) + 1)))
  simp only [List.setIfInBounds_toArray, List.set_cons_zero, List.set_cons_succ] at bq
  have BX8 := Aside0.mk bq
  clear bq
  refine hK.out _ _ ?_
  clear hK K
  refine done_ (done_of HT_.out (by kernel_rfl)) ?_
  clear HT_ HW_ hHeld e0 e1
  have HFR8 := Aside0.mk (((HFR5.out.setCell (p := ⟨w.heap.size + 1, 0, none⟩) (fun h => by simp only at h; omega) (.int .i64 c.Id)).setCell (p := ⟨w.heap.size + 1, 1, none⟩) (fun h => by simp only at h; omega) (.int .u64 c.Inc)).setCell (p := ⟨w.heap.size + 1, 2, none⟩) (fun h => by simp only at h; omega) (.int .u64 (if IntKind.u64.wrap ((if 4611686018427387902 < c.N then 4611686018427387902 else c.N) + 1) < 1 then 1 else IntKind.u64.wrap ((if 4611686018427387902 < c.N then 4611686018427387902 else c.N) + 1))))
  have HR8 := Aside0.mk ((((Fr.refl (fun k => k = w.heap.size + 1) W5).setCell (p := ⟨w.heap.size + 1, 0, none⟩) (fun _ => rfl) (.int .i64 c.Id)).setCell (p := ⟨w.heap.size + 1, 1, none⟩) (fun _ => rfl) (.int .u64 c.Inc)).setCell (p := ⟨w.heap.size + 1, 2, none⟩) (fun _ => rfl) (.int .u64 (if IntKind.u64.wrap ((if 4611686018427387902 < c.N then 4611686018427387902 else c.N) + 1) < 1 then 1 else IntKind.u64.wrap ((if 4611686018427387902 < c.N then 4611686018427387902 else c.N) + 1))))
  clear BX5 BX6 BX7 HFR5
  generalize World.setCell _ _ _ = W6 at BX8 HFR8 HR8 ⊢
  have BX9 := Aside0.mk (show _ = some (Obj.cells (rK_ (begun c x) A5 k5) 27 (0, 0)) from BX8.out)
  have BC9 := Aside0.mk ((HR8.out.block _ (blk_lt BC5.out) (show ¬ (w.heap.size = w.heap.size + 1) by omega)).trans BC5.out)
  have BZ9 := Aside0.mk ((HR8.out.block _ (blk_lt BZ5.out) (show ¬ (w.heap.size + 1 + 1 = w.heap.size + 1) by omega)).trans BZ5.out)
  have HI9 := Aside0.mk (HI5.out.fr HR8.out (fun k hk => by have := HS1.out; omega))
  have HF59 := Aside0.mk (Kd.F_step HF55.out (W1 := W6) (fun k hk hlt => HR8.out.block k hlt (by have := HS1.out; have := HS2.out; omega)))
  have HMAY := Aside0.mk (client_May.calls 4 (begun c x).f0 (begun c x).f1 (begun c x).f2 (begun c x).f3 (begun c x).f4 (begun c x).f5 (begun c x).f6 (begun c x).f7 A5 k5 (begun c x).f8 (mayB (begun c x)) W6 (Kd.F_now HF59.out) HL5.out (may_f (begun c x)))
  clear BX8 BC5 BZ5 HI5 HF55 HR8
  generalize (if (4611686018427387902 : Int) < c.N then 4611686018427387902 else c.N) = m0
  generalize IntKind.u64.wrap (m0 + 1) = m1
  generalize (if m1 < 1 then 1 else m1) = m2
  rw [HM.out] at HMAY
  have hbu : (c.Busy == 1) = true := by rw [HBU.out]; rfl
  go_wp2_with (first
      | (refine wpList_load_row rfl 27 (.tmp 5) rfl (w.heap.size + 1) (by rfl) 27 (rK_ (begun c x) A5 k5) (0, 0) _ BX9.out Try.underlying27 rfl (by kernel_rfl) ?_)
      | (go_at_call 14; refine HMAY.out.mono ?_; rintro e W7 ⟨rfl, hB7⟩; have BC := Aside0.mk (blk_below BC9.out hB7); have BX := Aside0.mk (blk_below BX9.out hB7); have BZ := Aside0.mk (blk_below BZ9.out hB7); have HI := Aside0.mk (HI9.out.below hB7); have HF := Aside0.mk (Kd.F_below HF59.out hB7); have HFR := Aside0.mk (HFR8.out.then_ (Fr.of_below hB7 _)); clear hB7 BC9 BX9 BZ9 HI9 HF59 HFR8 HMAY; have d2 : W7.cell? ⟨w.heap.size, 2, none⟩ = some (.int .u64 c.N) := (cells_at BC.out rfl).1; have d4 : W7.cell? ⟨w.heap.size, 4, none⟩ = some (.int .i64 c.Busy) := (cells_at BC.out rfl).1)
      | (refine wpList_store_row rfl 29 (.tmp 6) (.tmp 36) rfl (w.heap.size + 1 + 1) rZC_ (by rfl) (by rfl) 29 rZC_ BZ.out (by kernel_rfl) (by rfl) (by kernel_rfl) ?_))
  have HFR2 := Aside0.mk (HFR.out.setRow (w.heap.size + 1 + 1) rZC_ (fun h => by omega))
  have BZ2 := Aside0.mk (blk_row BZ.out rZC_)
  refine bodyPost_ret (results_list (rs := [.cell 6 29, .tmp 7, .tmp 8]) rfl (by simp) (.cell (w.heap.size + 1 + 1) 29 rZC_ (0, 0) _ rfl BZ2.out Try.underlying29 rfl (by kernel_rfl) (.tmp (.tmp .nil)))) rfl ?_
  rw [HV.out]
  exact ⟨none, 0, none, 0, none, 0, rfl, CliNew.zero _ _, SentNew.nil _ _, HFR2.out.below (Nat.le_refl _) (fun _ h => h)⟩
set_option maxHeartbeats 8000000 in
set_option maxRecDepth 100000 in
theorem start_full (c : CliS) (A1 : Option Addr) (k1 : Nat) (A2 : Option Addr) (k2 : Nat) (now : Int) (x : S27) (A : Option Addr) (k : Nat) (w : World) (hc : CliIn w c A1 k1 A2 k2) (h3 : Kd.C (Kd.int .u8) w A x.f8.length x.f8) (hl3 : x.f8.length ≤ k) (hb1 : c.Br.length < 1000000) (hb2 : c.Call.f8.length ≤ 140737488351232) (hb3 : x.f8.length ≤ 140737488351232) (hN : 0 ≤ c.N ∧ c.N < 18446744073709551616) (hm : mayB (begun c x) = true) (hb : c.Busy ≠ 1) (hf : 4611686018427387903 ≤ c.N) :
    Calls Try.prog 8 #[.agg (rL_ c A1 k1 A2 k2), .int .u64 now, .agg (rK_ x A k)] w (StartPost w (startC c now x)) := by
  have HV := Aside0.mk (show startC c now x = (zCli, [], 3) by unfold startC; rw [if_pos hm, if_neg hb, if_pos hf])
  have HM := Aside0.mk hm
  have HBU := Aside0.mk hb
  have HFU := Aside0.mk hf
  clear hm hb hf
  have HW0 := Aside0.mk (show ((w.alloc (.cells (rL_ c A1 k1 A2 k2) 29)).alloc (.cells (rK_ x A k) 27)).heap.size = w.heap.size + 1 + 1 by simp)
  have HB0 := Aside0.mk (below_alloc (below_alloc (below_alloc (Below.refl w.heap.size w) (.cells (rL_ c A1 k1 A2 k2) 29)) (.cells (rK_ x A k) 27)) (.cells rZC_ 29))
  have BC := Aside0.mk (blk_alloc (blk_alloc (heap_alloc_new w (.cells (rL_ c A1 k1 A2 k2) 29)) (.cells (rK_ x A k) 27)) (.cells rZC_ 29))
  have BX := Aside0.mk (show _ = some (Obj.cells (rK_ x A k) 27 (0, 0)) from (show (w.alloc (.cells (rL_ c A1 k1 A2 k2) 29)).heap.size = w.heap.size + 1 by simp) ▸ blk_alloc (heap_alloc_new (w.alloc (.cells (rL_ c A1 k1 A2 k2) 29)) (.cells (rK_ x A k) 27)) (.cells rZC_ 29))
  have BZ := Aside0.mk (HW0.out ▸ heap_alloc_new ((w.alloc (.cells (rL_ c A1 k1 A2 k2) 29)).alloc (.cells (rK_ x A k) 27)) (.cells rZC_ 29))
  have HS1 := Aside0.mk (show (((w.alloc (.cells (rL_ c A1 k1 A2 k2) 29)).alloc (.cells (rK_ x A k) 27)).alloc (.cells rZC_ 29)).heap.size = w.heap.size + 3 by simp)
  have HIN := Aside0.mk (hc.below HB0.out)
  have H3 := Aside0.mk (Kd.C_below h3 HB0.out)
  clear hc h3 HW0
  go_enter Try.func8, Try.ntmps8
  go_wp2_with (refine wpList_load_row rfl 29 (.tmp 3) rfl w.heap.size (by rfl) 29 (rL_ c A1 k1 A2 k2) (0, 0) _ BC.out Try.underlying29 rfl (by kernel_rfl) ?_)
  generalize World.alloc _ _ = W1 at HB0 BC BX BZ HS1 HIN H3 ⊢
  have HWI := Aside0.mk (fun n => with_r c A1 k1 A2 k2 n W1 HIN.out.C1 HIN.out.l1 HIN.out.C2 HIN.out.l2 (by omega) hb2)
  have HOWN := Aside0.mk (show client_own.f x.f0 x.f1 x.f2 x.f3 x.f4 x.f5 x.f6 x.f7 x.f8 = some (x.f0, x.f1, x.f2, x.f3, x.f4, x.f5, x.f6, x.f7, x.f8) by unfold client_own.f slices_Clone_byte_byte.f; rw [if_pos (by omega)]; rfl)
  go_wp2_with (first
      | (go_at_call 23; refine (HWI.out _).mono ?_; rintro e W2 ⟨g, rfl, hI, hB⟩; have HI := Aside0.mk hI; have HB2 := Aside0.mk hB; clear hI hB HWI; have BX2 := Aside0.mk (blk_below BX.out HB2.out))
      | (refine wpList_load_row rfl 27 (.tmp 5) rfl (w.heap.size + 1) (by rfl) 27 (rK_ x A k) (0, 0) _ BX2.out Try.underlying27 rfl (by kernel_rfl) ?_)
      | (go_at_call 24; refine (client_own.calls x.f0 x.f1 x.f2 x.f3 x.f4 x.f5 x.f6 x.f7 A k x.f8 x.f0 x.f1 x.f2 x.f3 x.f4 x.f5 x.f6 x.f7 x.f8 _ (Kd.C_below H3.out HB2.out) hl3 HOWN.out).mono ?_; rintro e W3 ⟨v3, rfl, hR3, hB3⟩; obtain ⟨A5, k5, rfl, hl5, hF5⟩ := R_F0 hR3; have HF5 := Aside0.mk hF5; have HL5 := Aside0.mk hl5; have HB3 := Aside0.mk hB3; have BX3 := Aside0.mk (blk_below BX2.out hB3); clear hR3 hB3 hF5 hl5)
      | (refine wpList_store_row rfl 27 (.tmp 5) (.tmp 14) rfl (w.heap.size + 1) (rK_ x A5 k5) (by rfl) (by rfl) 27 (rK_ x A k) BX3.out (by kernel_rfl) (by rfl) (by kernel_rfl) ?_))
  trace "X"

  have HS2 := Aside0.mk HB2.out.size
  have HFR4 := Aside0.mk ((((Fr.of_below HB0.out (fun k => w.heap.size ≤ k)).then_ (Fr.of_below HB2.out _)).then_ (Fr.of_below HB3.out _)).setRow (w.heap.size + 1) (rK_ x A5 k5) (fun h => by omega))
  have HI4 := Aside0.mk ((HI.out.below HB3.out).fr (Fr.setRow (Fr.refl (fun k => k = w.heap.size + 1) W3) (w.heap.size + 1) (rK_ x A5 k5) (fun _ => rfl)) (fun k hk => by have := HS1.out; omega))
  have HF54 := Aside0.mk (Kd.F_step HF5.out (W1 := W3.setRow (w.heap.size + 1) (rK_ x A5 k5)) (fun k hk _ => setRow_other W3 (w.heap.size + 1) k _ (by have := HS1.out; have := HS2.out; omega)))
  have BX4 := Aside0.mk (blk_row BX3.out (rK_ x A5 k5))
  have BC4 := Aside0.mk (blk_row_far (blk_below (blk_below BC.out HB2.out) HB3.out) (rK_ x A5 k5) (g' := w.heap.size + 1) (by omega))
  have BZ4 := Aside0.mk (blk_row_far (blk_below (blk_below BZ.out HB2.out) HB3.out) (rK_ x A5 k5) (g' := w.heap.size + 1) (by omega))
  clear HI HB3 HF5 BX3 BX2 BX BC BZ HIN H3 HOWN
  generalize W3.setRow _ _ = W4 at HFR4 HI4 HF54 BX4 BC4 BZ4 ⊢
  have e0 := hN.1
  have e1 := hN.2
  have d0 : W4.cell? ⟨w.heap.size, 0, none⟩ = some (.int .i64 c.Id) := (cells_at BC4.out rfl).1
  have d1 : W4.cell? ⟨w.heap.size, 1, none⟩ = some (.int .u64 c.Inc) := (cells_at BC4.out rfl).1
  have d2 : W4.cell? ⟨w.heap.size, 2, none⟩ = some (.int .u64 c.N) := (cells_at BC4.out rfl).1
  refine start_ (n := 15) (S := fun w' => w'.cell? ⟨w.heap.size, 0, none⟩ = some (.int .i64 c.Id) ∧ w'.cell? ⟨w.heap.size, 1, none⟩ = some (.int .u64 c.Inc) ∧ w'.cell? ⟨w.heap.size, 2, none⟩ = some (.int .u64 c.N)) (ds := [14]) #[false, false, false, false, false, false, false, false, false, false, false, false, false, false, false] (by kernel_rfl) rfl rfl ⟨d0, d1, d2⟩ (fun hHeld => ?_)
  refine with_tabW str.tab3 str.bits3 (fun HT_ HW_ => ?_)
  have BX5 := Aside0.mk (blk_drew BX4.out)
  have BC5 := Aside0.mk (blk_drew BC4.out)
  have BZ5 := Aside0.mk (blk_drew BZ4.out)
  have HFR5 := Aside0.mk HFR4.out.drew
  have HF55 := Aside0.mk (Kd.F_drew HF54.out)
  have HI5 := Aside0.mk (HI4.out.fr ((Fr.refl (fun _ => False) W4).drew) (fun _ h => h.elim))
  clear BX4 BC4 BZ4 HFR4 HF54 HI4 d0 d1 d2
  generalize W4.drew = W5 at BX5 BC5 BZ5 HFR5 HF55 HI5 hHeld ⊢
  -- 0: Op.fieldAddr
  refine pure_ (i := 0) (N := some 15) (v := ?_) (a' := ?_) #[true, false, false, false, false, false, false, false, false, false, false, false, false, false, false] rfl rfl (any_of HT_.out (by kernel_rfl)) (fun _ _ _ h => h) (Or.inl ⟨by rfl, ?_⟩) ?_ ?_
  rotate_left; (intro w'; go_simp; with_reducible rfl); rotate_left; (simp only [Act.put, List.setIfInBounds_toArray, List.set_cons_zero, List.set_cons_succ, i64_w, i32_w]; rfl)
  -- 2: Op.fieldAddr
  refine pure_ (i := 2) (N := some 17) (v := ?_) (a' := ?_) #[true, false, true, false, false, false, false, false, false, false, false, false, false, false, false] rfl rfl (any_of HT_.out (by kernel_rfl)) (fun _ _ _ h => h) (Or.inl ⟨by rfl, ?_⟩) ?_ ?_
  rotate_left; (intro w'; go_simp; with_reducible rfl); rotate_left; (simp only [Act.put, List.setIfInBounds_toArray, List.set_cons_zero, List.set_cons_succ, i64_w, i32_w]; rfl)
  -- 4: Op.fieldAddr
  refine pure_ (i := 4) (N := some 19) (v := ?_) (a' := ?_) #[true, false, true, false, true, false, false, false, false, false, false, false, false, false, false] rfl rfl (any_of HT_.out (by kernel_rfl)) (fun _ _ _ h => h) (Or.inl ⟨by rfl, ?_⟩) ?_ ?_
  rotate_left; (intro w'; go_simp; with_reducible rfl); rotate_left; (simp only [Act.put, List.setIfInBounds_toArray, List.set_cons_zero, List.set_cons_succ, i64_w, i32_w]; rfl)
  -- 1: Op.load
  refine take_ (i := 1) (N := some 16) (v := ?_) (a' := ?_) #[true, true, true, false, true, false, false, false, false, false, false, false, false, false, false] rfl rfl (take_ofW HT_.out HW_.out (by kernel_rfl)) (fun _ _ _ h => h) (Or.inl ⟨by rfl, ?_⟩) hHeld ?_ ?_
  rotate_left; (rintro w' ⟨s0, s1, s2⟩; go_simp; with_reducible rfl); rotate_left; (simp only [Act.put, List.setIfInBounds_toArray, List.set_cons_zero, List.set_cons_succ, i64_w, i32_w]; rfl)
  -- 9: Op.fieldAddr
  refine pure_ (i := 9) (N := some 24) (v := ?_) (a' := ?_) #[true, true, true, false, true, false, false, false, false, true, false, false, false, false, false] rfl rfl (any_of HT_.out (by kernel_rfl)) (fun _ _ _ h => h) (Or.inl ⟨by rfl, ?_⟩) ?_ ?_
  rotate_left; (intro w'; go_simp; with_reducible rfl); rotate_left; (simp only [Act.put, List.setIfInBounds_toArray, List.set_cons_zero, List.set_cons_succ, i64_w, i32_w]; rfl)
  -- 3: Op.load
  refine take_ (i := 3) (N := some 18) (v := ?_) (a' := ?_) #[true, true, true, true, true, false, false, false, false, true, false, false, false, false, false] rfl rfl (take_ofW HT_.out HW_.out (by kernel_rfl)) (fun _ _ _ h => h) (Or.inl ⟨by rfl, ?_⟩) hHeld ?_ ?_
  rotate_left; (rintro w' ⟨s0, s1, s2⟩; go_simp; with_reducible rfl); rotate_left; (simp only [Act.put, List.setIfInBounds_toArray, List.set_cons_zero, List.set_cons_succ, i64_w, i32_w]; rfl)
  -- 5: Op.load
  refine take_ (i := 5) (N := some 20) (v := ?_) (a' := ?_) #[true, true, true, true, true, true, false, false, false, true, false, false, false, false, false] rfl rfl (take_ofW HT_.out HW_.out (by kernel_rfl)) (fun _ _ _ h => h) (Or.inl ⟨by rfl, ?_⟩) hHeld ?_ ?_
  rotate_left; (rintro w' ⟨s0, s1, s2⟩; go_simp; with_reducible rfl); rotate_left; (simp only [Act.put, List.setIfInBounds_toArray, List.set_cons_zero, List.set_cons_succ, i64_w, i32_w]; rfl)
  -- 6: Op.call
  refine pure_ (i := 6) (N := some 21) (v := ?_) (a' := ?_) #[true, true, true, true, true, true, true, false, false, true, false, false, false, false, false] rfl rfl (any_of HT_.out (by kernel_rfl)) (fun _ _ _ h => h) (Or.inl ⟨by rfl, ?_⟩) ?_ ?_
  rotate_left; (intro w'; go_simp; with_reducible rfl); rotate_left; (simp only [Act.put, List.setIfInBounds_toArray, List.set_cons_zero, List.set_cons_succ, i64_w, i32_w]; rfl)
  -- 7: Op.binOp
  refine pure_ (i := 7) (N := some 22) (v := ?_) (a' := ?_) #[true, true, true, true, true, true, true, true, false, true, false, false, false, false, false] rfl rfl (any_of HT_.out (by kernel_rfl)) (fun _ _ _ h => h) (Or.inl ⟨by rfl, ?_⟩) ?_ ?_
  rotate_left; (intro w'; go_simp; with_reducible rfl); rotate_left; (simp only [Act.put, List.setIfInBounds_toArray, List.set_cons_zero, List.set_cons_succ, i64_w, i32_w]; rfl)
  -- 8: Op.call
  refine pure_ (i := 8) (N := some 23) (v := ?_) (a' := ?_) #[true, true, true, true, true, true, true, true, true, true, false, false, false, false, false] rfl rfl (any_of HT_.out (by kernel_rfl)) (fun _ _ _ h => h) (Or.inl ⟨by rfl, ?_⟩) ?_ ?_
  rotate_left; (intro w'; go_simp; with_reducible rfl); rotate_left; (simp only [Act.put, List.setIfInBounds_toArray, List.set_cons_zero, List.set_cons_succ, i64_w, i32_w]; rfl)
  -- 10: Op.store
  refine one_ (i := 10) (N := none) #[true, true, true, true, true, true, true, true, true, true, true, false, false, false, false] rfl rfl (one_of HT_.out (by kernel_rfl)) (by decide) (fun K hK => ?_)
  have hfz := blk_frozen BX5.out 0
  have e0 : W5.cell? ⟨(w.heap.size + 1), 0, none⟩ = some (.int .i64 x.f0) := (cells_at BX5.out rfl).1
  refine skip_ (w1 := ?_) (by rfl) rfl ?_ ?_
  rotate_left
  · go_simp
    rfl
  clear hfz e0
  have bq := blk_set BX5.out 0 (.int .i64 c.Id)
  simp only [List.setIfInBounds_toArray, List.set_cons_zero, List.set_cons_succ] at bq
  have BX6 := Aside0.mk bq
  clear bq
  refine hK.out _ _ ⟨(World.cell?_setCell_far _ _ _ _ (by simp)).trans hHeld.1, (World.cell?_setCell_far _ _ _ _ (by simp)).trans hHeld.2.1, (World.cell?_setCell_far _ _ _ _ (by simp)).trans hHeld.2.2⟩ (fun hHeld => ?_)
  clear hK K
  -- 11: Op.fieldAddr
  refine pure_ (i := 11) (N := some 25) (v := ?_) (a' := ?_) #[true, true, true, true, true, true, true, true, true, true, true, true, false, false, false] rfl rfl (any_of HT_.out (by kernel_rfl)) (fun _ _ _ h => h) (Or.inl ⟨by rfl, ?_⟩) ?_ ?_
  rotate_left; (intro w'; go_simp; with_reducible rfl); rotate_left; (simp only [Act.put, List.setIfInBounds_toArray, List.set_cons_zero, List.set_cons_succ, i64_w, i32_w]; rfl)
  -- 12: Op.store
  refine one_ (i := 12) (N := none) #[true, true, true, true, true, true, true, true, true, true, true, true, true, false, false] rfl rfl (one_of HT_.out (by kernel_rfl)) (by decide) (fun K hK => ?_)
  have hfz := blk_frozen BX6.out 1
  have e0 : (W5.setCell ⟨w.heap.size + 1, 0, none⟩ (.int .i64 c.Id)).cell? ⟨(w.heap.size + 1), 1, none⟩ = some (.int .u64 x.f1) := (cells_at BX6.out rfl).1
  refine skip_ (w1 := ?_) (by rfl) rfl ?_ ?_
  rotate_left
  · go_simp
    rfl
  clear hfz e0
  have bq := blk_set BX6.out 1 (.int .u64 c.Inc)
  simp only [List.setIfInBounds_toArray, List.set_cons_zero, List.set_cons_succ] at bq
  have BX7 := Aside0.mk bq
  clear bq
  refine hK.out _ _ ⟨(World.cell?_setCell_far _ _ _ _ (by simp)).trans hHeld.1, (World.cell?_setCell_far _ _ _ _ (by simp)).trans hHeld.2.1, (World.cell?_setCell_far _ _ _ _ (by simp)).trans hHeld.2.2⟩ (fun hHeld => ?_)
  clear hK K
  -- 13: Op.fieldAddr
  refine pure_ (i := 13) (N := some 26) (v := ?_) (a' := ?_) #[true, true, true, true, true, true, true, true, true, true, true, true, true, true, false] rfl rfl (any_of HT_.out (by kernel_rfl)) (fun _ _ _ h => h) (Or.inl ⟨by rfl, ?_⟩) ?_ ?_
  rotate_left; (intro w'; go_simp; with_reducible rfl); rotate_left; (simp only [Act.put, List.setIfInBounds_toArray, List.set_cons_zero, List.set_cons_succ, i64_w, i32_w]; rfl)
  -- 14: Op.store
  refine last_ (i := 14) (N := none) #[true, true, true, true, true, true, true, true, true, true, true, true, true, true, true] rfl rfl (one_of HT_.out (by kernel_rfl)) (by decide) (fun K hK => ?_)
  have hfz := blk_frozen BX7.out 2
  have e0 : ((W5.setCell ⟨w.heap.size + 1, 0, none⟩ (.int .i64 c.Id)).setCell ⟨w.heap.size + 1, 1, none⟩ (.int .u64 c.Inc)).cell? ⟨(w.heap.size + 1), 2, none⟩ = some (.int .u64 x.f2) := (cells_at BX7.out rfl).1
  refine skip_ (w1 := ?_) (by rfl) rfl ?_ ?_
  rotate_left
  · go_simp
    rfl
  clear hfz e0
  have bq := blk_set BX7.out 2 (.int .u64 (if IntKind.u64.wrap ((if 4611686018427387902 < c.N then 4611686018427387902 else c.N) + 1) < 1 then 1 else IntKind.u64.wrap ((if 4611686018427387902 < c.N then 4611686018427387902 else c.N) + 1)))
  simp only [List.setIfInBounds_toArray, List.set_cons_zero, List.set_cons_succ] at bq
  have BX8 := Aside0.mk bq
  clear bq
  refine hK.out _ _ ?_
  clear hK K
  refine done_ (done_of HT_.out (by kernel_rfl)) ?_
  clear HT_ HW_ hHeld e0 e1
  have HFR8 := Aside0.mk (((HFR5.out.setCell (p := ⟨w.heap.size + 1, 0, none⟩) (fun h => by simp only at h; omega) (.int .i64 c.Id)).setCell (p := ⟨w.heap.size + 1, 1, none⟩) (fun h => by simp only at h; omega) (.int .u64 c.Inc)).setCell (p := ⟨w.heap.size + 1, 2, none⟩) (fun h => by simp only at h; omega) (.int .u64 (if IntKind.u64.wrap ((if 4611686018427387902 < c.N then 4611686018427387902 else c.N) + 1) < 1 then 1 else IntKind.u64.wrap ((if 4611686018427387902 < c.N then 4611686018427387902 else c.N) + 1))))
  have HR8 := Aside0.mk ((((Fr.refl (fun k => k = w.heap.size + 1) W5).setCell (p := ⟨w.heap.size + 1, 0, none⟩) (fun _ => rfl) (.int .i64 c.Id)).setCell (p := ⟨w.heap.size + 1, 1, none⟩) (fun _ => rfl) (.int .u64 c.Inc)).setCell (p := ⟨w.heap.size + 1, 2, none⟩) (fun _ => rfl) (.int .u64 (if IntKind.u64.wrap ((if 4611686018427387902 < c.N then 4611686018427387902 else c.N) + 1) < 1 then 1 else IntKind.u64.wrap ((if 4611686018427387902 < c.N then 4611686018427387902 else c.N) + 1))))
  clear BX5 BX6 BX7 HFR5
  generalize World.setCell _ _ _ = W6 at BX8 HFR8 HR8 ⊢
  have BX9 := Aside0.mk (show _ = some (Obj.cells (rK_ (begun c x) A5 k5) 27 (0, 0)) from BX8.out)
  have BC9 := Aside0.mk ((HR8.out.block _ (blk_lt BC5.out) (show ¬ (w.heap.size = w.heap.size + 1) by omega)).trans BC5.out)
  have BZ9 := Aside0.mk ((HR8.out.block _ (blk_lt BZ5.out) (show ¬ (w.heap.size + 1 + 1 = w.heap.size + 1) by omega)).trans BZ5.out)
  have HI9 := Aside0.mk (HI5.out.fr HR8.out (fun k hk => by have := HS1.out; omega))
  have HF59 := Aside0.mk (Kd.F_step HF55.out (W1 := W6) (fun k hk hlt => HR8.out.block k hlt (by have := HS1.out; have := HS2.out; omega)))
  have HMAY := Aside0.mk (client_May.calls 4 (begun c x).f0 (begun c x).f1 (begun c x).f2 (begun c x).f3 (begun c x).f4 (begun c x).f5 (begun c x).f6 (begun c x).f7 A5 k5 (begun c x).f8 (mayB (begun c x)) W6 (Kd.F_now HF59.out) HL5.out (may_f (begun c x)))
  clear BX8 BC5 BZ5 HI5 HF55 HR8
  generalize (if (4611686018427387902 : Int) < c.N then 4611686018427387902 else c.N) = m0
  generalize IntKind.u64.wrap (m0 + 1) = m1
  generalize (if m1 < 1 then 1 else m1) = m2
  rw [HM.out] at HMAY
  have hbu : (c.Busy == 1) = false := by simpa using HBU.out
  have hfu : decide (4611686018427387903 ≤ c.N) = true := by simpa using HFU.out
  go_wp2_with (first
      | (refine wpList_load_row rfl 27 (.tmp 5) rfl (w.heap.size + 1) (by rfl) 27 (rK_ (begun c x) A5 k5) (0, 0) _ BX9.out Try.underlying27 rfl (by kernel_rfl) ?_)
      | (go_at_call 14; refine HMAY.out.mono ?_; rintro e W7 ⟨rfl, hB7⟩; have BC := Aside0.mk (blk_below BC9.out hB7); have BX := Aside0.mk (blk_below BX9.out hB7); have BZ := Aside0.mk (blk_below BZ9.out hB7); have HI := Aside0.mk (HI9.out.below hB7); have HF := Aside0.mk (Kd.F_below HF59.out hB7); have HFR := Aside0.mk (HFR8.out.then_ (Fr.of_below hB7 _)); clear hB7 BC9 BX9 BZ9 HI9 HF59 HFR8 HMAY; have d2 : W7.cell? ⟨w.heap.size, 2, none⟩ = some (.int .u64 c.N) := (cells_at BC.out rfl).1; have d4 : W7.cell? ⟨w.heap.size, 4, none⟩ = some (.int .i64 c.Busy) := (cells_at BC.out rfl).1)
      | (refine wpList_store_row rfl 29 (.tmp 6) (.tmp 41) rfl (w.heap.size + 1 + 1) rZC_ (by rfl) (by rfl) 29 rZC_ BZ.out (by kernel_rfl) (by rfl) (by kernel_rfl) ?_))
  have HFR2 := Aside0.mk (HFR.out.setRow (w.heap.size + 1 + 1) rZC_ (fun h => by omega))
  have BZ2 := Aside0.mk (blk_row BZ.out rZC_)
  refine bodyPost_ret (results_list (rs := [.cell 6 29, .tmp 7, .tmp 8]) rfl (by simp) (.cell (w.heap.size + 1 + 1) 29 rZC_ (0, 0) _ rfl BZ2.out Try.underlying29 rfl (by kernel_rfl) (.tmp (.tmp .nil)))) rfl ?_
  rw [HV.out]
  exact ⟨none, 0, none, 0, none, 0, rfl, CliNew.zero _ _, SentNew.nil _ _, HFR2.out.below (Nat.le_refl _) (fun _ h => h)⟩
end Go.Proofs.Ytajnladoomkgaaa.Cli
