/- A call is begun. -/
import Derived.Test.YtajnladoomkgaaaHlp
namespace Go.Proofs.Ytajnladoomkgaaa.Cli
set_option linter.unusedVariables false
set_option linter.unusedSimpArgs false
open RowOf Go.RowKit Go.Proofs.YtajnladoomkgaaaW.PrintWords Go.Proofs.YtajnladoomkgaaaW.PrintLast Go.Proofs.YtajnladoomkgaaaW.PrintMore Go.Proofs.Ytajnladoomkgaaa.XC
attribute [local go_sem] max2_int min2_int max_two min_two
def stp.T3 : Bool × List (List Nat × List Nat) := (true, [([], []), ([0], [0]), ([], []), ([2], [2]), ([], []), ([4], [4]), ([5], [5]), ([6], [6]), ([7], [7]), ([0, 1], []), ([9, 1, 0, 1], [1, 9]), ([0, 1, 2, 3, 9, 10], []), ([11, 3, 10, 0, 1, 2, 3, 9, 10], [3, 11]), ([0, 1, 2, 3, 4, 5, 6, 7, 8, 9, 10, 11, 12], []), ([13, 8, 12, 0, 1, 2, 3, 4, 5, 6, 7, 8, 9, 10, 11, 12], [8, 13])])
def stp.B3 : List Nat := [0, 1, 0, 4, 0, 16, 48, 112, 240, 3, 515, 1551, 3599, 8191, 16383]
theorem stp.tab3 : rtab .any (opsOf Try.f8 3) = stp.T3 := by kernel_rfl
theorem stp.bits3 : waitsOk stp.T3.2 stp.B3 = true := by kernel_rfl
def stp.T10 : Bool × List (List Nat × List Nat) := (true, [([], []), ([], []), ([], []), ([], []), ([], []), ([], []), ([], []), ([6], [6]), ([7], [7]), ([0, 0], [0]), ([9, 0], [9]), ([10, 0], [10]), ([11, 0], [11]), ([1, 0, 1, 4, 9, 10, 11, 12], [1]), ([13, 0, 1, 4, 9, 10, 11, 12], [13]), ([14, 0, 1, 4, 9, 10, 11, 12], [14]), ([15, 4, 12, 0, 1, 4, 9, 10, 11, 12], [4, 15]), ([2, 0, 1, 2, 4, 5, 9, 10, 11, 12, 13, 14, 15, 16], [2]), ([17, 0, 1, 2, 4, 5, 9, 10, 11, 12, 13, 14, 15, 16], [17]), ([18, 0, 1, 2, 4, 5, 9, 10, 11, 12, 13, 14, 15, 16], [18]), ([19, 5, 16, 0, 1, 2, 4, 5, 9, 10, 11, 12, 13, 14, 15, 16], [5, 19]), ([3, 0, 1, 2, 3, 4, 5, 6, 7, 8, 9, 10, 11, 12, 13, 14, 15, 16, 17, 18, 19, 20], [3]), ([21, 0, 1, 2, 3, 4, 5, 6, 7, 8, 9, 10, 11, 12, 13, 14, 15, 16, 17, 18, 19, 20], [21]), ([22, 0, 1, 2, 3, 4, 5, 6, 7, 8, 9, 10, 11, 12, 13, 14, 15, 16, 17, 18, 19, 20], [22]), ([23, 8, 20, 0, 1, 2, 3, 4, 5, 6, 7, 8, 9, 10, 11, 12, 13, 14, 15, 16, 17, 18, 19, 20], [8, 23])])
def stp.B10 : List Nat := [0, 0, 0, 0, 0, 0, 0, 64, 192, 1, 513, 1537, 3585, 7699, 15891, 32275, 65043, 130615, 261687, 523831, 1048119, 2097151, 4194303, 8388607, 16777215]
theorem stp.tab10 : rtab .any (opsOf Try.f8 10) = stp.T10 := by kernel_rfl
theorem stp.bits10 : waitsOk stp.T10.2 stp.B10 = true := by kernel_rfl
def stp.T12 : Bool × List (List Nat × List Nat) := (true, [([], []), ([0], [0]), ([1], [1]), ([2], [2]), ([], []), ([4], [4]), ([5], [5]), ([6], [6]), ([3, 0, 1, 2, 3], [3]), ([7, 8, 0, 1, 2, 3, 4, 5, 6, 7, 8], [7]), ([9, 0, 1, 2, 3, 4, 5, 6, 7, 8, 9], [])])
def stp.B12 : List Nat := [0, 1, 3, 7, 0, 16, 48, 112, 15, 511, 1023]
theorem stp.tab12 : rtab .any (opsOf Try.f8 12) = stp.T12 := by kernel_rfl
theorem stp.bits12 : waitsOk stp.T12.2 stp.B12 = true := by kernel_rfl
set_option maxHeartbeats 8000000 in
set_option maxRecDepth 100000 in
theorem start_ok (c : CliS) (A1 : Option Addr) (k1 : Nat) (A2 : Option Addr) (k2 : Nat) (now : Int) (x : S27) (A : Option Addr) (k : Nat) (w : World) (hc : CliIn w c A1 k1 A2 k2) (h3 : Kd.C (Kd.int .u8) w A x.f8.length x.f8) (hl3 : x.f8.length ≤ k) (hb1 : c.Br.length < 1000000) (hb2 : c.Call.f8.length ≤ 140737488351232) (hb3 : x.f8.length ≤ 140737488351232) (hN : 0 ≤ c.N ∧ c.N < 18446744073709551616) (hm : mayB (begun c x) = true) (hb : c.Busy ≠ 1) (hf : c.N < 4611686018427387903) :
    Calls Try.prog 8 #[.agg (rL_ c A1 k1 A2 k2), .int .u64 now, .agg (rK_ x A k)] w (StartPost w (startC c now x)) := by
  have HV := Aside0.mk (show startC c now x = ((askC { c with Busy := 1, Call := begun c x, Born := now, N := c.N + 1 } now).1, (askC { c with Busy := 1, Call := begun c x, Born := now, N := c.N + 1 } now).2, 0) by unfold startC; rw [if_pos hm, if_neg hb, if_neg (by omega)])
  have HM := Aside0.mk hm
  have HBU := Aside0.mk hb
  have HFU := Aside0.mk hf
  clear hm hb hf
  have HW0 := Aside0.mk (show ((w.alloc (.cells (rL_ c A1 k1 A2 k2) 29)).alloc (.cells (rK_ x A k) 27)).heap.size = w.heap.size + 1 + 1 by simp)
  have HB0 := Aside0.mk (below_alloc (below_alloc (below_alloc (Below.refl w.heap.size w) (.cells (rL_ c A1 k1 A2 k2) 29)) (.cells (rK_ x A k) 27)) (.cells rZC_ 29))
  have BC := Aside0.mk (blk_alloc (blk_alloc (heap_alloc_new w (.cells (rL_ c A1 k1 A2 k2) 29)) (.cells (rK_ x A k) 27)) (.cells rZC_ 29))
  have BX := Aside0.mk (show _ = some (Obj.cells (rK_ x A k) 27 (0, 0)) from (show (w.alloc (.cells (rL_ c A1 k1 A2 k2) 29)).heap.size = w.heap.size + 1 by simp) ▸ blk_alloc (heap_alloc_new (w.alloc (.cells (rL_ c A1 k1 A2 k2) 29)) (.cells (rK_ x A k) 27)) (.cells rZC_ 29))
  have BZ := Aside0.mk (HW0.out ▸ heap_alloc_new ((w.alloc (.cells (rL_ c A1 k1 A2 k2) 29)).alloc (.cells (rK_ x A k) 27)) (.cells rZC_ 29))
  have HS1 := Aside0.mk (show (((w.alloc (.cells (rL_ c A1 k1 A2 k2) 29)).alloc (.cells (rK_ x A k) 27)).alloc (.cells rZC_ 29)).heap.size = w.heap.size + 3 by simp)
  have HIN := Aside0.mk (hc.below HB0.out)
  have H3 := Aside0.mk (Kd.C_below h3 HB0.out)
  clear hc h3 HW0
  go_enter Try.func8, Try.ntmps8
  go_wp2_with (refine wpList_load_row rfl 29 (.tmp 3) rfl w.heap.size (by rfl) 29 (rL_ c A1 k1 A2 k2) (0, 0) _ BC.out Try.underlying29 rfl (by kernel_rfl) ?_)
  generalize World.alloc _ _ = W1 at HB0 BC BX BZ HS1 HIN H3 ⊢
  have HWI := Aside0.mk (fun n => with_r c A1 k1 A2 k2 n W1 HIN.out.C1 HIN.out.l1 HIN.out.C2 HIN.out.l2 (by omega) hb2)
  have HOWN := Aside0.mk (show client_own.f x.f0 x.f1 x.f2 x.f3 x.f4 x.f5 x.f6 x.f7 x.f8 = some (x.f0, x.f1, x.f2, x.f3, x.f4, x.f5, x.f6, x.f7, x.f8) by unfold client_own.f slices_Clone_byte_byte.f; rw [if_pos (by omega)]; rfl)
  go_wp2_with (first
      | (go_at_call 23; refine (HWI.out _).mono ?_; rintro e W2 ⟨g, rfl, hI, hB⟩; have HI := Aside0.mk hI; have HB2 := Aside0.mk hB; clear hI hB HWI; have BX2 := Aside0.mk (blk_below BX.out HB2.out))
      | (refine wpList_load_row rfl 27 (.tmp 5) rfl (w.heap.size + 1) (by rfl) 27 (rK_ x A k) (0, 0) _ BX2.out Try.underlying27 rfl (by kernel_rfl) ?_)
      | (go_at_call 24; refine (client_own.calls x.f0 x.f1 x.f2 x.f3 x.f4 x.f5 x.f6 x.f7 A k x.f8 x.f0 x.f1 x.f2 x.f3 x.f4 x.f5 x.f6 x.f7 x.f8 _ (Kd.C_below H3.out HB2.out) hl3 HOWN.out).mono ?_; rintro e W3 ⟨v3, rfl, hR3, hB3⟩; obtain ⟨A5, k5, rfl, hl5, hF5⟩ := R_F0 hR3; have HF5 := Aside0.mk hF5; have HL5 := Aside0.mk hl5; have HB3 := Aside0.mk hB3; have BX3 := Aside0.mk (blk_below BX2.out hB3); clear hR3 hB3 hF5 hl5)
      | (refine wpList_store_row rfl 27 (.tmp 5) (.tmp 14) rfl (w.heap.size + 1) (rK_ x A5 k5) (by rfl) (by rfl) 27 (rK_ x A k) BX3.out (by kernel_rfl) (by rfl) (by kernel_rfl) ?_))
  trace "X"

  have HS2 := Aside0.mk HB2.out.size
  have HGL0 := Aside0.mk HI.out.lt
  have HFR4 := Aside0.mk ((((Fr.of_below HB0.out (fun k => w.heap.size ≤ k)).then_ (Fr.of_below HB2.out _)).then_ (Fr.of_below HB3.out _)).setRow (w.heap.size + 1) (rK_ x A5 k5) (fun h => by omega))
  have HI4 := Aside0.mk ((HI.out.below HB3.out).fr (Fr.setRow (Fr.refl (fun k => k = w.heap.size + 1) W3) (w.heap.size + 1) (rK_ x A5 k5) (fun _ => rfl)) (fun k hk => by have := HS1.out; omega))
  have HF54 := Aside0.mk (Kd.F_step HF5.out (W1 := W3.setRow (w.heap.size + 1) (rK_ x A5 k5)) (fun k hk _ => setRow_other W3 (w.heap.size + 1) k _ (by have := HS1.out; have := HS2.out; omega)))
  have BX4 := Aside0.mk (blk_row BX3.out (rK_ x A5 k5))
  have BC4 := Aside0.mk (blk_row_far (blk_below (blk_below BC.out HB2.out) HB3.out) (rK_ x A5 k5) (g' := w.heap.size + 1) (by omega))
  have BZ4 := Aside0.mk (blk_row_far (blk_below (blk_below BZ.out HB2.out) HB3.out) (rK_ x A5 k5) (g' := w.heap.size + 1) (by omega))
  clear HI HB3 HF5 BX3 BX2 BX BC BZ HIN H3 HOWN
  generalize W3.setRow _ _ = W4 at HFR4 HI4 HF54 BX4 BC4 BZ4 ⊢
  have e0 := hN.1
  have e1 := hN.2
  have d0 : W4.cell? ⟨w.heap.size, 0, none⟩ = some (.int .i64 c.Id) := (cells_at BC4.out rfl).1
  have d1 : W4.cell? ⟨w.heap.size, 1, none⟩ = some (.int .u64 c.Inc) := (cells_at BC4.out rfl).1
  have d2 : W4.cell? ⟨w.heap.size, 2, none⟩ = some (.int .u64 c.N) := (cells_at BC4.out rfl).1
  refine start_ (n := 15) (S := fun w' => w'.cell? ⟨w.heap.size, 0, none⟩ = some (.int .i64 c.Id) ∧ w'.cell? ⟨w.heap.size, 1, none⟩ = some (.int .u64 c.Inc) ∧ w'.cell? ⟨w.heap.size, 2, none⟩ = some (.int .u64 c.N)) (ds := [14]) #[false, false, false, false, false, false, false, false, false, false, false, false, false, false, false] (by kernel_rfl) rfl rfl ⟨d0, d1, d2⟩ (fun hHeld => ?_)
  refine with_tabW stp.tab3 stp.bits3 (fun HT_ HW_ => ?_)
  have BX5 := Aside0.mk (blk_drew BX4.out)
  have BC5 := Aside0.mk (blk_drew BC4.out)
  have BZ5 := Aside0.mk (blk_drew BZ4.out)
  have HFR5 := Aside0.mk HFR4.out.drew
  have HF55 := Aside0.mk (Kd.F_drew HF54.out)
  have HI5 := Aside0.mk (HI4.out.fr ((Fr.refl (fun _ => False) W4).drew) (fun _ h => h.elim))
  clear BX4 BC4 BZ4 HFR4 HF54 HI4 d0 d1 d2
  generalize W4.drew = W5 at BX5 BC5 BZ5 HFR5 HF55 HI5 hHeld ⊢
  -- 0: Op.fieldAddr
  refine pure_ (i := 0) (N := some 15) (v := ?_) (a' := ?_) #[true, false, false, false, false, false, false, false, false, false, false, false, false, false, false] rfl rfl (any_of HT_.out (by kernel_rfl)) (fun _ _ _ h => h) (Or.inl ⟨by rfl, ?_⟩) ?_ ?_
  rotate_left; (intro w'; go_simp; with_reducible rfl); rotate_left; (simp only [Act.put, List.setIfInBounds_toArray, List.set_cons_zero, List.set_cons_succ, i64_w, i32_w]; rfl)
  -- 2: Op.fieldAddr
  refine pure_ (i := 2) (N := some 17) (v := ?_) (a' := ?_) #[true, false, true, false, false, false, false, false, false, false, false, false, false, false, false] rfl rfl (any_of HT_.out (by kernel_rfl)) (fun _ _ _ h => h) (Or.inl ⟨by rfl, ?_⟩) ?_ ?_
  rotate_left; (intro w'; go_simp; with_reducible rfl); rotate_left; (simp only [Act.put, List.setIfInBounds_toArray, List.set_cons_zero, List.set_cons_succ, i64_w, i32_w]; rfl)
  -- 4: Op.fieldAddr
  refine pure_ (i := 4) (N := some 19) (v := ?_) (a' := ?_) #[true, false, true, false, true, false, false, false, false, false, false, false, false, false, false] rfl rfl (any_of HT_.out (by kernel_rfl)) (fun _ _ _ h => h) (Or.inl ⟨by rfl, ?_⟩) ?_ ?_
  rotate_left; (intro w'; go_simp; with_reducible rfl); rotate_left; (simp only [Act.put, List.setIfInBounds_toArray, List.set_cons_zero, List.set_cons_succ, i64_w, i32_w]; rfl)
  -- 1: Op.load
  refine take_ (i := 1) (N := some 16) (v := ?_) (a' := ?_) #[true, true, true, false, true, false, false, false, false, false, false, false, false, false, false] rfl rfl (take_ofW HT_.out HW_.out (by kernel_rfl)) (fun _ _ _ h => h) (Or.inl ⟨by rfl, ?_⟩) hHeld ?_ ?_
  rotate_left; (rintro w' ⟨s0, s1, s2⟩; go_simp; with_reducible rfl); rotate_left; (simp only [Act.put, List.setIfInBounds_toArray, List.set_cons_zero, List.set_cons_succ, i64_w, i32_w]; rfl)
  -- 9: Op.fieldAddr
  refine pure_ (i := 9) (N := some 24) (v := ?_) (a' := ?_) #[true, true, true, false, true, false, false, false, false, true, false, false, false, false, false] rfl rfl (any_of HT_.out (by kernel_rfl)) (fun _ _ _ h => h) (Or.inl ⟨by rfl, ?_⟩) ?_ ?_
  rotate_left; (intro w'; go_simp; with_reducible rfl); rotate_left; (simp only [Act.put, List.setIfInBounds_toArray, List.set_cons_zero, List.set_cons_succ, i64_w, i32_w]; rfl)
  -- 3: Op.load
  refine take_ (i := 3) (N := some 18) (v := ?_) (a' := ?_) #[true, true, true, true, true, false, false, false, false, true, false, false, false, false, false] rfl rfl (take_ofW HT_.out HW_.out (by kernel_rfl)) (fun _ _ _ h => h) (Or.inl ⟨by rfl, ?_⟩) hHeld ?_ ?_
  rotate_left; (rintro w' ⟨s0, s1, s2⟩; go_simp; with_reducible rfl); rotate_left; (simp only [Act.put, List.setIfInBounds_toArray, List.set_cons_zero, List.set_cons_succ, i64_w, i32_w]; rfl)
  -- 5: Op.load
  refine take_ (i := 5) (N := some 20) (v := ?_) (a' := ?_) #[true, true, true, true, true, true, false, false, false, true, false, false, false, false, false] rfl rfl (take_ofW HT_.out HW_.out (by kernel_rfl)) (fun _ _ _ h => h) (Or.inl ⟨by rfl, ?_⟩) hHeld ?_ ?_
  rotate_left; (rintro w' ⟨s0, s1, s2⟩; go_simp; with_reducible rfl); rotate_left; (simp only [Act.put, List.setIfInBounds_toArray, List.set_cons_zero, List.set_cons_succ, i64_w, i32_w]; rfl)
  -- 6: Op.call
  refine pure_ (i := 6) (N := some 21) (v := ?_) (a' := ?_) #[true, true, true, true, true, true, true, false, false, true, false, false, false, false, false] rfl rfl (any_of HT_.out (by kernel_rfl)) (fun _ _ _ h => h) (Or.inl ⟨by rfl, ?_⟩) ?_ ?_
  rotate_left; (intro w'; go_simp; with_reducible rfl); rotate_left; (simp only [Act.put, List.setIfInBounds_toArray, List.set_cons_zero, List.set_cons_succ, i64_w, i32_w]; rfl)
  -- 7: Op.binOp
  refine pure_ (i := 7) (N := some 22) (v := ?_) (a' := ?_) #[true, true, true, true, true, true, true, true, false, true, false, false, false, false, false] rfl rfl (any_of HT_.out (by kernel_rfl)) (fun _ _ _ h => h) (Or.inl ⟨by rfl, ?_⟩) ?_ ?_
  rotate_left; (intro w'; go_simp; with_reducible rfl); rotate_left; (simp only [Act.put, List.setIfInBounds_toArray, List.set_cons_zero, List.set_cons_succ, i64_w, i32_w]; rfl)
  -- 8: Op.call
  refine pure_ (i := 8) (N := some 23) (v := ?_) (a' := ?_) #[true, true, true, true, true, true, true, true, true, true, false, false, false, false, false] rfl rfl (any_of HT_.out (by kernel_rfl)) (fun _ _ _ h => h) (Or.inl ⟨by rfl, ?_⟩) ?_ ?_
  rotate_left; (intro w'; go_simp; with_reducible rfl); rotate_left; (simp only [Act.put, List.setIfInBounds_toArray, List.set_cons_zero, List.set_cons_succ, i64_w, i32_w]; rfl)
  -- 10: Op.store
  refine one_ (i := 10) (N := none) #[true, true, true, true, true, true, true, true, true, true, true, false, false, false, false] rfl rfl (one_of HT_.out (by kernel_rfl)) (by decide) (fun K hK => ?_)
  have hfz := blk_frozen BX5.out 0
  have e0 : W5.cell? ⟨(w.heap.size + 1), 0, none⟩ = some (.int .i64 x.f0) := (cells_at BX5.out rfl).1
  refine skip_ (w1 := ?_) (by rfl) rfl ?_ ?_
  rotate_left
  · go_simp
    rfl
  clear hfz e0
  have bq := blk_set BX5.out 0 (.int .i64 c.Id)
  simp only [List.setIfInBounds_toArray, List.set_cons_zero, List.set_cons_succ] at bq
  have BX6 := Aside0.mk bq
  clear bq
  refine hK.out _ _ ⟨(World.cell?_setCell_far _ _ _ _ (by simp)).trans hHeld.1, (World.cell?_setCell_far _ _ _ _ (by simp)).trans hHeld.2.1, (World.cell?_setCell_far _ _ _ _ (by simp)).trans hHeld.2.2⟩ (fun hHeld => ?_)
  clear hK K
  -- 11: Op.fieldAddr
  refine pure_ (i := 11) (N := some 25) (v := ?_) (a' := ?_) #[true, true, true, true, true, true, true, true, true, true, true, true, false, false, false] rfl rfl (any_of HT_.out (by kernel_rfl)) (fun _ _ _ h => h) (Or.inl ⟨by rfl, ?_⟩) ?_ ?_
  rotate_left; (intro w'; go_simp; with_reducible rfl); rotate_left; (simp only [Act.put, List.setIfInBounds_toArray, List.set_cons_zero, List.set_cons_succ, i64_w, i32_w]; rfl)
  -- 12: Op.store
  refine one_ (i := 12) (N := none) #[true, true, true, true, true, true, true, true, true, true, true, true, true, false, false] rfl rfl (one_of HT_.out (by kernel_rfl)) (by decide) (fun K hK => ?_)
  have hfz := blk_frozen BX6.out 1
  have e0 : (W5.setCell ⟨w.heap.size + 1, 0, none⟩ (.int .i64 c.Id)).cell? ⟨(w.heap.size + 1), 1, none⟩ = some (.int .u64 x.f1) := (cells_at BX6.out rfl).1
  refine skip_ (w1 := ?_) (by rfl) rfl ?_ ?_
  rotate_left
  · go_simp
    rfl
  clear hfz e0
  have bq := blk_set BX6.out 1 (.int .u64 c.Inc)
  simp only [List.setIfInBounds_toArray, List.set_cons_zero, List.set_cons_succ] at bq
  have BX7 := Aside0.mk bq
  clear bq
  refine hK.out _ _ ⟨(World.cell?_setCell_far _ _ _ _ (by simp)).trans hHeld.1, (World.cell?_setCell_far _ _ _ _ (by simp)).trans hHeld.2.1, (World.cell?_setCell_far _ _ _ _ (by simp)).trans hHeld.2.2⟩ (fun hHeld => ?_)
  clear hK K
  -- 13: Op.fieldAddr
  refine pure_ (i := 13) (N := some 26) (v := ?_) (a' := ?_) #[true, true, true, true, true, true, true, true, true, true, true, true, true, true, false] rfl rfl (any_of HT_.out (by kernel_rfl)) (fun _ _ _ h => h) (Or.inl ⟨by rfl, ?_⟩) ?_ ?_
  rotate_left; (intro w'; go_simp; with_reducible rfl); rotate_left; (simp only [Act.put, List.setIfInBounds_toArray, List.set_cons_zero, List.set_cons_succ, i64_w, i32_w]; rfl)
  -- 14: Op.store
  refine last_ (i := 14) (N := none) #[true, true, true, true, true, true, true, true, true, true, true, true, true, true, true] rfl rfl (one_of HT_.out (by kernel_rfl)) (by decide) (fun K hK => ?_)
  have hfz := blk_frozen BX7.out 2
  have e0 : ((W5.setCell ⟨w.heap.size + 1, 0, none⟩ (.int .i64 c.Id)).setCell ⟨w.heap.size + 1, 1, none⟩ (.int .u64 c.Inc)).cell? ⟨(w.heap.size + 1), 2, none⟩ = some (.int .u64 x.f2) := (cells_at BX7.out rfl).1
  refine skip_ (w1 := ?_) (by rfl) rfl ?_ ?_
  rotate_left
  · go_simp
    rfl
  clear hfz e0
  have bq := blk_set BX7.out 2 (.int .u64 (if IntKind.u64.wrap ((if 4611686018427387902 < c.N then 4611686018427387902 else c.N) + 1) < 1 then 1 else IntKind.u64.wrap ((if 4611686018427387902 < c.N then 4611686018427387902 else c.N) + 1)))
  simp only [List.setIfInBounds_toArray, List.set_cons_zero, List.set_cons_succ] at bq
  have BX8 := Aside0.mk bq
  clear bq
  refine hK.out _ _ ?_
  clear hK K
  refine done_ (done_of HT_.out (by kernel_rfl)) ?_
  clear HT_ HW_ hHeld e0 e1
  have HFR8 := Aside0.mk (((HFR5.out.setCell (p := ⟨w.heap.size + 1, 0, none⟩) (fun h => by simp only at h; omega) (.int .i64 c.Id)).setCell (p := ⟨w.heap.size + 1, 1, none⟩) (fun h => by simp only at h; omega) (.int .u64 c.Inc)).setCell (p := ⟨w.heap.size + 1, 2, none⟩) (fun h => by simp only at h; omega) (.int .u64 (if IntKind.u64.wrap ((if 4611686018427387902 < c.N then 4611686018427387902 else c.N) + 1) < 1 then 1 else IntKind.u64.wrap ((if 4611686018427387902 < c.N then 4611686018427387902 else c.N) + 1))))
  have HR8 := Aside0.mk ((((Fr.refl (fun k => k = w.heap.size + 1) W5).setCell (p := ⟨w.heap.size + 1, 0, none⟩) (fun _ => rfl) (.int .i64 c.Id)).setCell (p := ⟨w.heap.size + 1, 1, none⟩) (fun _ => rfl) (.int .u64 c.Inc)).setCell (p := ⟨w.heap.size + 1, 2, none⟩) (fun _ => rfl) (.int .u64 (if IntKind.u64.wrap ((if 4611686018427387902 < c.N then 4611686018427387902 else c.N) + 1) < 1 then 1 else IntKind.u64.wrap ((if 4611686018427387902 < c.N then 4611686018427387902 else c.N) + 1))))
  clear BX5 BX6 BX7 HFR5
  generalize World.setCell _ _ _ = W6 at BX8 HFR8 HR8 ⊢
  have BX9 := Aside0.mk (show _ = some (Obj.cells (rK_ (begun c x) A5 k5) 27 (0, 0)) from BX8.out)
  have BC9 := Aside0.mk ((HR8.out.block _ (blk_lt BC5.out) (show ¬ (w.heap.size = w.heap.size + 1) by omega)).trans BC5.out)
  have BZ9 := Aside0.mk ((HR8.out.block _ (blk_lt BZ5.out) (show ¬ (w.heap.size + 1 + 1 = w.heap.size + 1) by omega)).trans BZ5.out)
  have HI9 := Aside0.mk (HI5.out.fr HR8.out (fun k hk => by have := HS1.out; omega))
  have HF59 := Aside0.mk (Kd.F_step HF55.out (W1 := W6) (fun k hk hlt => HR8.out.block k hlt (by have := HS1.out; have := HS2.out; omega)))
  have HMAY := Aside0.mk (client_May.calls 4 (begun c x).f0 (begun c x).f1 (begun c x).f2 (begun c x).f3 (begun c x).f4 (begun c x).f5 (begun c x).f6 (begun c x).f7 A5 k5 (begun c x).f8 (mayB (begun c x)) W6 (Kd.F_now HF59.out) HL5.out (may_f (begun c x)))
  clear BX8 BC5 BZ5 HI5 HF55 HR8
  generalize (if (4611686018427387902 : Int) < c.N then 4611686018427387902 else c.N) = m0
  generalize IntKind.u64.wrap (m0 + 1) = m1
  generalize (if m1 < 1 then 1 else m1) = m2
  rw [HM.out] at HMAY
  have hbu : (c.Busy == 1) = false := by simpa using HBU.out
  have hfu : decide (4611686018427387903 ≤ c.N) = false := by have := HFU.out; simp; omega
  go_wp2_with (first
      | (refine wpList_load_row rfl 27 (.tmp 5) rfl (w.heap.size + 1) (by rfl) 27 (rK_ (begun c x) A5 k5) (0, 0) _ BX9.out Try.underlying27 rfl (by kernel_rfl) ?_)
      | (go_at_call 14; refine HMAY.out.mono ?_; rintro e W7 ⟨rfl, hB7⟩; have BC := Aside0.mk (blk_below BC9.out hB7); have BX := Aside0.mk (blk_below BX9.out hB7); have BZ := Aside0.mk (blk_below BZ9.out hB7); have HI := Aside0.mk (HI9.out.below hB7); have HF := Aside0.mk (Kd.F_below HF59.out hB7); have HFR := Aside0.mk (HFR8.out.then_ (Fr.of_below hB7 _)); clear hB7 BC9 BX9 BZ9 HI9 HF59 HFR8 HMAY; have d2 : W7.cell? ⟨w.heap.size, 2, none⟩ = some (.int .u64 c.N) := (cells_at BC.out rfl).1; have d4 : W7.cell? ⟨w.heap.size, 4, none⟩ = some (.int .i64 c.Busy) := (cells_at BC.out rfl).1))
  have HGL := HGL0
  clear d2 d4 hbu hfu
  have d0 : W7.cell? ⟨(w.heap.size + 1), 0, none⟩ = some (.int .i64 (begun c x).f0) := (cells_at BX.out rfl).1
  have d1 : W7.cell? ⟨(w.heap.size + 1), 1, none⟩ = some (.int .u64 (begun c x).f1) := (cells_at BX.out rfl).1
  have d2 : W7.cell? ⟨(w.heap.size + 1), 2, none⟩ = some (.int .u64 (begun c x).f2) := (cells_at BX.out rfl).1
  have d3 : W7.cell? ⟨(w.heap.size + 1), 3, none⟩ = some (.int .i64 (begun c x).f3) := (cells_at BX.out rfl).1
  have d4 : W7.cell? ⟨(w.heap.size + 1), 4, none⟩ = some (.int .i64 (begun c x).f4) := (cells_at BX.out rfl).1
  have d5 : W7.cell? ⟨(w.heap.size + 1), 5, none⟩ = some (.int .i64 (begun c x).f5) := (cells_at BX.out rfl).1
  have d6 : W7.cell? ⟨(w.heap.size + 1), 6, none⟩ = some (.int .u64 (begun c x).f6) := (cells_at BX.out rfl).1
  have d7 : W7.cell? ⟨(w.heap.size + 1), 7, none⟩ = some (.int .u64 (begun c x).f7) := (cells_at BX.out rfl).1
  have d8 : W7.cell? ⟨(w.heap.size + 1), 8, none⟩ = some (.slice A5 (begun c x).f8.length k5) := (cells_at BX.out rfl).1
  have d99 : W7.cell? ⟨w.heap.size, 2, none⟩ = some (.int .u64 c.N) := (cells_at BC.out rfl).1
  have e1 : IntKind.u64.wrap (c.N + 1) = c.N + 1 := u64_in _ (by omega) (by have := HFU.out; omega)
  refine start_ (n := 25) (S := fun w' => w'.cell? ⟨(w.heap.size + 1), 0, none⟩ = some (.int .i64 (begun c x).f0) ∧ w'.cell? ⟨(w.heap.size + 1), 1, none⟩ = some (.int .u64 (begun c x).f1) ∧ w'.cell? ⟨(w.heap.size + 1), 2, none⟩ = some (.int .u64 (begun c x).f2) ∧ w'.cell? ⟨(w.heap.size + 1), 3, none⟩ = some (.int .i64 (begun c x).f3) ∧ w'.cell? ⟨(w.heap.size + 1), 4, none⟩ = some (.int .i64 (begun c x).f4) ∧ w'.cell? ⟨(w.heap.size + 1), 5, none⟩ = some (.int .i64 (begun c x).f5) ∧ w'.cell? ⟨(w.heap.size + 1), 6, none⟩ = some (.int .u64 (begun c x).f6) ∧ w'.cell? ⟨(w.heap.size + 1), 7, none⟩ = some (.int .u64 (begun c x).f7) ∧ w'.cell? ⟨(w.heap.size + 1), 8, none⟩ = some (.slice A5 (begun c x).f8.length k5) ∧ w'.cell? ⟨w.heap.size, 2, none⟩ = some (.int .u64 c.N)) (ds := [24]) #[false, false, false, false, false, false, false, false, false, false, false, false, false, false, false, false, false, false, false, false, false, false, false, false, false] (by kernel_rfl) rfl rfl ⟨d0, d1, d2, d3, d4, d5, d6, d7, d8, d99⟩ (fun hHeld => ?_)
  refine with_tabW stp.tab10 stp.bits10 (fun HT_ HW_ => ?_)
  have BC := Aside0.mk (blk_drew BC.out)
  have BX := Aside0.mk (blk_drew BX.out)
  have BZ := Aside0.mk (blk_drew BZ.out)
  have HFR := Aside0.mk HFR.out.drew
  have HF := Aside0.mk (Kd.F_drew HF.out)
  have HI := Aside0.mk (HI.out.fr ((Fr.refl (fun _ => False) W7).drew) (fun _ h => h.elim))
  clear d0 d1 d2 d3 d4 d5 d6 d7 d8 d99
  generalize W7.drew = W8_0 at BC BX BZ HFR HF HI hHeld ⊢
  obtain ⟨A6, k6, A7, k7, A8, k8, hb8, l6, f6, l7, f7, l8, f8, hg8, hn8⟩ := HI.out
  obtain ⟨rfl, rfl⟩ := hn8 rfl
  have BG0 := Aside0.mk (show _ = some (Obj.cells (rW_ c A6 k6 A7 k7 now (.slice none 0 0)) 66 (0, 0)) from hb8)
  have HF6 := Aside0.mk f6
  have HL6 := Aside0.mk l6
  have HG8 := Aside0.mk hg8
  clear hb8 l6 f6 l7 f7 l8 f8 hg8 hn8
  have HKEEP := Aside0.mk (fun (Wa Wb : World) (h : Wa.cell? ⟨(w.heap.size + 1), 0, none⟩ = some (.int .i64 (begun c x).f0) ∧ Wa.cell? ⟨(w.heap.size + 1), 1, none⟩ = some (.int .u64 (begun c x).f1) ∧ Wa.cell? ⟨(w.heap.size + 1), 2, none⟩ = some (.int .u64 (begun c x).f2) ∧ Wa.cell? ⟨(w.heap.size + 1), 3, none⟩ = some (.int .i64 (begun c x).f3) ∧ Wa.cell? ⟨(w.heap.size + 1), 4, none⟩ = some (.int .i64 (begun c x).f4) ∧ Wa.cell? ⟨(w.heap.size + 1), 5, none⟩ = some (.int .i64 (begun c x).f5) ∧ Wa.cell? ⟨(w.heap.size + 1), 6, none⟩ = some (.int .u64 (begun c x).f6) ∧ Wa.cell? ⟨(w.heap.size + 1), 7, none⟩ = some (.int .u64 (begun c x).f7) ∧ Wa.cell? ⟨(w.heap.size + 1), 8, none⟩ = some (.slice A5 (begun c x).f8.length k5) ∧ Wa.cell? ⟨w.heap.size, 2, none⟩ = some (.int .u64 c.N)) (hf : Fr (fun k => k = g) Wa Wb) => (show Wb.cell? ⟨(w.heap.size + 1), 0, none⟩ = some (.int .i64 (begun c x).f0) ∧ Wb.cell? ⟨(w.heap.size + 1), 1, none⟩ = some (.int .u64 (begun c x).f1) ∧ Wb.cell? ⟨(w.heap.size + 1), 2, none⟩ = some (.int .u64 (begun c x).f2) ∧ Wb.cell? ⟨(w.heap.size + 1), 3, none⟩ = some (.int .i64 (begun c x).f3) ∧ Wb.cell? ⟨(w.heap.size + 1), 4, none⟩ = some (.int .i64 (begun c x).f4) ∧ Wb.cell? ⟨(w.heap.size + 1), 5, none⟩ = some (.int .i64 (begun c x).f5) ∧ Wb.cell? ⟨(w.heap.size + 1), 6, none⟩ = some (.int .u64 (begun c x).f6) ∧ Wb.cell? ⟨(w.heap.size + 1), 7, none⟩ = some (.int .u64 (begun c x).f7) ∧ Wb.cell? ⟨(w.heap.size + 1), 8, none⟩ = some (.slice A5 (begun c x).f8.length k5) ∧ Wb.cell? ⟨w.heap.size, 2, none⟩ = some (.int .u64 c.N) from by
    have hne1 : ¬ (w.heap.size + 1 = g) := by have := HG8.out; have := HS1.out; omega
    have hne0 : ¬ (w.heap.size = g) := by have := HG8.out; have := HS1.out; omega
    obtain ⟨q0, q1, q2, q3, q4, q5, q6, q7, q8, q9⟩ := h
    exact ⟨hf.cell q0 hne1, hf.cell q1 hne1, hf.cell q2 hne1, hf.cell q3 hne1, hf.cell q4 hne1, hf.cell q5 hne1, hf.cell q6 hne1, hf.cell q7 hne1, hf.cell q8 hne1, hf.cell q9 hne0⟩))
  -- 0: Op.move
  refine pure_ (i := 0) (N := some 42) (v := ?_) (a' := ?_) #[true, false, false, false, false, false, false, false, false, false, false, false, false, false, false, false, false, false, false, false, false, false, false, false, false] rfl rfl (any_of HT_.out (by kernel_rfl)) (fun _ _ _ h => h) (Or.inl ⟨by rfl, ?_⟩) ?_ ?_
  rotate_left; (intro w'; go_simp; with_reducible rfl); rotate_left; (simp only [Act.put, List.setIfInBounds_toArray, List.set_cons_zero, List.set_cons_succ, i64_w, i32_w]; rfl)
  -- 1: Op.move
  refine pure_ (i := 1) (N := some 43) (v := ?_) (a' := ?_) #[true, true, false, false, false, false, false, false, false, false, false, false, false, false, false, false, false, false, false, false, false, false, false, false, false] rfl rfl (any_of HT_.out (by kernel_rfl)) (fun _ _ _ h => h) (Or.inl ⟨by rfl, ?_⟩) ?_ ?_
  rotate_left; (intro w'; go_simp; with_reducible rfl); rotate_left; (simp only [Act.put, List.setIfInBounds_toArray, List.set_cons_zero, List.set_cons_succ, i64_w, i32_w]; rfl)
  -- 2: Op.move
  refine pure_ (i := 2) (N := some 44) (v := ?_) (a' := ?_) #[true, true, true, false, false, false, false, false, false, false, false, false, false, false, false, false, false, false, false, false, false, false, false, false, false] rfl rfl (any_of HT_.out (by kernel_rfl)) (fun _ _ _ h => h) (Or.inl ⟨by rfl, ?_⟩) ?_ ?_
  rotate_left; (intro w'; go_simp; with_reducible rfl); rotate_left; (simp only [Act.put, List.setIfInBounds_toArray, List.set_cons_zero, List.set_cons_succ, i64_w, i32_w]; rfl)
  -- 3: Op.move
  refine pure_ (i := 3) (N := some 45) (v := ?_) (a' := ?_) #[true, true, true, true, false, false, false, false, false, false, false, false, false, false, false, false, false, false, false, false, false, false, false, false, false] rfl rfl (any_of HT_.out (by kernel_rfl)) (fun _ _ _ h => h) (Or.inl ⟨by rfl, ?_⟩) ?_ ?_
  rotate_left; (intro w'; go_simp; with_reducible rfl); rotate_left; (simp only [Act.put, List.setIfInBounds_toArray, List.set_cons_zero, List.set_cons_succ, i64_w, i32_w]; rfl)
  -- 5: Op.move
  refine pure_ (i := 5) (N := some 47) (v := ?_) (a' := ?_) #[true, true, true, true, false, true, false, false, false, false, false, false, false, false, false, false, false, false, false, false, false, false, false, false, false] rfl rfl (any_of HT_.out (by kernel_rfl)) (fun _ _ _ h => h) (Or.inl ⟨by rfl, ?_⟩) ?_ ?_
  rotate_left; (intro w'; go_simp; with_reducible rfl); rotate_left; (simp only [Act.put, List.setIfInBounds_toArray, List.set_cons_zero, List.set_cons_succ, i64_w, i32_w]; rfl)
  -- 6: Op.fieldAddr
  refine pure_ (i := 6) (N := some 48) (v := ?_) (a' := ?_) #[true, true, true, true, false, true, true, false, false, false, false, false, false, false, false, false, false, false, false, false, false, false, false, false, false] rfl rfl (any_of HT_.out (by kernel_rfl)) (fun _ _ _ h => h) (Or.inl ⟨by rfl, ?_⟩) ?_ ?_
  rotate_left; (intro w'; go_simp; with_reducible rfl); rotate_left; (simp only [Act.put, List.setIfInBounds_toArray, List.set_cons_zero, List.set_cons_succ, i64_w, i32_w]; rfl)
  -- 9: Op.nilCheck
  refine pure_ (i := 9) (N := some 51) (v := ?_) (a' := ?_) #[true, true, true, true, false, true, true, false, false, true, false, false, false, false, false, false, false, false, false, false, false, false, false, false, false] rfl rfl (any_of HT_.out (by kernel_rfl)) (fun _ _ _ h => h) (Or.inl ⟨by rfl, ?_⟩) ?_ ?_
  rotate_left; (intro w'; go_simp; with_reducible rfl); rotate_left; (simp only [Act.put, List.setIfInBounds_toArray, List.set_cons_zero, List.set_cons_succ, i64_w, i32_w]; rfl)
  -- 10: Op.fieldAddr
  refine pure_ (i := 10) (N := some 52) (v := ?_) (a' := ?_) #[true, true, true, true, false, true, true, false, false, true, true, false, false, false, false, false, false, false, false, false, false, false, false, false, false] rfl rfl (any_of HT_.out (by kernel_rfl)) (fun _ _ _ h => h) (Or.inl ⟨by rfl, ?_⟩) ?_ ?_
  rotate_left; (intro w'; go_simp; with_reducible rfl); rotate_left; (simp only [Act.put, List.setIfInBounds_toArray, List.set_cons_zero, List.set_cons_succ, i64_w, i32_w]; rfl)
  -- 11: Op.fieldAddr
  refine pure_ (i := 11) (N := some 53) (v := ?_) (a' := ?_) #[true, true, true, true, false, true, true, false, false, true, true, true, false, false, false, false, false, false, false, false, false, false, false, false, false] rfl rfl (any_of HT_.out (by kernel_rfl)) (fun _ _ _ h => h) (Or.inl ⟨by rfl, ?_⟩) ?_ ?_
  rotate_left; (intro w'; go_simp; with_reducible rfl); rotate_left; (simp only [Act.put, List.setIfInBounds_toArray, List.set_cons_zero, List.set_cons_succ, i64_w, i32_w]; rfl)
  -- 4: Op.load
  refine take_ (i := 4) (N := some 46) (v := ?_) (a' := ?_) #[true, true, true, true, true, true, true, false, false, true, true, true, false, false, false, false, false, false, false, false, false, false, false, false, false] rfl rfl (take_ofW HT_.out HW_.out (by kernel_rfl)) (fun _ _ _ h => h) (Or.inl ⟨by rfl, ?_⟩) hHeld ?_ ?_
  rotate_left; (rintro w' ⟨s0, s1, s2, s3, s4, s5, s6, s7, s8, s9⟩; go_simp; with_reducible rfl); rotate_left; (simp only [Act.put, List.setIfInBounds_toArray, List.set_cons_zero, List.set_cons_succ, i64_w, i32_w]; rfl)
  -- 7: Op.load
  refine take_ (i := 7) (N := some 49) (v := ?_) (a' := ?_) #[true, true, true, true, true, true, true, true, false, true, true, true, false, false, false, false, false, false, false, false, false, false, false, false, false] rfl rfl (take_ofW HT_.out HW_.out (by kernel_rfl)) (fun _ _ _ h => h) (Or.inl ⟨by rfl, ?_⟩) hHeld ?_ ?_
  rotate_left; (rintro w' ⟨s0, s1, s2, s3, s4, s5, s6, s7, s8, s9⟩; go_simp; with_reducible rfl); rotate_left; (simp only [Act.put, List.setIfInBounds_toArray, List.set_cons_zero, List.set_cons_succ, i64_w, i32_w]; rfl)
  -- 8: Op.binOp
  refine pure_ (i := 8) (N := some 50) (v := ?_) (a' := ?_) #[true, true, true, true, true, true, true, true, true, true, true, true, false, false, false, false, false, false, false, false, false, false, false, false, false] rfl rfl (any_of HT_.out (by kernel_rfl)) (fun _ _ _ h => h) (Or.inl ⟨by rfl, ?_⟩) ?_ ?_
  rotate_left; (intro w'; go_simp; with_reducible rfl); rotate_left; (simp only [Act.put, List.setIfInBounds_toArray, List.set_cons_zero, List.set_cons_succ, i64_w, i32_w]; rfl)
  -- 12: Op.store
  refine one_ (i := 12) (N := none) #[true, true, true, true, true, true, true, true, true, true, true, true, true, false, false, false, false, false, false, false, false, false, false, false, false] rfl rfl (one_of HT_.out (by kernel_rfl)) (by decide) (fun K hK => ?_)
  have e4 : W8_0.cell? ⟨g, 4, none⟩ = some (.int .i64 c.Busy) := (cells_at BG0.out rfl).1
  have hfz := fun o => blk_frozen BG0.out o
  refine skip_ (w1 := ?_) (by rfl) rfl ?_ ?_
  rotate_left
  · go_simp
    rfl
  clear hfz e4
  have bq := blk_set (BG0.out) 4 (.int .i64 1)
  simp only [List.setIfInBounds_toArray, List.set_cons_zero, List.set_cons_succ] at bq
  have BG1 := Aside0.mk bq
  have HK1 := Aside0.mk ((Fr.refl (fun k => k = g) W8_0).setCell (p := ⟨g, 4, none⟩) (fun _ => rfl) (.int .i64 1))
  clear bq BG0
  generalize World.setCell _ _ _ = W8_1 at BG1 HK1 ⊢
  refine hK.out _ _ (HKEEP.out _ _ hHeld HK1.out) (fun hHeld => ?_)
  clear hK K
  -- 13: Op.nilCheck
  refine pure_ (i := 13) (N := some 54) (v := ?_) (a' := ?_) #[true, true, true, true, true, true, true, true, true, true, true, true, true, true, false, false, false, false, false, false, false, false, false, false, false] rfl rfl (any_of HT_.out (by kernel_rfl)) (fun _ _ _ h => h) (Or.inl ⟨by rfl, ?_⟩) ?_ ?_
  rotate_left; (intro w'; go_simp; with_reducible rfl); rotate_left; (simp only [Act.put, List.setIfInBounds_toArray, List.set_cons_zero, List.set_cons_succ, i64_w, i32_w]; rfl)
  -- 14: Op.fieldAddr
  refine pure_ (i := 14) (N := some 55) (v := ?_) (a' := ?_) #[true, true, true, true, true, true, true, true, true, true, true, true, true, true, true, false, false, false, false, false, false, false, false, false, false] rfl rfl (any_of HT_.out (by kernel_rfl)) (fun _ _ _ h => h) (Or.inl ⟨by rfl, ?_⟩) ?_ ?_
  rotate_left; (intro w'; go_simp; with_reducible rfl); rotate_left; (simp only [Act.put, List.setIfInBounds_toArray, List.set_cons_zero, List.set_cons_succ, i64_w, i32_w]; rfl)
  -- 15: Op.fieldAddr
  refine pure_ (i := 15) (N := some 56) (v := ?_) (a' := ?_) #[true, true, true, true, true, true, true, true, true, true, true, true, true, true, true, true, false, false, false, false, false, false, false, false, false] rfl rfl (any_of HT_.out (by kernel_rfl)) (fun _ _ _ h => h) (Or.inl ⟨by rfl, ?_⟩) ?_ ?_
  rotate_left; (intro w'; go_simp; with_reducible rfl); rotate_left; (simp only [Act.put, List.setIfInBounds_toArray, List.set_cons_zero, List.set_cons_succ, i64_w, i32_w]; rfl)
  -- 16: Op.store
  refine one_ (i := 16) (N := none) #[true, true, true, true, true, true, true, true, true, true, true, true, true, true, true, true, true, false, false, false, false, false, false, false, false] rfl rfl (one_of HT_.out (by kernel_rfl)) (by decide) (fun K hK => ?_)
  have e5 : W8_1.cell? ⟨g, 5, none⟩ = some (.int .i64 c.Call.f0) := (cells_at BG1.out rfl).1
  have e6 : W8_1.cell? ⟨g, 6, none⟩ = some (.int .u64 c.Call.f1) := (cells_at BG1.out rfl).1
  have e7 : W8_1.cell? ⟨g, 7, none⟩ = some (.int .u64 c.Call.f2) := (cells_at BG1.out rfl).1
  have e8 : W8_1.cell? ⟨g, 8, none⟩ = some (.int .i64 c.Call.f3) := (cells_at BG1.out rfl).1
  have e9 : W8_1.cell? ⟨g, 9, none⟩ = some (.int .i64 c.Call.f4) := (cells_at BG1.out rfl).1
  have e10 : W8_1.cell? ⟨g, 10, none⟩ = some (.int .i64 c.Call.f5) := (cells_at BG1.out rfl).1
  have e11 : W8_1.cell? ⟨g, 11, none⟩ = some (.int .u64 c.Call.f6) := (cells_at BG1.out rfl).1
  have e12 : W8_1.cell? ⟨g, 12, none⟩ = some (.int .u64 c.Call.f7) := (cells_at BG1.out rfl).1
  have e13 : W8_1.cell? ⟨g, 13, none⟩ = some (.slice A7 c.Call.f8.length k7) := (cells_at BG1.out rfl).1
  have hfz := fun o => blk_frozen BG1.out o
  refine skip_ (w1 := ?_) (by rfl) rfl ?_ ?_
  rotate_left
  · go_simp
    rfl
  clear hfz e5 e6 e7 e8 e9 e10 e11 e12 e13
  have bq := blk_set (blk_set (blk_set (blk_set (blk_set (blk_set (blk_set (blk_set (blk_set (BG1.out) 5 (.int .i64 (begun c x).f0)) 6 (.int .u64 (begun c x).f1)) 7 (.int .u64 (begun c x).f2)) 8 (.int .i64 (begun c x).f3)) 9 (.int .i64 (begun c x).f4)) 10 (.int .i64 (begun c x).f5)) 11 (.int .u64 (begun c x).f6)) 12 (.int .u64 (begun c x).f7)) 13 (.slice A5 (begun c x).f8.length k5)
  simp only [List.setIfInBounds_toArray, List.set_cons_zero, List.set_cons_succ] at bq
  have BG2 := Aside0.mk bq
  have HK2 := Aside0.mk ((((((((((Fr.refl (fun k => k = g) W8_1).setCell (p := ⟨g, 5, none⟩) (fun _ => rfl) (.int .i64 (begun c x).f0)).setCell (p := ⟨g, 6, none⟩) (fun _ => rfl) (.int .u64 (begun c x).f1)).setCell (p := ⟨g, 7, none⟩) (fun _ => rfl) (.int .u64 (begun c x).f2)).setCell (p := ⟨g, 8, none⟩) (fun _ => rfl) (.int .i64 (begun c x).f3)).setCell (p := ⟨g, 9, none⟩) (fun _ => rfl) (.int .i64 (begun c x).f4)).setCell (p := ⟨g, 10, none⟩) (fun _ => rfl) (.int .i64 (begun c x).f5)).setCell (p := ⟨g, 11, none⟩) (fun _ => rfl) (.int .u64 (begun c x).f6)).setCell (p := ⟨g, 12, none⟩) (fun _ => rfl) (.int .u64 (begun c x).f7)).setCell (p := ⟨g, 13, none⟩) (fun _ => rfl) (.slice A5 (begun c x).f8.length k5))
  clear bq BG1
  generalize World.setCell _ _ _ = W8_2 at BG2 HK2 ⊢
  refine hK.out _ _ (HKEEP.out _ _ hHeld HK2.out) (fun hHeld => ?_)
  clear hK K
  -- 17: Op.nilCheck
  refine pure_ (i := 17) (N := some 57) (v := ?_) (a' := ?_) #[true, true, true, true, true, true, true, true, true, true, true, true, true, true, true, true, true, true, false, false, false, false, false, false, false] rfl rfl (any_of HT_.out (by kernel_rfl)) (fun _ _ _ h => h) (Or.inl ⟨by rfl, ?_⟩) ?_ ?_
  rotate_left; (intro w'; go_simp; with_reducible rfl); rotate_left; (simp only [Act.put, List.setIfInBounds_toArray, List.set_cons_zero, List.set_cons_succ, i64_w, i32_w]; rfl)
  -- 18: Op.fieldAddr
  refine pure_ (i := 18) (N := some 58) (v := ?_) (a' := ?_) #[true, true, true, true, true, true, true, true, true, true, true, true, true, true, true, true, true, true, true, false, false, false, false, false, false] rfl rfl (any_of HT_.out (by kernel_rfl)) (fun _ _ _ h => h) (Or.inl ⟨by rfl, ?_⟩) ?_ ?_
  rotate_left; (intro w'; go_simp; with_reducible rfl); rotate_left; (simp only [Act.put, List.setIfInBounds_toArray, List.set_cons_zero, List.set_cons_succ, i64_w, i32_w]; rfl)
  -- 19: Op.fieldAddr
  refine pure_ (i := 19) (N := some 59) (v := ?_) (a' := ?_) #[true, true, true, true, true, true, true, true, true, true, true, true, true, true, true, true, true, true, true, true, false, false, false, false, false] rfl rfl (any_of HT_.out (by kernel_rfl)) (fun _ _ _ h => h) (Or.inl ⟨by rfl, ?_⟩) ?_ ?_
  rotate_left; (intro w'; go_simp; with_reducible rfl); rotate_left; (simp only [Act.put, List.setIfInBounds_toArray, List.set_cons_zero, List.set_cons_succ, i64_w, i32_w]; rfl)
  -- 20: Op.store
  refine one_ (i := 20) (N := none) #[true, true, true, true, true, true, true, true, true, true, true, true, true, true, true, true, true, true, true, true, true, false, false, false, false] rfl rfl (one_of HT_.out (by kernel_rfl)) (by decide) (fun K hK => ?_)
  have e15 : W8_2.cell? ⟨g, 15, none⟩ = some (.int .u64 c.Born) := (cells_at BG2.out rfl).1
  have hfz := fun o => blk_frozen BG2.out o
  refine skip_ (w1 := ?_) (by rfl) rfl ?_ ?_
  rotate_left
  · go_simp
    rfl
  clear hfz e15
  have bq := blk_set (BG2.out) 15 (.int .u64 now)
  simp only [List.setIfInBounds_toArray, List.set_cons_zero, List.set_cons_succ] at bq
  have BG3 := Aside0.mk bq
  have HK3 := Aside0.mk ((Fr.refl (fun k => k = g) W8_2).setCell (p := ⟨g, 15, none⟩) (fun _ => rfl) (.int .u64 now))
  clear bq BG2
  generalize World.setCell _ _ _ = W8_3 at BG3 HK3 ⊢
  refine hK.out _ _ (HKEEP.out _ _ hHeld HK3.out) (fun hHeld => ?_)
  clear hK K
  -- 21: Op.nilCheck
  refine pure_ (i := 21) (N := some 60) (v := ?_) (a' := ?_) #[true, true, true, true, true, true, true, true, true, true, true, true, true, true, true, true, true, true, true, true, true, true, false, false, false] rfl rfl (any_of HT_.out (by kernel_rfl)) (fun _ _ _ h => h) (Or.inl ⟨by rfl, ?_⟩) ?_ ?_
  rotate_left; (intro w'; go_simp; with_reducible rfl); rotate_left; (simp only [Act.put, List.setIfInBounds_toArray, List.set_cons_zero, List.set_cons_succ, i64_w, i32_w]; rfl)
  -- 22: Op.fieldAddr
  refine pure_ (i := 22) (N := some 61) (v := ?_) (a' := ?_) #[true, true, true, true, true, true, true, true, true, true, true, true, true, true, true, true, true, true, true, true, true, true, true, false, false] rfl rfl (any_of HT_.out (by kernel_rfl)) (fun _ _ _ h => h) (Or.inl ⟨by rfl, ?_⟩) ?_ ?_
  rotate_left; (intro w'; go_simp; with_reducible rfl); rotate_left; (simp only [Act.put, List.setIfInBounds_toArray, List.set_cons_zero, List.set_cons_succ, i64_w, i32_w]; rfl)
  -- 23: Op.fieldAddr
  refine pure_ (i := 23) (N := some 62) (v := ?_) (a' := ?_) #[true, true, true, true, true, true, true, true, true, true, true, true, true, true, true, true, true, true, true, true, true, true, true, true, false] rfl rfl (any_of HT_.out (by kernel_rfl)) (fun _ _ _ h => h) (Or.inl ⟨by rfl, ?_⟩) ?_ ?_
  rotate_left; (intro w'; go_simp; with_reducible rfl); rotate_left; (simp only [Act.put, List.setIfInBounds_toArray, List.set_cons_zero, List.set_cons_succ, i64_w, i32_w]; rfl)
  -- 24: Op.store
  refine last_ (i := 24) (N := none) #[true, true, true, true, true, true, true, true, true, true, true, true, true, true, true, true, true, true, true, true, true, true, true, true, true] rfl rfl (one_of HT_.out (by kernel_rfl)) (by decide) (fun K hK => ?_)
  have e2 : W8_3.cell? ⟨g, 2, none⟩ = some (.int .u64 c.N) := (cells_at BG3.out rfl).1
  have hfz := fun o => blk_frozen BG3.out o
  refine skip_ (w1 := ?_) (by rfl) rfl ?_ ?_
  rotate_left
  · go_simp
    rfl
  clear hfz e2
  have bq := blk_set (BG3.out) 2 (.int .u64 (c.N + 1))
  simp only [List.setIfInBounds_toArray, List.set_cons_zero, List.set_cons_succ] at bq
  have BG4 := Aside0.mk bq
  have HK4 := Aside0.mk ((Fr.refl (fun k => k = g) W8_3).setCell (p := ⟨g, 2, none⟩) (fun _ => rfl) (.int .u64 (c.N + 1)))
  clear bq BG3
  refine hK.out _ _ ?_
  clear hK K
  refine done_ (done_of HT_.out (by kernel_rfl)) ?_
  clear HT_ HW_ hHeld e1 HKEEP
  generalize World.setCell _ _ _ = W9 at BG4 HK4 ⊢
  have HK9 := Aside0.mk (((HK1.out.then_ HK2.out).then_ HK3.out).then_ HK4.out)
  have HI9 : Aside0 (IsWk W9 W1.heap.size g { c with Busy := 1, Call := begun c x, Born := now, N := c.N + 1 } now []) := Aside0.mk ⟨A6, k6, A5, k5, none, 0, BG4.out, HL6.out, Kd.F_step HF6.out (fun k hk hlt => HK9.out.block k hlt hk.2), HL5.out,
    Kd.F_mono (Kd.F_step HF.out (W1 := W9) (fun k hk hlt => HK9.out.block k hlt (by have := HGL.out; omega))) (fun k hk => ⟨Nat.le_trans HS2.out hk, by have := HGL.out; omega⟩), Nat.le_refl _, Kd.F_nil _ _ _, HG8.out, fun _ => ⟨rfl, rfl⟩⟩
  have HFR9 := Aside0.mk (HFR.out.then_ (HK9.out.mono (fun k hk => by have := HG8.out; have := HS1.out; omega) (S2 := fun k => w.heap.size ≤ k)))
  have BZ9 := Aside0.mk ((HK9.out.block _ (blk_lt BZ.out) (show ¬ (w.heap.size + 1 + 1 = g) by have := HG8.out; have := HS1.out; omega)).trans BZ.out)
  clear BG4 HK1 HK2 HK3 HK4 HK9 HF HF6 HI BC BX BZ HFR
  have HASK := Aside0.mk (ask_c { c with Busy := 1, Call := begun c x, Born := now, N := c.N + 1 } W1.heap.size g now W9 HI9.out hb1 (by simpa [begun] using hb3))
  have HBIG := Aside0.mk hb1
  clear HI9
  generalize askC { c with Busy := 1, Call := begun c x, Born := now, N := c.N + 1 } now = r at HASK HV
  obtain ⟨c', s'⟩ := r
  go_wp2_with (go_at_call 25; refine HASK.out.mono ?_; rintro e WA ⟨rfl, hI, hK⟩; have HI := Aside0.mk hI; have HFR := Aside0.mk (HFR9.out.then_ (hK.mono (fun k hk => by have := HG8.out; have := HS1.out; omega) (S2 := fun k => w.heap.size ≤ k))); have BZ := Aside0.mk ((hK.block _ (blk_lt BZ9.out) (show ¬ (w.heap.size + 1 + 1 = g) by have := HG8.out; have := HS1.out; omega)).trans BZ9.out); clear hI hK HFR9 BZ9 HASK)
  obtain ⟨B1, j1, B2, j2, B3, j3, hb, m1, f1, m2, f2, m3, f3, hg⟩ := HI.out.blk
  have BG := Aside0.mk hb
  have FI := Aside0.mk (And.intro m1 (And.intro f1 (And.intro m2 (And.intro f2 (And.intro m3 f3)))))
  clear hb m1 f1 m2 f2 m3 f3 hg HI
  have dg : WA.heap[g]? = some (.cells #[.int .i64 c'.Id, .int .u64 c'.Inc, .int .u64 c'.N, .slice B1 c'.Br.length j1, .int .i64 c'.Busy, .int .i64 c'.Call.f0, .int .u64 c'.Call.f1, .int .u64 c'.Call.f2, .int .i64 c'.Call.f3, .int .i64 c'.Call.f4, .int .i64 c'.Call.f5, .int .u64 c'.Call.f6, .int .u64 c'.Call.f7, .slice B2 c'.Call.f8.length j2, .int .i64 c'.At, .int .u64 c'.Born, .int .u64 c'.Since, .int .u64 now, .slice B3 s'.length j3] 66 (0, 0)) := BG.out
  have d18 : WA.cell? ⟨g, 18, none⟩ = some (.slice B3 s'.length j3) := (cells_at BG.out rfl).1
  refine start_ (n := 11) (S := fun w' => w'.heap[g]? = some (.cells #[.int .i64 c'.Id, .int .u64 c'.Inc, .int .u64 c'.N, .slice B1 c'.Br.length j1, .int .i64 c'.Busy, .int .i64 c'.Call.f0, .int .u64 c'.Call.f1, .int .u64 c'.Call.f2, .int .i64 c'.Call.f3, .int .i64 c'.Call.f4, .int .i64 c'.Call.f5, .int .u64 c'.Call.f6, .int .u64 c'.Call.f7, .slice B2 c'.Call.f8.length j2, .int .i64 c'.At, .int .u64 c'.Born, .int .u64 c'.Since, .int .u64 now, .slice B3 s'.length j3] 66 (0, 0)) ∧ w'.cell? ⟨g, 18, none⟩ = some (.slice B3 s'.length j3)) (ds := []) #[false, false, false, false, false, false, false, false, false, false, false] (by kernel_rfl) rfl rfl ⟨dg, d18⟩ (fun hHeld => ?_)
  refine with_tabW stp.tab12 stp.bits12 (fun HT_ HW_ => ?_)
  have BZ := Aside0.mk (blk_drew BZ.out)
  have BG := Aside0.mk (blk_drew BG.out)
  have HFR := Aside0.mk HFR.out.drew
  have FI := Aside0.mk (And.intro FI.out.1 (And.intro (Kd.F_drew FI.out.2.1) (And.intro FI.out.2.2.1 (And.intro (Kd.F_drew FI.out.2.2.2.1) (And.intro FI.out.2.2.2.2.1 (Kd.F_drew FI.out.2.2.2.2.2))))))
  clear dg d18
  generalize WA.drew = WB at BZ BG HFR FI hHeld ⊢
  -- 0: Op.move
  refine pure_ (i := 0) (N := some 65) (v := ?_) (a' := ?_) #[true, false, false, false, false, false, false, false, false, false, false] rfl rfl (any_of HT_.out (by kernel_rfl)) (fun _ _ _ h => h) (Or.inl ⟨by rfl, ?_⟩) ?_ ?_
  rotate_left; (intro w'; go_simp; with_reducible rfl); rotate_left; (simp only [Act.put, List.setIfInBounds_toArray, List.set_cons_zero, List.set_cons_succ, i64_w, i32_w]; rfl)
  -- 1: Op.nilCheck
  refine pure_ (i := 1) (N := some 66) (v := ?_) (a' := ?_) #[true, true, false, false, false, false, false, false, false, false, false] rfl rfl (any_of HT_.out (by kernel_rfl)) (fun _ _ _ h => h) (Or.inl ⟨by rfl, ?_⟩) ?_ ?_
  rotate_left; (intro w'; go_simp; with_reducible rfl); rotate_left; (simp only [Act.put, List.setIfInBounds_toArray, List.set_cons_zero, List.set_cons_succ, i64_w, i32_w]; rfl)
  -- 2: Op.fieldAddr
  refine pure_ (i := 2) (N := some 67) (v := ?_) (a' := ?_) #[true, true, true, false, false, false, false, false, false, false, false] rfl rfl (any_of HT_.out (by kernel_rfl)) (fun _ _ _ h => h) (Or.inl ⟨by rfl, ?_⟩) ?_ ?_
  rotate_left; (intro w'; go_simp; with_reducible rfl); rotate_left; (simp only [Act.put, List.setIfInBounds_toArray, List.set_cons_zero, List.set_cons_succ, i64_w, i32_w]; rfl)
  -- 4: Op.move
  refine pure_ (i := 4) (N := some 69) (v := ?_) (a' := ?_) #[true, true, true, false, true, false, false, false, false, false, false] rfl rfl (any_of HT_.out (by kernel_rfl)) (fun _ _ _ h => h) (Or.inl ⟨by rfl, ?_⟩) ?_ ?_
  rotate_left; (intro w'; go_simp; with_reducible rfl); rotate_left; (simp only [Act.put, List.setIfInBounds_toArray, List.set_cons_zero, List.set_cons_succ, i64_w, i32_w]; rfl)
  -- 5: Op.nilCheck
  refine pure_ (i := 5) (N := some 70) (v := ?_) (a' := ?_) #[true, true, true, false, true, true, false, false, false, false, false] rfl rfl (any_of HT_.out (by kernel_rfl)) (fun _ _ _ h => h) (Or.inl ⟨by rfl, ?_⟩) ?_ ?_
  rotate_left; (intro w'; go_simp; with_reducible rfl); rotate_left; (simp only [Act.put, List.setIfInBounds_toArray, List.set_cons_zero, List.set_cons_succ, i64_w, i32_w]; rfl)
  -- 6: Op.fieldAddr
  refine pure_ (i := 6) (N := some 71) (v := ?_) (a' := ?_) #[true, true, true, false, true, true, true, false, false, false, false] rfl rfl (any_of HT_.out (by kernel_rfl)) (fun _ _ _ h => h) (Or.inl ⟨by rfl, ?_⟩) ?_ ?_
  rotate_left; (intro w'; go_simp; with_reducible rfl); rotate_left; (simp only [Act.put, List.setIfInBounds_toArray, List.set_cons_zero, List.set_cons_succ, i64_w, i32_w]; rfl)
  -- 3: Op.load
  refine take_ (i := 3) (N := some 68) (a' := ?_) #[true, true, true, true, true, true, true, false, false, false, false] rfl rfl (take_ofW HT_.out HW_.out (by kernel_rfl)) (fun _ _ _ h => h) (yieldsIf_load_mid (by rfl) 29 (.tmp 67) rfl g 0 (by rfl) (rM_ c' B1 j1 B2 j2) _ (fun w' s => blk_range s.1 0 _ rfl) Try.underlying29 rfl (by kernel_rfl)) hHeld ?_ ?_
  rotate_left
  · simp only [Act.put, List.setIfInBounds_toArray, List.set_cons_zero, List.set_cons_succ, List.toArray, i64_w, i32_w]
    rfl
  -- 7: Op.load
  refine take_ (i := 7) (N := some 72) (v := ?_) (a' := ?_) #[true, true, true, true, true, true, true, true, false, false, false] rfl rfl (take_ofW HT_.out HW_.out (by kernel_rfl)) (fun _ _ _ h => h) (Or.inl ⟨by rfl, ?_⟩) hHeld ?_ ?_
  rotate_left; (rintro w' ⟨s0, s1⟩; go_simp; with_reducible rfl); rotate_left; (simp only [Act.put, List.setIfInBounds_toArray, List.set_cons_zero, List.set_cons_succ, i64_w, i32_w]; rfl)
  -- 8: Op.store
  refine one_ (i := 8) (N := none) #[true, true, true, true, true, true, true, true, true, false, false] rfl rfl (one_of HT_.out (by kernel_rfl)) (by decide) (fun K hK => ?_)
  refine row_ 29 (.tmp 6) (.tmp 68) (w.heap.size + 1 + 1) (rL_ c' B1 j1 B2 j2) 29 rZC_ (by rfl) rfl rfl (by rfl) (by rfl) BZ.out (by kernel_rfl) (by rfl) (by kernel_rfl) ?_
  refine hK.out _ _ ⟨(setRow_other _ _ _ _ (by have := HG8.out; have := HS1.out; omega)).trans BG.out, (cell_setRow_other _ _ _ _ (by show g ≠ _; have := HG8.out; have := HS1.out; omega)).trans hHeld.2⟩ (fun hHeld => ?_)
  clear hK K
  -- 9: Op.assign
  refine pure_ (i := 9) (N := some 7) (v := ?_) (a' := ?_) #[true, true, true, true, true, true, true, true, true, true, false] rfl rfl (any_of HT_.out (by kernel_rfl)) (fun _ _ _ h => h) (Or.inl ⟨by rfl, ?_⟩) ?_ ?_
  rotate_left; (intro w'; go_simp; with_reducible rfl); rotate_left; (simp only [Act.put, List.setIfInBounds_toArray, List.set_cons_zero, List.set_cons_succ, i64_w, i32_w]; rfl)
  -- 10: Op.assign
  refine pure_ (i := 10) (N := some 8) (v := ?_) (a' := ?_) #[true, true, true, true, true, true, true, true, true, true, true] rfl rfl (any_of HT_.out (by kernel_rfl)) (fun _ _ _ h => h) (Or.inl ⟨by rfl, ?_⟩) ?_ ?_
  rotate_left; (intro w'; go_simp; with_reducible rfl); rotate_left; (simp only [Act.put, List.setIfInBounds_toArray, List.set_cons_zero, List.set_cons_succ, i64_w, i32_w]; rfl)
  refine done_ (done_of HT_.out (by kernel_rfl)) ?_
  clear HT_ HW_ hHeld
  have BZN := Aside0.mk (blk_row BZ.out (rL_ c' B1 j1 B2 j2))
  have HFRN := Aside0.mk (HFR.out.setRow (w.heap.size + 1 + 1) (rL_ c' B1 j1 B2 j2) (fun h => by omega))
  have FN := Aside0.mk (Fr.setRow (Fr.refl (fun k => k = w.heap.size + 1 + 1) WB) (w.heap.size + 1 + 1) (rL_ c' B1 j1 B2 j2) (fun _ => rfl))
  generalize WB.setRow _ _ = WC at BZN HFRN FN ⊢
  clear BZ BG HFR
  go_wp2
  trace "Z"
  refine bodyPost_ret (results_list (rs := [.cell 6 29, .tmp 7, .tmp 8]) rfl (by simp) (.cell (w.heap.size + 1 + 1) 29 (rL_ c' B1 j1 B2 j2) (0, 0) _ rfl BZN.out Try.underlying29 rfl (by kernel_rfl) (.tmp (.tmp .nil)))) rfl ?_
  rw [HV.out]
  have hs := HS1.out
  have hw : ∀ k, W1.heap.size ≤ k ∧ k ≠ g → w.heap.size ≤ k := fun k hk => by omega
  have hk : ∀ k, W1.heap.size ≤ k ∧ k ≠ g → k < WB.heap.size → WC.heap[k]? = WB.heap[k]? := fun k hk hlt => FN.out.block k hlt (by omega)
  exact ⟨B1, j1, B2, j2, B3, j3, rfl, ⟨Kd.F_mono (Kd.F_step FI.out.2.1 hk) hw, FI.out.1, Kd.F_mono (Kd.F_step FI.out.2.2.2.1 hk) hw, FI.out.2.2.1⟩, ⟨Kd.F_mono (Kd.F_step FI.out.2.2.2.2.2 hk) hw, FI.out.2.2.2.2.1⟩, HFRN.out.below (Nat.le_refl _) (fun _ h => h)⟩
end Go.Proofs.Ytajnladoomkgaaa.Cli
