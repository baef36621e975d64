/- The beginning of work on a client. -/
import Derived.Test.YtajnladoomkgaaaKnd
import Derived.Lib.SlBytesConst
namespace Go.Proofs.Ytajnladoomkgaaa.Cli
set_option linter.unusedVariables false
set_option linter.unusedSimpArgs false
open RowOf Go.RowKit Go.Proofs.YtajnladoomkgaaaW.PrintWords Go.Proofs.YtajnladoomkgaaaW.PrintLast Go.Proofs.YtajnladoomkgaaaW.PrintMore Go.Proofs.Ytajnladoomkgaaa.XC

theorem R_F0 {α : Type} {d : Kd α} {e : Nat} {W : World} {base : Nat} {ok : Nat → Prop} {v : Value} {l : List α} (h : Kd.R d e W base ok v l) : ∃ A c, v = .slice A l.length c ∧ l.length ≤ c ∧ Kd.F d W (fun k => base ≤ k) A l.length l := by
  obtain ⟨A, c, rfl⟩ := Kd.R_slice h
  exact ⟨A, c, rfl, (Kd.R_reads' h).2.1, Kd.F_mono (Kd.R_F (Kd.R_bound h)) (fun k hk => hk.2.1)⟩
theorem cells_at {W : World} {g : Nat} {cs : Array Value} {T : TypeId} {j : Nat} {v : Value} (hb : W.heap[g]? = some (.cells cs T (0, 0))) (h : cs[j]? = some v) : W.cell? ⟨g, j, none⟩ = some v ∧ W.frozen? ⟨g, j, none⟩ = false :=
  ⟨(blk_cell hb j).trans h, blk_frozen hb j⟩
def wit.T1 : Bool × List (List Nat × List Nat) := (true, [([], []), ([0], [0]), ([1], [1]), ([], []), ([3], [3]), ([4, 2], [4]), ([0, 1, 2, 3, 4], []), ([6, 2, 5, 0, 1, 2, 3, 4], [2, 6]), ([0, 1, 2, 3, 4, 5, 6, 7], []), ([8, 5, 7, 0, 1, 2, 3, 4, 5, 6, 7], [5, 8])])
def wit.B1 : List Nat := [0, 1, 3, 0, 8, 31, 31, 127, 255, 511]
theorem wit.tab1 : rtab .any (opsOf Try.f23 1) = wit.T1 := by kernel_rfl
theorem wit.bits1 : waitsOk wit.T1.2 wit.B1 = true := by kernel_rfl
set_option maxHeartbeats 8000000 in
set_option maxRecDepth 100000 in
theorem with_c (c : CliS) (A1 : Option Addr) (k1 : Nat) (A2 : Option Addr) (k2 : Nat) (now : Int) (w : World) (h1 : Kd.C (Kd.int .i64) w A1 c.Br.length c.Br) (hl1 : c.Br.length ≤ k1) (h2 : Kd.C (Kd.int .u8) w A2 c.Call.f8.length c.Call.f8) (hl2 : c.Call.f8.length ≤ k2) (hb1 : c.Br.length * 8 ≤ 140737488351232) (hb2 : c.Call.f8.length ≤ 140737488351232) :
    Calls Try.prog 23 #[.agg (rL_ c A1 k1 A2 k2), .int .u64 now] w fun e w' => ∃ g A3 k3 A4 k4, e = .returned (.pointer (some ⟨g, 0, none⟩)) ∧ w'.heap[g]? = some (.cells (rW_ c A3 k3 A4 k4 now (.slice none 0 0)) 66 (0, 0)) ∧ c.Br.length ≤ k3 ∧ Kd.F (Kd.int .i64) w' (fun k => w.heap.size ≤ k ∧ k ≠ g) A3 c.Br.length c.Br ∧ c.Call.f8.length ≤ k4 ∧ Kd.F (Kd.int .u8) w' (fun k => w.heap.size ≤ k ∧ k ≠ g) A4 c.Call.f8.length c.Call.f8 ∧ w.heap.size ≤ g ∧ Below w.heap.size w w' := by
  have H1 := Aside0.mk h1
  have H2 := Aside0.mk h2
  have HL1 := Aside0.mk hl1
  have HL2 := Aside0.mk hl2
  have HF1 := Aside0.mk (show slices_Clone_int_int.f c.Br = some c.Br by unfold slices_Clone_int_int.f; rw [if_pos (by omega)])
  have HF2 := Aside0.mk (show client_own.f c.Call.f0 c.Call.f1 c.Call.f2 c.Call.f3 c.Call.f4 c.Call.f5 c.Call.f6 c.Call.f7 c.Call.f8 = some (c.Call.f0, c.Call.f1, c.Call.f2, c.Call.f3, c.Call.f4, c.Call.f5, c.Call.f6, c.Call.f7, c.Call.f8) by unfold client_own.f slices_Clone_byte_byte.f; rw [if_pos (by omega)]; rfl)
  clear h1 h2 hl1 hl2 hb1 hb2
  have HB00 := Aside0.mk (below_alloc (Below.refl w.heap.size w) (.cells (rL_ c A1 k1 A2 k2) 29))
  have HB0 := Aside0.mk HB00.out.drew
  have HS0 := Aside0.mk (show w.heap.size + 1 ≤ (w.alloc (.cells (rL_ c A1 k1 A2 k2) 29)).drew.heap.size by simp)
  have BK := Aside0.mk (blk_drew (heap_alloc_new w (.cells (rL_ c A1 k1 A2 k2) 29)))
  go_enter Try.func23, Try.ntmps23
  go_wp2
  have d0 := (cells_at (j := 3) BK.out rfl).1
  have d1 := (cells_at (j := 5) BK.out rfl).1
  have d2 := (cells_at (j := 6) BK.out rfl).1
  have d3 := (cells_at (j := 7) BK.out rfl).1
  have d4 := (cells_at (j := 8) BK.out rfl).1
  have d5 := (cells_at (j := 9) BK.out rfl).1
  have d6 := (cells_at (j := 10) BK.out rfl).1
  have d7 := (cells_at (j := 11) BK.out rfl).1
  have d8 := (cells_at (j := 12) BK.out rfl).1
  have d9 := (cells_at (j := 13) BK.out rfl).1
  refine start_ (n := 10) (S := fun w' => w'.cell? ⟨w.heap.size, 3, none⟩ = some (.slice A1 c.Br.length k1) ∧ w'.cell? ⟨w.heap.size, 5, none⟩ = some (.int .i64 c.Call.f0) ∧ w'.cell? ⟨w.heap.size, 6, none⟩ = some (.int .u64 c.Call.f1) ∧ w'.cell? ⟨w.heap.size, 7, none⟩ = some (.int .u64 c.Call.f2) ∧ w'.cell? ⟨w.heap.size, 8, none⟩ = some (.int .i64 c.Call.f3) ∧ w'.cell? ⟨w.heap.size, 9, none⟩ = some (.int .i64 c.Call.f4) ∧ w'.cell? ⟨w.heap.size, 10, none⟩ = some (.int .i64 c.Call.f5) ∧ w'.cell? ⟨w.heap.size, 11, none⟩ = some (.int .u64 c.Call.f6) ∧ w'.cell? ⟨w.heap.size, 12, none⟩ = some (.int .u64 c.Call.f7) ∧ w'.cell? ⟨w.heap.size, 13, none⟩ = some (.slice A2 c.Call.f8.length k2)) (ds := [7, 9]) #[false, false, false, false, false, false, false, false, false, false] (by kernel_rfl) rfl rfl ⟨d0, d1, d2, d3, d4, d5, d6, d7, d8, d9⟩ (fun hHeld => ?_)
  refine with_tabW wit.tab1 wit.bits1 (fun HT_ HW_ => ?_)
  clear d0 d1 d2 d3 d4 d5 d6 d7 d8 d9
  -- 0: Op.fieldAddr
  refine pure_ (i := 0) (N := some 5) (v := ?_) (a' := ?_) #[true, false, false, false, false, false, false, false, false, false] rfl rfl (any_of HT_.out (by kernel_rfl)) (fun _ _ _ h => h) (Or.inl ⟨by rfl, ?_⟩) ?_ ?_
  rotate_left; (intro w'; go_simp; with_reducible rfl); rotate_left; (simp only [Act.put, List.setIfInBounds_toArray, List.set_cons_zero, List.set_cons_succ, i64_w, i32_w]; rfl)
  -- 3: Op.fieldAddr
  refine pure_ (i := 3) (N := some 8) (v := ?_) (a' := ?_) #[true, false, false, true, false, false, false, false, false, false] rfl rfl (any_of HT_.out (by kernel_rfl)) (fun _ _ _ h => h) (Or.inl ⟨by rfl, ?_⟩) ?_ ?_
  rotate_left; (intro w'; go_simp; with_reducible rfl); rotate_left; (simp only [Act.put, List.setIfInBounds_toArray, List.set_cons_zero, List.set_cons_succ, i64_w, i32_w]; rfl)
  -- 1: Op.load
  refine take_ (i := 1) (N := some 6) (v := ?_) (a' := ?_) #[true, true, false, true, false, false, false, false, false, false] rfl rfl (take_ofW HT_.out HW_.out (by kernel_rfl)) (fun _ _ _ h => h) (Or.inl ⟨by rfl, ?_⟩) hHeld ?_ ?_
  rotate_left; (rintro w' ⟨s0, s1, s2, s3, s4, s5, s6, s7, s8, s9⟩; go_simp; with_reducible rfl); rotate_left; (simp only [Act.put, List.setIfInBounds_toArray, List.set_cons_zero, List.set_cons_succ, i64_w, i32_w]; rfl)
  -- 4: Op.load
  refine take_ (i := 4) (N := some 9) (v := ?_) (a' := ?_) #[true, true, false, true, true, false, false, false, false, false] rfl rfl (take_ofW HT_.out HW_.out (by kernel_rfl)) (fun _ _ _ h => h) (Or.inl ⟨by rfl, ?_⟩) hHeld ?_ ?_
  rotate_left; (rintro w' ⟨s0, s1, s2, s3, s4, s5, s6, s7, s8, s9⟩; go_simp; with_reducible rfl); rotate_left; (simp only [Act.put, List.setIfInBounds_toArray, List.set_cons_zero, List.set_cons_succ, i64_w, i32_w]; rfl)
  -- 2: Op.call
  refine one_ (i := 2) (N := some 7) #[true, true, true, true, true, false, false, false, false, false] rfl rfl (one_of HT_.out (by kernel_rfl)) (by decide) (fun K hK => ?_)
  refine goes_ Try.func22 (by kernel_rfl) rfl #[.slice A1 c.Br.length k1] (by rfl) rfl rfl (by (try simp only [List.map_toArray, List.map_cons, List.map_nil]); first | done | rfl) ?_
  refine (slices_Clone_int_int.calls A1 k1 c.Br c.Br _ (Kd.C_below H1.out HB0.out) HL1.out HF1.out).mono ?_
  rintro e w2 ⟨v2, rfl, hR2, hB2⟩
  obtain ⟨A3, k3, rfl, hl3, hF3⟩ := R_F0 hR2
  refine ⟨_, rfl, ?_⟩
  have BK2 := Aside0.mk (blk_below BK.out hB2)
  have HF3 := Aside0.mk (Kd.F_mono hF3 (fun k hk => Nat.le_trans HS0.out hk) (ok' := fun k => w.heap.size + 1 ≤ k))
  have HL3 := Aside0.mk hl3
  have HS2 := Aside0.mk hB2.size
  have HB2 := Aside0.mk (below_then HB0.out HB0.out.size hB2)
  clear hR2 hB2 hHeld hF3 hl3
  have d0 := (cells_at (j := 3) BK2.out rfl).1
  have d1 := (cells_at (j := 5) BK2.out rfl).1
  have d2 := (cells_at (j := 6) BK2.out rfl).1
  have d3 := (cells_at (j := 7) BK2.out rfl).1
  have d4 := (cells_at (j := 8) BK2.out rfl).1
  have d5 := (cells_at (j := 9) BK2.out rfl).1
  have d6 := (cells_at (j := 10) BK2.out rfl).1
  have d7 := (cells_at (j := 11) BK2.out rfl).1
  have d8 := (cells_at (j := 12) BK2.out rfl).1
  have d9 := (cells_at (j := 13) BK2.out rfl).1
  refine hK.out _ _ ⟨d0, d1, d2, d3, d4, d5, d6, d7, d8, d9⟩ (fun hHeld => ?_)
  clear d0 d1 d2 d3 d4 d5 d6 d7 d8 d9
  clear hK K
  refine norm_ (a' := ?_) ?_ ?_
  rotate_left; (show Act.put _ (some 7) _ = _; simp only [Act.put, List.setIfInBounds_toArray, List.set_cons_zero, List.set_cons_succ, i64_w, i32_w]; rfl)
  -- 6: Op.fieldAddr
  refine pure_ (i := 6) (N := some 11) (v := ?_) (a' := ?_) #[true, true, true, true, true, false, true, false, false, false] rfl rfl (any_of HT_.out (by kernel_rfl)) (fun _ _ _ h => h) (Or.inl ⟨by rfl, ?_⟩) ?_ ?_
  rotate_left; (intro w'; go_simp; with_reducible rfl); rotate_left; (simp only [Act.put, List.setIfInBounds_toArray, List.set_cons_zero, List.set_cons_succ, i64_w, i32_w]; rfl)
  -- 5: Op.call
  refine one_ (i := 5) (N := some 10) #[true, true, true, true, true, true, true, false, false, false] rfl rfl (one_of HT_.out (by kernel_rfl)) (by decide) (fun K hK => ?_)
  refine goes_ Try.func24 (by kernel_rfl) rfl #[.agg (rK_ c.Call A2 k2)] (by rfl) rfl rfl (by (try simp only [List.map_toArray, List.map_cons, List.map_nil]); first | done | rfl) ?_
  refine (client_own.calls c.Call.f0 c.Call.f1 c.Call.f2 c.Call.f3 c.Call.f4 c.Call.f5 c.Call.f6 c.Call.f7 A2 k2 c.Call.f8 c.Call.f0 c.Call.f1 c.Call.f2 c.Call.f3 c.Call.f4 c.Call.f5 c.Call.f6 c.Call.f7 c.Call.f8 _ (Kd.C_below H2.out HB2.out) HL2.out HF2.out).mono ?_
  rintro e w3 ⟨v3, rfl, hR3, hB3⟩
  obtain ⟨A4, k4, rfl, hl4, hF4⟩ := R_F0 hR3
  refine ⟨_, rfl, ?_⟩
  have BK3 := Aside0.mk (blk_below BK2.out hB3)
  have HF4 := Aside0.mk (Kd.F_mono hF4 (fun k hk => Nat.le_trans (Nat.le_trans HS0.out HS2.out) hk) (ok' := fun k => w.heap.size + 1 ≤ k))
  have HF3b := Aside0.mk (Kd.F_below HF3.out hB3)
  have HL4 := Aside0.mk hl4
  have HB3 := Aside0.mk (below_then HB2.out HB2.out.size hB3)
  clear hR3 hB3 hHeld hF4 hl4 BK2 HF3 HB2
  have d0 := (cells_at (j := 3) BK3.out rfl).1
  have d1 := (cells_at (j := 5) BK3.out rfl).1
  have d2 := (cells_at (j := 6) BK3.out rfl).1
  have d3 := (cells_at (j := 7) BK3.out rfl).1
  have d4 := (cells_at (j := 8) BK3.out rfl).1
  have d5 := (cells_at (j := 9) BK3.out rfl).1
  have d6 := (cells_at (j := 10) BK3.out rfl).1
  have d7 := (cells_at (j := 11) BK3.out rfl).1
  have d8 := (cells_at (j := 12) BK3.out rfl).1
  have d9 := (cells_at (j := 13) BK3.out rfl).1
  refine hK.out _ _ ⟨d0, d1, d2, d3, d4, d5, d6, d7, d8, d9⟩ (fun hHeld => ?_)
  clear d0 d1 d2 d3 d4 d5 d6 d7 d8 d9
  clear hK K
  refine norm_ (a' := ?_) ?_ ?_
  rotate_left; (show Act.put _ (some 10) _ = _; simp only [Act.put, List.setIfInBounds_toArray, List.set_cons_zero, List.set_cons_succ, i64_w, i32_w]; rfl)
  -- 7: Op.store
  refine last_ (i := 7) (N := none) #[true, true, true, true, true, true, true, true, false, false] rfl rfl (one_of HT_.out (by kernel_rfl)) (by decide) (fun K hK => ?_)
  have e3 := (cells_at BK3.out (j := 3) rfl).1
  have hfz := fun o => blk_frozen BK3.out o
  refine skip_ (w1 := ?_) (by rfl) rfl ?_ ?_
  rotate_left
  · go_simp
    rfl
  clear hfz e3
  have bq := blk_set (BK3.out) 3 ((.slice A3 c.Br.length k3))
  simp only [List.setIfInBounds_toArray, List.set_cons_zero, List.set_cons_succ] at bq
  have BK4 := Aside0.mk bq
  clear bq
  trace "B"
  have HB4 := Aside0.mk (Below.setCell HB3.out (p := ⟨w.heap.size, 3, none⟩) (Nat.le_refl _) (.slice A3 c.Br.length k3))
  have HF3c := Aside0.mk (Kd.F_far HF3b.out (p := ⟨w.heap.size, 3, none⟩) (fun k hk => by intro e; simp only at e; omega) (.slice A3 c.Br.length k3))
  have HF4c := Aside0.mk (Kd.F_far HF4.out (p := ⟨w.heap.size, 3, none⟩) (fun k hk => by intro e; simp only at e; omega) (.slice A3 c.Br.length k3))
  clear HB3 BK3 HF3b HF4
  refine hK.out _ _ ?_
  clear hK K
  -- 8: Op.fieldAddr
  refine pure_ (i := 8) (N := some 12) (v := ?_) (a' := ?_) #[true, true, true, true, true, true, true, true, true, false] rfl rfl (any_of HT_.out (by kernel_rfl)) (fun _ _ _ h => h) (Or.inl ⟨by rfl, ?_⟩) ?_ ?_
  rotate_left; (intro w'; go_simp; with_reducible rfl); rotate_left; (simp only [Act.put, List.setIfInBounds_toArray, List.set_cons_zero, List.set_cons_succ, i64_w, i32_w]; rfl)
  -- 9: Op.store
  refine last_ (i := 9) (N := none) #[true, true, true, true, true, true, true, true, true, true] rfl rfl (one_of HT_.out (by kernel_rfl)) (by decide) (fun K hK => ?_)
  have e5 := (cells_at BK4.out (j := 5) rfl).1
  have e6 := (cells_at BK4.out (j := 6) rfl).1
  have e7 := (cells_at BK4.out (j := 7) rfl).1
  have e8 := (cells_at BK4.out (j := 8) rfl).1
  have e9 := (cells_at BK4.out (j := 9) rfl).1
  have e10 := (cells_at BK4.out (j := 10) rfl).1
  have e11 := (cells_at BK4.out (j := 11) rfl).1
  have e12 := (cells_at BK4.out (j := 12) rfl).1
  have e13 := (cells_at BK4.out (j := 13) rfl).1
  have hfz := fun o => blk_frozen BK4.out o
  refine skip_ (w1 := ?_) (by rfl) rfl ?_ ?_
  rotate_left
  · go_simp
    rfl
  clear hfz e5 e6 e7 e8 e9 e10 e11 e12 e13
  have bq := blk_set (blk_set (blk_set (blk_set (blk_set (blk_set (blk_set (blk_set (blk_set (BK4.out) 5 (.int .i64 c.Call.f0)) 6 (.int .u64 c.Call.f1)) 7 (.int .u64 c.Call.f2)) 8 (.int .i64 c.Call.f3)) 9 (.int .i64 c.Call.f4)) 10 (.int .i64 c.Call.f5)) 11 (.int .u64 c.Call.f6)) 12 (.int .u64 c.Call.f7)) 13 (.slice A4 c.Call.f8.length k4)
  simp only [List.setIfInBounds_toArray, List.set_cons_zero, List.set_cons_succ] at bq
  have BK5 := Aside0.mk bq
  clear bq
  trace "B"
  have HB5 := Aside0.mk (Below.setCell (Below.setCell (Below.setCell (Below.setCell (Below.setCell (Below.setCell (Below.setCell (Below.setCell (Below.setCell (HB4.out) (p := ⟨w.heap.size, 5, none⟩) (Nat.le_refl _) (.int .i64 c.Call.f0)) (p := ⟨w.heap.size, 6, none⟩) (Nat.le_refl _) (.int .u64 c.Call.f1)) (p := ⟨w.heap.size, 7, none⟩) (Nat.le_refl _) (.int .u64 c.Call.f2)) (p := ⟨w.heap.size, 8, none⟩) (Nat.le_refl _) (.int .i64 c.Call.f3)) (p := ⟨w.heap.size, 9, none⟩) (Nat.le_refl _) (.int .i64 c.Call.f4)) (p := ⟨w.heap.size, 10, none⟩) (Nat.le_refl _) (.int .i64 c.Call.f5)) (p := ⟨w.heap.size, 11, none⟩) (Nat.le_refl _) (.int .u64 c.Call.f6)) (p := ⟨w.heap.size, 12, none⟩) (Nat.le_refl _) (.int .u64 c.Call.f7)) (p := ⟨w.heap.size, 13, none⟩) (Nat.le_refl _) (.slice A4 c.Call.f8.length k4))
  have HF3d := Aside0.mk (Kd.F_far (Kd.F_far (Kd.F_far (Kd.F_far (Kd.F_far (Kd.F_far (Kd.F_far (Kd.F_far (Kd.F_far (HF3c.out) (p := ⟨w.heap.size, 5, none⟩) (fun k hk => by intro e; simp only at e; omega) (.int .i64 c.Call.f0)) (p := ⟨w.heap.size, 6, none⟩) (fun k hk => by intro e; simp only at e; omega) (.int .u64 c.Call.f1)) (p := ⟨w.heap.size, 7, none⟩) (fun k hk => by intro e; simp only at e; omega) (.int .u64 c.Call.f2)) (p := ⟨w.heap.size, 8, none⟩) (fun k hk => by intro e; simp only at e; omega) (.int .i64 c.Call.f3)) (p := ⟨w.heap.size, 9, none⟩) (fun k hk => by intro e; simp only at e; omega) (.int .i64 c.Call.f4)) (p := ⟨w.heap.size, 10, none⟩) (fun k hk => by intro e; simp only at e; omega) (.int .i64 c.Call.f5)) (p := ⟨w.heap.size, 11, none⟩) (fun k hk => by intro e; simp only at e; omega) (.int .u64 c.Call.f6)) (p := ⟨w.heap.size, 12, none⟩) (fun k hk => by intro e; simp only at e; omega) (.int .u64 c.Call.f7)) (p := ⟨w.heap.size, 13, none⟩) (fun k hk => by intro e; simp only at e; omega) (.slice A4 c.Call.f8.length k4))
  have HF4d := Aside0.mk (Kd.F_far (Kd.F_far (Kd.F_far (Kd.F_far (Kd.F_far (Kd.F_far (Kd.F_far (Kd.F_far (Kd.F_far (HF4c.out) (p := ⟨w.heap.size, 5, none⟩) (fun k hk => by intro e; simp only at e; omega) (.int .i64 c.Call.f0)) (p := ⟨w.heap.size, 6, none⟩) (fun k hk => by intro e; simp only at e; omega) (.int .u64 c.Call.f1)) (p := ⟨w.heap.size, 7, none⟩) (fun k hk => by intro e; simp only at e; omega) (.int .u64 c.Call.f2)) (p := ⟨w.heap.size, 8, none⟩) (fun k hk => by intro e; simp only at e; omega) (.int .i64 c.Call.f3)) (p := ⟨w.heap.size, 9, none⟩) (fun k hk => by intro e; simp only at e; omega) (.int .i64 c.Call.f4)) (p := ⟨w.heap.size, 10, none⟩) (fun k hk => by intro e; simp only at e; omega) (.int .i64 c.Call.f5)) (p := ⟨w.heap.size, 11, none⟩) (fun k hk => by intro e; simp only at e; omega) (.int .u64 c.Call.f6)) (p := ⟨w.heap.size, 12, none⟩) (fun k hk => by intro e; simp only at e; omega) (.int .u64 c.Call.f7)) (p := ⟨w.heap.size, 13, none⟩) (fun k hk => by intro e; simp only at e; omega) (.slice A4 c.Call.f8.length k4))
  clear HB4 BK4 HF3c HF4c
  refine hK.out _ _ ?_
  clear hK K
  refine done_ (done_of HT_.out (by kernel_rfl)) ?_
  clear HT_ HW_ hHeld BK HS0 HB0 HB00 HS2
  trace "B2"
  generalize World.setCell _ _ _ = WW at BK5 HB5 HF3d HF4d ⊢
  trace "B3"
  have g0 : WW.cell? ⟨w.heap.size, 0, none⟩ = some (.int .i64 c.Id) := (cells_at BK5.out rfl).1
  have g1 : WW.cell? ⟨w.heap.size, 1, none⟩ = some (.int .u64 c.Inc) := (cells_at BK5.out rfl).1
  have g2 : WW.cell? ⟨w.heap.size, 2, none⟩ = some (.int .u64 c.N) := (cells_at BK5.out rfl).1
  have g3 : WW.cell? ⟨w.heap.size, 3, none⟩ = some (.slice A3 c.Br.length k3) := (cells_at BK5.out rfl).1
  have g4 : WW.cell? ⟨w.heap.size, 4, none⟩ = some (.int .i64 c.Busy) := (cells_at BK5.out rfl).1
  have g5 : WW.cell? ⟨w.heap.size, 5, none⟩ = some (.int .i64 c.Call.f0) := (cells_at BK5.out rfl).1
  have g6 : WW.cell? ⟨w.heap.size, 6, none⟩ = some (.int .u64 c.Call.f1) := (cells_at BK5.out rfl).1
  have g7 : WW.cell? ⟨w.heap.size, 7, none⟩ = some (.int .u64 c.Call.f2) := (cells_at BK5.out rfl).1
  have g8 : WW.cell? ⟨w.heap.size, 8, none⟩ = some (.int .i64 c.Call.f3) := (cells_at BK5.out rfl).1
  have g9 : WW.cell? ⟨w.heap.size, 9, none⟩ = some (.int .i64 c.Call.f4) := (cells_at BK5.out rfl).1
  have g10 : WW.cell? ⟨w.heap.size, 10, none⟩ = some (.int .i64 c.Call.f5) := (cells_at BK5.out rfl).1
  have g11 : WW.cell? ⟨w.heap.size, 11, none⟩ = some (.int .u64 c.Call.f6) := (cells_at BK5.out rfl).1
  have g12 : WW.cell? ⟨w.heap.size, 12, none⟩ = some (.int .u64 c.Call.f7) := (cells_at BK5.out rfl).1
  have g13 : WW.cell? ⟨w.heap.size, 13, none⟩ = some (.slice A4 c.Call.f8.length k4) := (cells_at BK5.out rfl).1
  have g14 : WW.cell? ⟨w.heap.size, 14, none⟩ = some (.int .i64 c.At) := (cells_at BK5.out rfl).1
  have g15 : WW.cell? ⟨w.heap.size, 15, none⟩ = some (.int .u64 c.Born) := (cells_at BK5.out rfl).1
  have g16 : WW.cell? ⟨w.heap.size, 16, none⟩ = some (.int .u64 c.Since) := (cells_at BK5.out rfl).1
  go_wp2
  trace "C"
  go_ret
  have hsz := HB5.out.size
  refine ⟨_, A3, k3, A4, k4, rfl, heap_alloc_new WW _, HL3.out, Kd.F_alloc (Kd.F_mono (Kd.F_bound HF3d.out) (fun k hk => ⟨by have := hk.1; omega, by have := hk.2; omega⟩)) _, HL4.out, Kd.F_alloc (Kd.F_mono (Kd.F_bound HF4d.out) (fun k hk => ⟨by have := hk.1; omega, by have := hk.2; omega⟩)) _, hsz, below_alloc HB5.out _⟩
end Go.Proofs.Ytajnladoomkgaaa.Cli
