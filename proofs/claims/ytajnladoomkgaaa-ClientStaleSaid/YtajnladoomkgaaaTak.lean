/- A reply comes that is to no call that goes on. -/
import Derived.Test.YtajnladoomkgaaaHlp
namespace Go.Proofs.Ytajnladoomkgaaa.Cli
set_option linter.unusedVariables false
set_option linter.unusedSimpArgs false
open RowOf Go.RowKit Go.Proofs.YtajnladoomkgaaaW.PrintWords Go.Proofs.YtajnladoomkgaaaW.PrintLast Go.Proofs.YtajnladoomkgaaaW.PrintMore Go.Proofs.Ytajnladoomkgaaa.XC
attribute [local go_sem] max2_int min2_int max_two min_two
set_option maxHeartbeats 8000000 in
set_option maxRecDepth 100000 in
theorem take_no (c : CliS) (A1 : Option Addr) (k1 : Nat) (A2 : Option Addr) (k2 : Nat) (now : Int) (r : S36) (A : Option Addr) (k : Nat) (w : World) (hc : CliIn w c A1 k1 A2 k2) (h3 : Kd.C (Kd.int .u8) w A r.f8.length r.f8) (hl3 : r.f8.length ≤ k) (hb1 : c.Br.length < 1000000) (hb2 : c.Call.f8.length ≤ 140737488351232) (hb3 : r.f8.length ≤ 140737488351232) (hm : mineB c r = false) :
    Calls Try.prog 10 #[.agg (rL_ c A1 k1 A2 k2), .int .u64 now, .agg (rR_ r A k)] w (TakePost w (takeC c now r)) := by
  have HV := Aside0.mk (show takeC c now r = (c, [], z36, false) by unfold takeC; rw [hm]; rfl)
  have HM := Aside0.mk hm
  clear hm
  have HW1 := Aside0.mk (show (w.alloc (.cells (rL_ c A1 k1 A2 k2) 29)).heap.size = w.heap.size + 1 by simp)
  have HW2 := Aside0.mk (show ((w.alloc (.cells (rL_ c A1 k1 A2 k2) 29)).alloc (.cells (rR_ r A k) 36)).heap.size = w.heap.size + 1 + 1 by simp)
  have HW3 := Aside0.mk (show (((w.alloc (.cells (rL_ c A1 k1 A2 k2) 29)).alloc (.cells (rR_ r A k) 36)).alloc (.cells rZC_ 29)).heap.size = w.heap.size + 1 + 1 + 1 by simp)
  have HB0 := Aside0.mk (below_alloc (below_alloc (below_alloc (below_alloc (Below.refl w.heap.size w) (.cells (rL_ c A1 k1 A2 k2) 29)) (.cells (rR_ r A k) 36)) (.cells rZC_ 29)) (.cells rZR_ 36))
  have BC := Aside0.mk (blk_alloc (blk_alloc (blk_alloc (heap_alloc_new w (.cells (rL_ c A1 k1 A2 k2) 29)) (.cells (rR_ r A k) 36)) (.cells rZC_ 29)) (.cells rZR_ 36))
  have BX := Aside0.mk (HW1.out ▸ blk_alloc (blk_alloc (heap_alloc_new (w.alloc (.cells (rL_ c A1 k1 A2 k2) 29)) (.cells (rR_ r A k) 36)) (.cells rZC_ 29)) (.cells rZR_ 36))
  have BZ := Aside0.mk (HW2.out ▸ blk_alloc (heap_alloc_new ((w.alloc (.cells (rL_ c A1 k1 A2 k2) 29)).alloc (.cells (rR_ r A k) 36)) (.cells rZC_ 29)) (.cells rZR_ 36))
  have BR := Aside0.mk (HW3.out ▸ heap_alloc_new (((w.alloc (.cells (rL_ c A1 k1 A2 k2) 29)).alloc (.cells (rR_ r A k) 36)).alloc (.cells rZC_ 29)) (.cells rZR_ 36))
  have HS1 := Aside0.mk (show ((((w.alloc (.cells (rL_ c A1 k1 A2 k2) 29)).alloc (.cells (rR_ r A k) 36)).alloc (.cells rZC_ 29)).alloc (.cells rZR_ 36)).heap.size = w.heap.size + 4 by simp)
  have HIN := Aside0.mk (hc.below HB0.out)
  have H3 := Aside0.mk (Kd.C_below h3 HB0.out)
  clear hc h3 HW1 HW2 HW3
  go_enter Try.func10, Try.ntmps10
  go_wp2_with (refine wpList_load_row rfl 29 (.tmp 3) rfl w.heap.size (by rfl) 29 (rL_ c A1 k1 A2 k2) (0, 0) _ BC.out Try.underlying29 rfl (by kernel_rfl) ?_)
  generalize World.alloc _ _ = W1 at HB0 BC BX BZ BR HS1 HIN H3 ⊢
  have HWI := Aside0.mk (fun n => with_r c A1 k1 A2 k2 n W1 HIN.out.C1 HIN.out.l1 HIN.out.C2 HIN.out.l2 (by omega) hb2)
  go_wp2_with (first
      | (go_at_call 23; refine (HWI.out _).mono ?_; rintro e W2 ⟨g, rfl, hI, hB⟩; have HI2 := Aside0.mk hI; have HB2 := Aside0.mk hB; clear hI hB HWI; have BX2 := Aside0.mk (blk_below BX.out HB2.out); have BZ2 := Aside0.mk (blk_below BZ.out HB2.out); have BR2 := Aside0.mk (blk_below BR.out HB2.out); have HMI := Aside0.mk (mine_c c _ g _ [] W2 HI2.out r A k); clear BC BX BZ BR)
      | (refine wpList_load_row rfl 36 (.tmp 5) rfl (w.heap.size + 1) (by rfl) 36 (rR_ r A k) (0, 0) _ BX2.out Try.underlying36 rfl (by kernel_rfl) ?_)
      | (go_at_call 26; fail))
  rw [HM.out] at HMI
  have H32 := Aside0.mk (Kd.C_below H3.out HB2.out)
  have HGL := Aside0.mk HI2.out.lt
  have HFR2 := Aside0.mk ((Fr.of_below HB0.out (fun k => w.heap.size ≤ k)).then_ (Fr.of_below HB2.out _))
  have HG := Aside0.mk HI2.out.ge
  have H31 := Aside0.mk H3.out
  clear HIN H3 HB0
  go_wp2_with (first
      | (go_at_call 26; refine HMI.out.mono ?_; rintro e W3 ⟨rfl, hB3⟩; have HI := Aside0.mk (HI2.out.below hB3); have BX := Aside0.mk (blk_below BX2.out hB3); have BZ := Aside0.mk (blk_below BZ2.out hB3); have BR := Aside0.mk (blk_below BR2.out hB3); have HFR := Aside0.mk (HFR2.out.then_ (Fr.of_below hB3 _)); have H3 := Aside0.mk (Kd.C_below H32.out hB3); have HBW := Aside0.mk (below_then HB2.out HB2.out.size hB3); clear hB3 HI2 BX2 BZ2 BR2 HFR2 H32 HMI; obtain ⟨B1, j1, B2, j2, B3, j3, hb, m1, f1, m2, f2, m3, f3, hg⟩ := HI.out.blk; have BG := Aside0.mk hb; have FI := Aside0.mk (And.intro m1 (And.intro f1 (And.intro m2 (And.intro f2 (And.intro m3 f3))))); clear hb m1 f1 m2 f2 m3 f3 hg HI)
      | (refine wpList_load_mid rfl 29 (.tmp 21) rfl g 0 (by rfl) (rM_ c B1 j1 B2 j2) _ (blk_range BG.out 0 _ rfl) Try.underlying29 rfl (by kernel_rfl) ?_)
      | (refine wpList_store_row rfl 29 (.tmp 6) (.tmp 22) rfl (w.heap.size + 1 + 1) (rL_ c B1 j1 B2 j2) (by rfl) (by rfl) 29 rZC_ BZ.out (by kernel_rfl) (by rfl) (by kernel_rfl) ?_)
      | (refine wpList_store_row rfl 36 (.tmp 8) (.tmp 23) rfl (w.heap.size + 1 + 1 + 1) rZR_ (by rfl) (by rfl) 36 rZR_ (blk_row_far BR.out (rL_ c B1 j1 B2 j2) (show w.heap.size + 1 + 1 + 1 ≠ w.heap.size + 1 + 1 by omega)) (by kernel_rfl) (by rfl) (by kernel_rfl) ?_))
  have BZN := Aside0.mk (blk_row_far (blk_row BZ.out (rL_ c B1 j1 B2 j2)) rZR_ (show w.heap.size + 1 + 1 ≠ w.heap.size + 1 + 1 + 1 by omega))
  have BRN := Aside0.mk (blk_row (blk_row_far BR.out (rL_ c B1 j1 B2 j2) (show w.heap.size + 1 + 1 + 1 ≠ w.heap.size + 1 + 1 by omega)) rZR_)
  have HFRN := Aside0.mk ((HFR.out.setRow (w.heap.size + 1 + 1) (rL_ c B1 j1 B2 j2) (fun h => by omega)).setRow (w.heap.size + 1 + 1 + 1) rZR_ (fun h => by omega))
  have FN := Aside0.mk ((Fr.setRow (Fr.refl (fun k => k = w.heap.size + 1 + 1 ∨ k = w.heap.size + 1 + 1 + 1) W3) (w.heap.size + 1 + 1) (rL_ c B1 j1 B2 j2) (fun _ => .inl rfl)).setRow (w.heap.size + 1 + 1 + 1) rZR_ (fun _ => .inr rfl))
  generalize World.setRow _ _ _ = WC at BZN BRN HFRN FN ⊢
  clear BZ BG BR HFR
  go_wp2
  refine bodyPost_ret (results_list (rs := [.cell 6 29, .tmp 7, .cell 8 36, .tmp 9]) rfl (by simp) (.cell (w.heap.size + 1 + 1) 29 (rL_ c B1 j1 B2 j2) (0, 0) _ rfl BZN.out Try.underlying29 rfl (by kernel_rfl) (.tmp (.cell (w.heap.size + 1 + 1 + 1) 36 rZR_ (0, 0) _ rfl BRN.out Try.underlying36 rfl (by kernel_rfl) (.tmp .nil))))) rfl ?_
  rw [HV.out]
  have hs := HS1.out
  have hw : ∀ k, W1.heap.size ≤ k ∧ k ≠ g → w.heap.size ≤ k := fun k hk => by omega
  have hk : ∀ k, W1.heap.size ≤ k ∧ k ≠ g → k < W3.heap.size → WC.heap[k]? = W3.heap[k]? := fun k hk hlt => FN.out.block k hlt (by omega)
  exact ⟨B1, j1, B2, j2, none, 0, none, 0, rfl, ⟨Kd.F_mono (Kd.F_step FI.out.2.1 hk) hw, FI.out.1, Kd.F_mono (Kd.F_step FI.out.2.2.2.1 hk) hw, FI.out.2.2.1⟩, SentNew.nil _ _, BodyNew.nil _ _, HFRN.out.below (Nat.le_refl _) (fun _ h => h)⟩
end Go.Proofs.Ytajnladoomkgaaa.Cli
