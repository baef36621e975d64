/- ClientStale: a client that is refused, and bodies that are too long. -/
import Derived.Test.YtajnladoomkgaaaSam
import Derived.Test.YtajnladoomkgaaaAwk
namespace Go.Proofs.Ytajnladoomkgaaa.Cli
set_option linter.unusedVariables false
set_option linter.unusedSimpArgs false
open RowOf Go.RowKit Go.Proofs.YtajnladoomkgaaaW.PrintWords Go.Proofs.YtajnladoomkgaaaW.PrintLast Go.Proofs.YtajnladoomkgaaaW.PrintMore Go.Proofs.Ytajnladoomkgaaa.XC
attribute [local go_sem] max2_int min2_int max_two min_two
set_option maxHeartbeats 40000000 in
set_option maxRecDepth 100000 in
theorem stale_no (id inc : Int) (A : Option Addr) (k : Nat) (l : List Int) (x1 : S27) (Ax : Option Addr) (kx : Nat) (x2 : S27) (Ay : Option Addr) (ky : Nat) (r : S36) (Ar : Option Addr) (kr : Nat) (now : Int) (w : World) (hC : Kd.C (Kd.int .i64) w A l.length l) (hk : l.length ≤ k) (hl : l.length * 8 ≤ 140737488351232) (h1 : Kd.C (Kd.int .u8) w Ax x1.f8.length x1.f8) (hl1 : x1.f8.length ≤ kx) (h2 : Kd.C (Kd.int .u8) w Ay x2.f8.length x2.f8) (hl2 : x2.f8.length ≤ ky) (h3 : Kd.C (Kd.int .u8) w Ar r.f8.length r.f8) (hl3 : r.f8.length ≤ kr) (ho : newOk id inc l = false) :
    Calls Try.prog 5 #[.int .i64 id, .int .u64 inc, .slice A l.length k, .agg (rK_ x1 Ax kx), .agg (rK_ x2 Ay ky), .agg (rR_ r Ar kr), .int .u64 now] w fun e w' => e = .returned (.bool true) ∧ Below w.heap.size w w' := by
  have HNO := Aside0.mk ho
  clear ho
  have HU1 := Aside0.mk (show (w.alloc (.cells (rK_ x1 Ax kx) 27)).heap.size = w.heap.size + 1 by simp)
  have HU2 := Aside0.mk (show ((w.alloc (.cells (rK_ x1 Ax kx) 27)).alloc (.cells (rK_ x2 Ay ky) 27)).heap.size = w.heap.size + 1 + 1 by simp)
  have HV0 := Aside0.mk (show (((w.alloc (.cells (rK_ x1 Ax kx) 27)).alloc (.cells (rK_ x2 Ay ky) 27)).alloc (.cells (rR_ r Ar kr) 36)).heap.size = w.heap.size + 3 by simp)
  have B1 := Aside0.mk (blk_alloc (blk_alloc (heap_alloc_new w (.cells (rK_ x1 Ax kx) 27)) (.cells (rK_ x2 Ay ky) 27)) (.cells (rR_ r Ar kr) 36))
  have B2 := Aside0.mk (HU1.out ▸ blk_alloc (heap_alloc_new (w.alloc (.cells (rK_ x1 Ax kx) 27)) (.cells (rK_ x2 Ay ky) 27)) (.cells (rR_ r Ar kr) 36))
  have B3 := Aside0.mk (HU2.out ▸ heap_alloc_new ((w.alloc (.cells (rK_ x1 Ax kx) 27)).alloc (.cells (rK_ x2 Ay ky) 27)) (.cells (rR_ r Ar kr) 36))
  have HB0 := Aside0.mk (below_alloc (below_alloc (below_alloc (Below.refl w.heap.size w) (.cells (rK_ x1 Ax kx) 27)) (.cells (rK_ x2 Ay ky) 27)) (.cells (rR_ r Ar kr) 36))
  have HC := Aside0.mk hC
  have H1 := Aside0.mk h1
  have H2 := Aside0.mk h2
  have H3 := Aside0.mk h3
  have HL1 := Aside0.mk hl1
  have HL2 := Aside0.mk hl2
  have HL3 := Aside0.mk hl3
  have HKL := Aside0.mk hk
  have HSZ := Aside0.mk hl
  clear hC h1 h2 h3 hl1 hl2 hl3 hk HU1 HU2
  go_enter Try.func5, Try.ntmps5
  go_wp2_with fail
  generalize World.alloc _ _ = W0 at B1 B2 B3 HB0 HV0 ⊢
  have HNEW := Aside0.mk (new_c id inc A k l W0 (Kd.C_below HC.out HB0.out) HKL.out HSZ.out)
  go_wp2_with (first
    | (go_at_call 6; refine HNEW.out.mono ?_; rintro e WA hP; obtain rfl := hP.2.1 HNO.out; have hb := hP.2.2; have BZ := Aside0.mk (heap_alloc_new WA (.cells rZC_ 29)); have HWF := Aside0.mk (below_then HB0.out HB0.out.size (hb.trans (((Fr.refl (fun _ => False) WA).alloc (.cells rZC_ 29)).setRow WA.heap.size rZC_ (fun h => absurd h (Nat.lt_irrefl _)) |>.below (b := W0.heap.size) hb.size (fun _ h => h.elim)))); clear hP hb HNEW)
    | (refine wpList_store_row rfl 29 (.tmp 15) (.tmp 33) rfl WA.heap.size rZC_ (by rfl) (by rfl) 29 rZC_ BZ.out (by kernel_rfl) (by rfl) (by kernel_rfl) ?_)
    | (go_at_call 7; refine (awake_c ((WA.alloc (.cells rZC_ 29)).setRow WA.heap.size rZC_)).mono ?_; rintro e WZ ⟨rfl, hbz⟩; have HZZ := Aside0.mk (below_then HWF.out HWF.out.size hbz); clear hbz))
  go_ret
  exact ⟨rfl, HZZ.out⟩
set_option maxHeartbeats 40000000 in
set_option maxRecDepth 100000 in
theorem stale_l1 (id inc : Int) (A : Option Addr) (k : Nat) (l : List Int) (x1 : S27) (Ax : Option Addr) (kx : Nat) (x2 : S27) (Ay : Option Addr) (ky : Nat) (r : S36) (Ar : Option Addr) (kr : Nat) (now : Int) (w : World) (hC : Kd.C (Kd.int .i64) w A l.length l) (hk : l.length ≤ k) (hl : l.length * 8 ≤ 140737488351232) (h1 : Kd.C (Kd.int .u8) w Ax x1.f8.length x1.f8) (hl1 : x1.f8.length ≤ kx) (h2 : Kd.C (Kd.int .u8) w Ay x2.f8.length x2.f8) (hl2 : x2.f8.length ≤ ky) (h3 : Kd.C (Kd.int .u8) w Ar r.f8.length r.f8) (hl3 : r.f8.length ≤ kr) (ho : newOk id inc l = true) (h5 : 5000 < x1.f8.length) :
    Calls Try.prog 5 #[.int .i64 id, .int .u64 inc, .slice A l.length k, .agg (rK_ x1 Ax kx), .agg (rK_ x2 Ay ky), .agg (rR_ r Ar kr), .int .u64 now] w fun e w' => e = .returned (.bool true) ∧ Below w.heap.size w w' := by
  have HYES := Aside0.mk ho
  obtain ⟨c0, hc0⟩ : ∃ c0, newCli id inc l = c0 := ⟨_, rfl⟩
  have HC0 := Aside0.mk hc0
  clear ho hc0
  have ftx1 : decide (5000 < x1.f8.length) = true := decide_eq_true (by omega)
  have fux1 : decide ((5000 : Int) < (x1.f8.length : Int)) = true := decide_eq_true (by omega)
  clear h5
  have HU1 := Aside0.mk (show (w.alloc (.cells (rK_ x1 Ax kx) 27)).heap.size = w.heap.size + 1 by simp)
  have HU2 := Aside0.mk (show ((w.alloc (.cells (rK_ x1 Ax kx) 27)).alloc (.cells (rK_ x2 Ay ky) 27)).heap.size = w.heap.size + 1 + 1 by simp)
  have HV0 := Aside0.mk (show (((w.alloc (.cells (rK_ x1 Ax kx) 27)).alloc (.cells (rK_ x2 Ay ky) 27)).alloc (.cells (rR_ r Ar kr) 36)).heap.size = w.heap.size + 3 by simp)
  have B1 := Aside0.mk (blk_alloc (blk_alloc (heap_alloc_new w (.cells (rK_ x1 Ax kx) 27)) (.cells (rK_ x2 Ay ky) 27)) (.cells (rR_ r Ar kr) 36))
  have B2 := Aside0.mk (HU1.out ▸ blk_alloc (heap_alloc_new (w.alloc (.cells (rK_ x1 Ax kx) 27)) (.cells (rK_ x2 Ay ky) 27)) (.cells (rR_ r Ar kr) 36))
  have B3 := Aside0.mk (HU2.out ▸ heap_alloc_new ((w.alloc (.cells (rK_ x1 Ax kx) 27)).alloc (.cells (rK_ x2 Ay ky) 27)) (.cells (rR_ r Ar kr) 36))
  have HB0 := Aside0.mk (below_alloc (below_alloc (below_alloc (Below.refl w.heap.size w) (.cells (rK_ x1 Ax kx) 27)) (.cells (rK_ x2 Ay ky) 27)) (.cells (rR_ r Ar kr) 36))
  have HC := Aside0.mk hC
  have H1 := Aside0.mk h1
  have H2 := Aside0.mk h2
  have H3 := Aside0.mk h3
  have HL1 := Aside0.mk hl1
  have HL2 := Aside0.mk hl2
  have HL3 := Aside0.mk hl3
  have HKL := Aside0.mk hk
  have HSZ := Aside0.mk hl
  clear hC h1 h2 h3 hl1 hl2 hl3 hk HU1 HU2
  go_enter Try.func5, Try.ntmps5
  go_wp2_with fail
  generalize World.alloc _ _ = W0 at B1 B2 B3 HB0 HV0 ⊢
  have HNEW := Aside0.mk (new_c id inc A k l W0 (Kd.C_below HC.out HB0.out) HKL.out HSZ.out)
  go_wp2_with (first
    | (go_at_call 6; refine HNEW.out.mono ?_; rintro e WA hP; obtain ⟨A1, k1, rfl, hC⟩ := (show ∃ A1 k1, e = .returned (.tuple #[.agg (rL_ c0 A1 k1 none 0), .int .i64 0]) ∧ CliNew WA W0.heap.size c0 A1 k1 none 0 from HC0.out ▸ hP.1 HYES.out); have hb := hP.2.2; have BZ := Aside0.mk (heap_alloc_new WA (.cells rZC_ 29)); have BK0 := Aside0.mk (blk_row BZ.out (rL_ c0 A1 k1 none 0)); have F0 := Aside0.mk (((Fr.refl (fun _ => False) WA).alloc (.cells rZC_ 29)).setRow WA.heap.size (rL_ c0 A1 k1 none 0) (fun h => absurd h (Nat.lt_irrefl _))); have HN0 := Aside0.mk (hC.fr F0.out (fun _ h => h.elim)); have FX0 := Aside0.mk ((Fr.of_below hb (fun _ => False)).then_ F0.out); have HW0 := Aside0.mk (below_then HB0.out HB0.out.size (FX0.out.below (Nat.le_refl _) (fun _ h => h.elim))); have HLO := Aside0.mk (show w.heap.size + 3 ≤ WA.heap.size by have := hb.size; have := HV0.out; omega); have HZ0 := Aside0.mk (show WA.heap.size < ((WA.alloc (.cells rZC_ 29)).setRow WA.heap.size (rL_ c0 A1 k1 none 0)).heap.size by simp); have B1 := Aside0.mk (blk_fr B1.out FX0.out (fun h => h)); have B2 := Aside0.mk (blk_fr B2.out FX0.out (fun h => h)); have B3 := Aside0.mk (blk_fr B3.out FX0.out (fun h => h)); clear hC hb hP HNEW F0 FX0; have e18 : ((WA.alloc (.cells rZC_ 29)).setRow WA.heap.size (rL_ c0 A1 k1 none 0)).cell? ⟨w.heap.size, 8, none⟩ = some (.slice Ax x1.f8.length kx) := (cells_at B1.out rfl).1; have e28 : ((WA.alloc (.cells rZC_ 29)).setRow WA.heap.size (rL_ c0 A1 k1 none 0)).cell? ⟨w.heap.size + 1, 8, none⟩ = some (.slice Ay x2.f8.length ky) := (cells_at B2.out rfl).1; have e38 : ((WA.alloc (.cells rZC_ 29)).setRow WA.heap.size (rL_ c0 A1 k1 none 0)).cell? ⟨w.heap.size + 1 + 1, 8, none⟩ = some (.slice Ar r.f8.length kr) := (cells_at B3.out rfl).1)
    | (refine wpList_store_row rfl 29 (.tmp 15) (.tmp 33) rfl WA.heap.size (rL_ c0 A1 k1 none 0) (by rfl) (by rfl) 29 rZC_ BZ.out (by kernel_rfl) (by rfl) (by kernel_rfl) ?_)
    | (go_at_call 7; refine (awake_c ((WA.alloc (.cells rZC_ 29)).setRow WA.heap.size (rL_ c0 A1 k1 none 0))).mono ?_; rintro e WZ ⟨rfl, hbz⟩; have HZZ := Aside0.mk (below_then HW0.out HW0.out.size hbz); clear hbz))
  go_ret
  exact ⟨rfl, HZZ.out⟩
set_option maxHeartbeats 40000000 in
set_option maxRecDepth 100000 in
theorem stale_l2 (id inc : Int) (A : Option Addr) (k : Nat) (l : List Int) (x1 : S27) (Ax : Option Addr) (kx : Nat) (x2 : S27) (Ay : Option Addr) (ky : Nat) (r : S36) (Ar : Option Addr) (kr : Nat) (now : Int) (w : World) (hC : Kd.C (Kd.int .i64) w A l.length l) (hk : l.length ≤ k) (hl : l.length * 8 ≤ 140737488351232) (h1 : Kd.C (Kd.int .u8) w Ax x1.f8.length x1.f8) (hl1 : x1.f8.length ≤ kx) (h2 : Kd.C (Kd.int .u8) w Ay x2.f8.length x2.f8) (hl2 : x2.f8.length ≤ ky) (h3 : Kd.C (Kd.int .u8) w Ar r.f8.length r.f8) (hl3 : r.f8.length ≤ kr) (ho : newOk id inc l = true) (h5 : x1.f8.length ≤ 5000) (h6 : 5000 < x2.f8.length) :
    Calls Try.prog 5 #[.int .i64 id, .int .u64 inc, .slice A l.length k, .agg (rK_ x1 Ax kx), .agg (rK_ x2 Ay ky), .agg (rR_ r Ar kr), .int .u64 now] w fun e w' => e = .returned (.bool true) ∧ Below w.heap.size w w' := by
  have HYES := Aside0.mk ho
  obtain ⟨c0, hc0⟩ : ∃ c0, newCli id inc l = c0 := ⟨_, rfl⟩
  have HC0 := Aside0.mk hc0
  clear ho hc0
  have ftx1 : decide (5000 < x1.f8.length) = false := decide_eq_false (by omega)
  have fux1 : decide ((5000 : Int) < (x1.f8.length : Int)) = false := decide_eq_false (by omega)
  have ftx2 : decide (5000 < x2.f8.length) = true := decide_eq_true (by omega)
  have fux2 : decide ((5000 : Int) < (x2.f8.length : Int)) = true := decide_eq_true (by omega)
  clear h5 h6
  have HU1 := Aside0.mk (show (w.alloc (.cells (rK_ x1 Ax kx) 27)).heap.size = w.heap.size + 1 by simp)
  have HU2 := Aside0.mk (show ((w.alloc (.cells (rK_ x1 Ax kx) 27)).alloc (.cells (rK_ x2 Ay ky) 27)).heap.size = w.heap.size + 1 + 1 by simp)
  have HV0 := Aside0.mk (show (((w.alloc (.cells (rK_ x1 Ax kx) 27)).alloc (.cells (rK_ x2 Ay ky) 27)).alloc (.cells (rR_ r Ar kr) 36)).heap.size = w.heap.size + 3 by simp)
  have B1 := Aside0.mk (blk_alloc (blk_alloc (heap_alloc_new w (.cells (rK_ x1 Ax kx) 27)) (.cells (rK_ x2 Ay ky) 27)) (.cells (rR_ r Ar kr) 36))
  have B2 := Aside0.mk (HU1.out ▸ blk_alloc (heap_alloc_new (w.alloc (.cells (rK_ x1 Ax kx) 27)) (.cells (rK_ x2 Ay ky) 27)) (.cells (rR_ r Ar kr) 36))
  have B3 := Aside0.mk (HU2.out ▸ heap_alloc_new ((w.alloc (.cells (rK_ x1 Ax kx) 27)).alloc (.cells (rK_ x2 Ay ky) 27)) (.cells (rR_ r Ar kr) 36))
  have HB0 := Aside0.mk (below_alloc (below_alloc (below_alloc (Below.refl w.heap.size w) (.cells (rK_ x1 Ax kx) 27)) (.cells (rK_ x2 Ay ky) 27)) (.cells (rR_ r Ar kr) 36))
  have HC := Aside0.mk hC
  have H1 := Aside0.mk h1
  have H2 := Aside0.mk h2
  have H3 := Aside0.mk h3
  have HL1 := Aside0.mk hl1
  have HL2 := Aside0.mk hl2
  have HL3 := Aside0.mk hl3
  have HKL := Aside0.mk hk
  have HSZ := Aside0.mk hl
  clear hC h1 h2 h3 hl1 hl2 hl3 hk HU1 HU2
  go_enter Try.func5, Try.ntmps5
  go_wp2_with fail
  generalize World.alloc _ _ = W0 at B1 B2 B3 HB0 HV0 ⊢
  have HNEW := Aside0.mk (new_c id inc A k l W0 (Kd.C_below HC.out HB0.out) HKL.out HSZ.out)
  go_wp2_with (first
    | (go_at_call 6; refine HNEW.out.mono ?_; rintro e WA hP; obtain ⟨A1, k1, rfl, hC⟩ := (show ∃ A1 k1, e = .returned (.tuple #[.agg (rL_ c0 A1 k1 none 0), .int .i64 0]) ∧ CliNew WA W0.heap.size c0 A1 k1 none 0 from HC0.out ▸ hP.1 HYES.out); have hb := hP.2.2; have BZ := Aside0.mk (heap_alloc_new WA (.cells rZC_ 29)); have BK0 := Aside0.mk (blk_row BZ.out (rL_ c0 A1 k1 none 0)); have F0 := Aside0.mk (((Fr.refl (fun _ => False) WA).alloc (.cells rZC_ 29)).setRow WA.heap.size (rL_ c0 A1 k1 none 0) (fun h => absurd h (Nat.lt_irrefl _))); have HN0 := Aside0.mk (hC.fr F0.out (fun _ h => h.elim)); have FX0 := Aside0.mk ((Fr.of_below hb (fun _ => False)).then_ F0.out); have HW0 := Aside0.mk (below_then HB0.out HB0.out.size (FX0.out.below (Nat.le_refl _) (fun _ h => h.elim))); have HLO := Aside0.mk (show w.heap.size + 3 ≤ WA.heap.size by have := hb.size; have := HV0.out; omega); have HZ0 := Aside0.mk (show WA.heap.size < ((WA.alloc (.cells rZC_ 29)).setRow WA.heap.size (rL_ c0 A1 k1 none 0)).heap.size by simp); have B1 := Aside0.mk (blk_fr B1.out FX0.out (fun h => h)); have B2 := Aside0.mk (blk_fr B2.out FX0.out (fun h => h)); have B3 := Aside0.mk (blk_fr B3.out FX0.out (fun h => h)); clear hC hb hP HNEW F0 FX0; have e18 : ((WA.alloc (.cells rZC_ 29)).setRow WA.heap.size (rL_ c0 A1 k1 none 0)).cell? ⟨w.heap.size, 8, none⟩ = some (.slice Ax x1.f8.length kx) := (cells_at B1.out rfl).1; have e28 : ((WA.alloc (.cells rZC_ 29)).setRow WA.heap.size (rL_ c0 A1 k1 none 0)).cell? ⟨w.heap.size + 1, 8, none⟩ = some (.slice Ay x2.f8.length ky) := (cells_at B2.out rfl).1; have e38 : ((WA.alloc (.cells rZC_ 29)).setRow WA.heap.size (rL_ c0 A1 k1 none 0)).cell? ⟨w.heap.size + 1 + 1, 8, none⟩ = some (.slice Ar r.f8.length kr) := (cells_at B3.out rfl).1)
    | (refine wpList_store_row rfl 29 (.tmp 15) (.tmp 33) rfl WA.heap.size (rL_ c0 A1 k1 none 0) (by rfl) (by rfl) 29 rZC_ BZ.out (by kernel_rfl) (by rfl) (by kernel_rfl) ?_)
    | (go_at_call 7; refine (awake_c ((WA.alloc (.cells rZC_ 29)).setRow WA.heap.size (rL_ c0 A1 k1 none 0))).mono ?_; rintro e WZ ⟨rfl, hbz⟩; have HZZ := Aside0.mk (below_then HW0.out HW0.out.size hbz); clear hbz))
  go_ret
  exact ⟨rfl, HZZ.out⟩
set_option maxHeartbeats 40000000 in
set_option maxRecDepth 100000 in
theorem stale_l3 (id inc : Int) (A : Option Addr) (k : Nat) (l : List Int) (x1 : S27) (Ax : Option Addr) (kx : Nat) (x2 : S27) (Ay : Option Addr) (ky : Nat) (r : S36) (Ar : Option Addr) (kr : Nat) (now : Int) (w : World) (hC : Kd.C (Kd.int .i64) w A l.length l) (hk : l.length ≤ k) (hl : l.length * 8 ≤ 140737488351232) (h1 : Kd.C (Kd.int .u8) w Ax x1.f8.length x1.f8) (hl1 : x1.f8.length ≤ kx) (h2 : Kd.C (Kd.int .u8) w Ay x2.f8.length x2.f8) (hl2 : x2.f8.length ≤ ky) (h3 : Kd.C (Kd.int .u8) w Ar r.f8.length r.f8) (hl3 : r.f8.length ≤ kr) (ho : newOk id inc l = true) (h5 : x1.f8.length ≤ 5000) (h6 : x2.f8.length ≤ 5000) (h7 : 5000 < r.f8.length) :
    Calls Try.prog 5 #[.int .i64 id, .int .u64 inc, .slice A l.length k, .agg (rK_ x1 Ax kx), .agg (rK_ x2 Ay ky), .agg (rR_ r Ar kr), .int .u64 now] w fun e w' => e = .returned (.bool true) ∧ Below w.heap.size w w' := by
  have HYES := Aside0.mk ho
  obtain ⟨c0, hc0⟩ : ∃ c0, newCli id inc l = c0 := ⟨_, rfl⟩
  have HC0 := Aside0.mk hc0
  clear ho hc0
  have ftx1 : decide (5000 < x1.f8.length) = false := decide_eq_false (by omega)
  have fux1 : decide ((5000 : Int) < (x1.f8.length : Int)) = false := decide_eq_false (by omega)
  have ftx2 : decide (5000 < x2.f8.length) = false := decide_eq_false (by omega)
  have fux2 : decide ((5000 : Int) < (x2.f8.length : Int)) = false := decide_eq_false (by omega)
  have ftr : decide (5000 < r.f8.length) = true := decide_eq_true (by omega)
  have fur : decide ((5000 : Int) < (r.f8.length : Int)) = true := decide_eq_true (by omega)
  clear h5 h6 h7
  have HU1 := Aside0.mk (show (w.alloc (.cells (rK_ x1 Ax kx) 27)).heap.size = w.heap.size + 1 by simp)
  have HU2 := Aside0.mk (show ((w.alloc (.cells (rK_ x1 Ax kx) 27)).alloc (.cells (rK_ x2 Ay ky) 27)).heap.size = w.heap.size + 1 + 1 by simp)
  have HV0 := Aside0.mk (show (((w.alloc (.cells (rK_ x1 Ax kx) 27)).alloc (.cells (rK_ x2 Ay ky) 27)).alloc (.cells (rR_ r Ar kr) 36)).heap.size = w.heap.size + 3 by simp)
  have B1 := Aside0.mk (blk_alloc (blk_alloc (heap_alloc_new w (.cells (rK_ x1 Ax kx) 27)) (.cells (rK_ x2 Ay ky) 27)) (.cells (rR_ r Ar kr) 36))
  have B2 := Aside0.mk (HU1.out ▸ blk_alloc (heap_alloc_new (w.alloc (.cells (rK_ x1 Ax kx) 27)) (.cells (rK_ x2 Ay ky) 27)) (.cells (rR_ r Ar kr) 36))
  have B3 := Aside0.mk (HU2.out ▸ heap_alloc_new ((w.alloc (.cells (rK_ x1 Ax kx) 27)).alloc (.cells (rK_ x2 Ay ky) 27)) (.cells (rR_ r Ar kr) 36))
  have HB0 := Aside0.mk (below_alloc (below_alloc (below_alloc (Below.refl w.heap.size w) (.cells (rK_ x1 Ax kx) 27)) (.cells (rK_ x2 Ay ky) 27)) (.cells (rR_ r Ar kr) 36))
  have HC := Aside0.mk hC
  have H1 := Aside0.mk h1
  have H2 := Aside0.mk h2
  have H3 := Aside0.mk h3
  have HL1 := Aside0.mk hl1
  have HL2 := Aside0.mk hl2
  have HL3 := Aside0.mk hl3
  have HKL := Aside0.mk hk
  have HSZ := Aside0.mk hl
  clear hC h1 h2 h3 hl1 hl2 hl3 hk HU1 HU2
  go_enter Try.func5, Try.ntmps5
  go_wp2_with fail
  generalize World.alloc _ _ = W0 at B1 B2 B3 HB0 HV0 ⊢
  have HNEW := Aside0.mk (new_c id inc A k l W0 (Kd.C_below HC.out HB0.out) HKL.out HSZ.out)
  go_wp2_with (first
    | (go_at_call 6; refine HNEW.out.mono ?_; rintro e WA hP; obtain ⟨A1, k1, rfl, hC⟩ := (show ∃ A1 k1, e = .returned (.tuple #[.agg (rL_ c0 A1 k1 none 0), .int .i64 0]) ∧ CliNew WA W0.heap.size c0 A1 k1 none 0 from HC0.out ▸ hP.1 HYES.out); have hb := hP.2.2; have BZ := Aside0.mk (heap_alloc_new WA (.cells rZC_ 29)); have BK0 := Aside0.mk (blk_row BZ.out (rL_ c0 A1 k1 none 0)); have F0 := Aside0.mk (((Fr.refl (fun _ => False) WA).alloc (.cells rZC_ 29)).setRow WA.heap.size (rL_ c0 A1 k1 none 0) (fun h => absurd h (Nat.lt_irrefl _))); have HN0 := Aside0.mk (hC.fr F0.out (fun _ h => h.elim)); have FX0 := Aside0.mk ((Fr.of_below hb (fun _ => False)).then_ F0.out); have HW0 := Aside0.mk (below_then HB0.out HB0.out.size (FX0.out.below (Nat.le_refl _) (fun _ h => h.elim))); have HLO := Aside0.mk (show w.heap.size + 3 ≤ WA.heap.size by have := hb.size; have := HV0.out; omega); have HZ0 := Aside0.mk (show WA.heap.size < ((WA.alloc (.cells rZC_ 29)).setRow WA.heap.size (rL_ c0 A1 k1 none 0)).heap.size by simp); have B1 := Aside0.mk (blk_fr B1.out FX0.out (fun h => h)); have B2 := Aside0.mk (blk_fr B2.out FX0.out (fun h => h)); have B3 := Aside0.mk (blk_fr B3.out FX0.out (fun h => h)); clear hC hb hP HNEW F0 FX0; have e18 : ((WA.alloc (.cells rZC_ 29)).setRow WA.heap.size (rL_ c0 A1 k1 none 0)).cell? ⟨w.heap.size, 8, none⟩ = some (.slice Ax x1.f8.length kx) := (cells_at B1.out rfl).1; have e28 : ((WA.alloc (.cells rZC_ 29)).setRow WA.heap.size (rL_ c0 A1 k1 none 0)).cell? ⟨w.heap.size + 1, 8, none⟩ = some (.slice Ay x2.f8.length ky) := (cells_at B2.out rfl).1; have e38 : ((WA.alloc (.cells rZC_ 29)).setRow WA.heap.size (rL_ c0 A1 k1 none 0)).cell? ⟨w.heap.size + 1 + 1, 8, none⟩ = some (.slice Ar r.f8.length kr) := (cells_at B3.out rfl).1)
    | (refine wpList_store_row rfl 29 (.tmp 15) (.tmp 33) rfl WA.heap.size (rL_ c0 A1 k1 none 0) (by rfl) (by rfl) 29 rZC_ BZ.out (by kernel_rfl) (by rfl) (by kernel_rfl) ?_)
    | (go_at_call 7; refine (awake_c ((WA.alloc (.cells rZC_ 29)).setRow WA.heap.size (rL_ c0 A1 k1 none 0))).mono ?_; rintro e WZ ⟨rfl, hbz⟩; have HZZ := Aside0.mk (below_then HW0.out HW0.out.size hbz); clear hbz))
  go_ret
  exact ⟨rfl, HZZ.out⟩
end Go.Proofs.Ytajnladoomkgaaa.Cli
