/- ClientStale: one way through it. -/
import Derived.Test.YtajnladoomkgaaaStb
import Derived.Test.YtajnladoomkgaaaSam
namespace Go.Proofs.Ytajnladoomkgaaa.Cli
set_option linter.unusedVariables false
set_option linter.unusedSimpArgs false
open RowOf Go.RowKit Go.Proofs.YtajnladoomkgaaaW.PrintWords Go.Proofs.YtajnladoomkgaaaW.PrintLast Go.Proofs.YtajnladoomkgaaaW.PrintMore Go.Proofs.Ytajnladoomkgaaa.XC
attribute [local go_sem] max2_int min2_int max_two min_two
set_option maxHeartbeats 40000000 in
set_option maxRecDepth 100000 in
theorem stale_miss2 (id inc : Int) (A : Option Addr) (k : Nat) (l : List Int) (x1 : S27) (Ax : Option Addr) (kx : Nat) (x2 : S27) (Ay : Option Addr) (ky : Nat) (r : S36) (Ar : Option Addr) (kr : Nat) (now : Int) (w : World) (hC : Kd.C (Kd.int .i64) w A l.length l) (hk : l.length ≤ k) (hl : l.length * 8 ≤ 140737488351232) (h1 : Kd.C (Kd.int .u8) w Ax x1.f8.length x1.f8) (hl1 : x1.f8.length ≤ kx) (h2 : Kd.C (Kd.int .u8) w Ay x2.f8.length x2.f8) (hl2 : x2.f8.length ≤ ky) (h3 : Kd.C (Kd.int .u8) w Ar r.f8.length r.f8) (hl3 : r.f8.length ≤ kr) (ho : newOk id inc l = true) (h5 : x1.f8.length ≤ 5000) (h6 : x2.f8.length ≤ 5000) (h7 : r.f8.length ≤ 5000) (hm1 : mayB (begun (newCli id inc l) x1) = true) (hm2 : mayB { x2 with f0 := id, f1 := inc, f2 := 2 } = true) (g0 : r.f0 = id) (g1 : r.f1 = inc) (g2 : r.f2 ≠ 2) :
    Calls Try.prog 5 #[.int .i64 id, .int .u64 inc, .slice A l.length k, .agg (rK_ x1 Ax kx), .agg (rK_ x2 Ay ky), .agg (rR_ r Ar kr), .int .u64 now] w fun e w' => e = .returned (.bool true) ∧ Below w.heap.size w w' := by
  obtain ⟨c0, hc0⟩ : ∃ c0, newCli id inc l = c0 := ⟨_, rfl⟩
  have OX1 := Aside0.mk (show x1.f8.length ≤ 140737488351232 by omega)
  have OX2 := Aside0.mk (show x2.f8.length ≤ 140737488351232 by omega)
  have OX3 := Aside0.mk (show r.f8.length ≤ 140737488351232 by omega)
  have hlen := newOk_len ho
  have OB0 := Aside0.mk (show c0.Br.length < 1000000 from by rw [← hc0]; show l.length < 1000000; omega)
  have OC0 := Aside0.mk (show c0.Call.f8.length ≤ 140737488351232 from by rw [← hc0]; show ([] : List Int).length ≤ _; simp)
  have ON0 := Aside0.mk (show 0 ≤ c0.N ∧ c0.N < 18446744073709551616 from by rw [← hc0]; exact ⟨Int.le_refl 0, by show (0 : Int) < _; decide⟩)
  have hm : mayB (begun c0 x1) = true := by rw [← hc0]; exact hm1
  clear hm1

  have hn0 : c0.N = 0 := by rw [← hc0]; rfl
  have hbu0 : c0.Busy = 0 := by rw [← hc0]; rfl
  have hid0 : c0.Id = id := by rw [← hc0]; rfl
  have hin0 : c0.Inc = inc := by rw [← hc0]; rfl
  have hbr0 : c0.Br = l := by rw [← hc0]; rfl
  obtain ⟨c1, s1, hq1, hb1, hcl1, hN1, hbr1, hid1, hin1, -⟩ := startC_ok c0 now x1 hm hbu0 (by rw [hn0]; decide)
  have hq2 : takeC c1 now (⟨id, inc, 1, 7, 0, 0, 0, 0, []⟩ : S36) = ({ c1 with Busy := 0 }, [], (⟨id, inc, 1, 7, 0, 0, 0, 0, []⟩ : S36), true) := takeC_end c1 now _ ((mineB_is _ _).2 ⟨hb1, by rw [hcl1]; exact hid0.symm, by rw [hcl1]; exact hin0.symm, by rw [hcl1]; show (1 : Int) = nextN c0.N; rw [hn0]; rfl⟩) (by show (7:Int) ≠ 1; decide) (by show (7:Int) ≠ 2; decide)
  obtain ⟨c2, hc2⟩ : ∃ c2 : CliS, c2 = { c1 with Busy := 0 } := ⟨_, rfl⟩
  rw [← hc2] at hq2
  obtain ⟨rr, hrr⟩ : ∃ rr : S36, rr = (⟨id, inc, 1, 7, 0, 0, 0, 0, []⟩ : S36) := ⟨_, rfl⟩
  have HRR := Aside0.mk (show rr.f2 = 1 by rw [hrr])
  have HQ2 := Aside0.mk (show takeC c1 now (⟨id, inc, 1, 7, 0, 0, 0, 0, []⟩ : S36) = (c2, [], rr, true) by rw [hrr]; exact hq2)
  clear hrr
  have OB1 := Aside0.mk (show c1.Br.length < 1000000 by rw [hbr1, hbr0]; omega)
  have OC1 := Aside0.mk (show c1.Call.f8.length ≤ 140737488351232 by rw [hcl1]; show x1.f8.length ≤ _; omega)
  have OB2 := Aside0.mk (show c2.Br.length < 1000000 by rw [hc2]; exact OB1.out)
  have OC2 := Aside0.mk (show c2.Call.f8.length ≤ 140737488351232 by rw [hc2]; exact OC1.out)
  have hN2 : c2.N = 1 := by rw [hc2]; show c1.N = 1; rw [hN1, hn0]; rfl
  have ON2 := Aside0.mk (show 0 ≤ c2.N ∧ c2.N < 18446744073709551616 by rw [hN2]; decide)
  have hid2 : c2.Id = id := by rw [hc2]; exact hid1.trans hid0
  have hin2 : c2.Inc = inc := by rw [hc2]; exact hin1.trans hin0
  have hbr2 : c2.Br = l := by rw [hc2]; exact hbr1.trans hbr0
  have hbu2 : c2.Busy = 0 := by rw [hc2]
  have HQ1 := Aside0.mk hq1
  have HC2x := Aside0.mk (show begun c2 x2 = { x2 with f0 := id, f1 := inc, f2 := 2 } by unfold begun; rw [hid2, hin2, hN2]; rfl)
  clear hc2 hq1 hq2 hcl1
  have hm2' : mayB (begun c2 x2) = true := by rw [HC2x.out]; exact hm2
  clear hm2

  obtain ⟨c3, s3, hq3, hb3, hcl3, hN3, hbr3, hid3, hin3, -⟩ := startC_ok c2 now x2 hm2' hbu2 (by rw [hN2]; decide)
  have OB3 := Aside0.mk (show c3.Br.length < 1000000 by rw [hbr3, hbr2]; omega)
  have OC3 := Aside0.mk (show c3.Call.f8.length ≤ 140737488351232 by rw [hcl3]; show x2.f8.length ≤ _; omega)
  have hf3 : c3.Call.f0 = id ∧ c3.Call.f1 = inc ∧ c3.Call.f2 = 2 := by rw [hcl3]; exact ⟨hid2, hin2, by show nextN c2.N = 2; rw [hN2]; rfl⟩
  have HQ3 := Aside0.mk hq3
  clear HC2x hm2'
  have HQ4 := Aside0.mk (takeC_no c3 now r (Bool.eq_false_iff.2 (fun h => by have h := (mineB_is _ _).1 h; rw [hf3.1, hf3.2.1, hf3.2.2] at h; omega)))
  clear hq3 hb3 hcl3 hN3 hbr3 hid3 hin3 hf3
  clear hm
  clear hn0 hbu0 hid0 hin0 hbr0 hb1 hN1 hbr1 hid1 hin1 hN2 hid2 hin2 hbr2 hbu2
  have HYES := Aside0.mk ho
  have HC0 := Aside0.mk hc0
  clear ho hc0 hlen
  have ftx1 : decide (5000 < x1.f8.length) = false := decide_eq_false (by omega)
  have fux1 : decide ((5000 : Int) < (x1.f8.length : Int)) = false := decide_eq_false (by omega)
  have ftx2 : decide (5000 < x2.f8.length) = false := decide_eq_false (by omega)
  have fux2 : decide ((5000 : Int) < (x2.f8.length : Int)) = false := decide_eq_false (by omega)
  have ftr : decide (5000 < r.f8.length) = false := decide_eq_false (by omega)
  have fur : decide ((5000 : Int) < (r.f8.length : Int)) = false := decide_eq_false (by omega)
  clear h5 h6 h7
  have u0 : (r.f0 == id) = true := by simpa using g0
  have u1 : (r.f1 == inc) = true := by simpa using g1
  have u2 : (r.f2 == 2) = false := by simpa using g2
  clear g0 g1 g2
  have HU1 := Aside0.mk (show (w.alloc (.cells (rK_ x1 Ax kx) 27)).heap.size = w.heap.size + 1 by simp)
  have HU2 := Aside0.mk (show ((w.alloc (.cells (rK_ x1 Ax kx) 27)).alloc (.cells (rK_ x2 Ay ky) 27)).heap.size = w.heap.size + 1 + 1 by simp)
  have HV0 := Aside0.mk (show (((w.alloc (.cells (rK_ x1 Ax kx) 27)).alloc (.cells (rK_ x2 Ay ky) 27)).alloc (.cells (rR_ r Ar kr) 36)).heap.size = w.heap.size + 3 by simp)
  have B1 := Aside0.mk (blk_alloc (blk_alloc (heap_alloc_new w (.cells (rK_ x1 Ax kx) 27)) (.cells (rK_ x2 Ay ky) 27)) (.cells (rR_ r Ar kr) 36))
  have B2 := Aside0.mk (HU1.out ▸ blk_alloc (heap_alloc_new (w.alloc (.cells (rK_ x1 Ax kx) 27)) (.cells (rK_ x2 Ay ky) 27)) (.cells (rR_ r Ar kr) 36))
  have B3 := Aside0.mk (HU2.out ▸ heap_alloc_new ((w.alloc (.cells (rK_ x1 Ax kx) 27)).alloc (.cells (rK_ x2 Ay ky) 27)) (.cells (rR_ r Ar kr) 36))
  have HB0 := Aside0.mk (below_alloc (below_alloc (below_alloc (Below.refl w.heap.size w) (.cells (rK_ x1 Ax kx) 27)) (.cells (rK_ x2 Ay ky) 27)) (.cells (rR_ r Ar kr) 36))
  have HC := Aside0.mk hC
  have H1 := Aside0.mk h1
  have H2 := Aside0.mk h2
  have H3 := Aside0.mk h3
  have HL1 := Aside0.mk hl1
  have HL2 := Aside0.mk hl2
  have HL3 := Aside0.mk hl3
  have HKL := Aside0.mk hk
  have HSZ := Aside0.mk hl
  clear hC h1 h2 h3 hl1 hl2 hl3 hk HU1 HU2
  go_enter Try.func5, Try.ntmps5
  go_wp2_with fail
  generalize World.alloc _ _ = W0 at B1 B2 B3 HB0 HV0 ⊢
  have HNEW := Aside0.mk (new_c id inc A k l W0 (Kd.C_below HC.out HB0.out) HKL.out HSZ.out)
  go_wp2_with (first
    | (go_at_call 6; refine HNEW.out.mono ?_; rintro e WA hP; obtain ⟨A1, k1, rfl, hC⟩ := (show ∃ A1 k1, e = .returned (.tuple #[.agg (rL_ c0 A1 k1 none 0), .int .i64 0]) ∧ CliNew WA W0.heap.size c0 A1 k1 none 0 from HC0.out ▸ hP.1 HYES.out); have hb := hP.2.2; have BZ := Aside0.mk (heap_alloc_new WA (.cells rZC_ 29)); have BK0 := Aside0.mk (blk_row BZ.out (rL_ c0 A1 k1 none 0)); have F0 := Aside0.mk (((Fr.refl (fun _ => False) WA).alloc (.cells rZC_ 29)).setRow WA.heap.size (rL_ c0 A1 k1 none 0) (fun h => absurd h (Nat.lt_irrefl _))); have HN0 := Aside0.mk (hC.fr F0.out (fun _ h => h.elim)); have FX0 := Aside0.mk ((Fr.of_below hb (fun _ => False)).then_ F0.out); have HW0 := Aside0.mk (below_then HB0.out HB0.out.size (FX0.out.below (Nat.le_refl _) (fun _ h => h.elim))); have HLO := Aside0.mk (show w.heap.size + 3 ≤ WA.heap.size by have := hb.size; have := HV0.out; omega); have HZ0 := Aside0.mk (show WA.heap.size < ((WA.alloc (.cells rZC_ 29)).setRow WA.heap.size (rL_ c0 A1 k1 none 0)).heap.size by simp); have B1 := Aside0.mk (blk_fr B1.out FX0.out (fun h => h)); have B2 := Aside0.mk (blk_fr B2.out FX0.out (fun h => h)); have B3 := Aside0.mk (blk_fr B3.out FX0.out (fun h => h)); clear hC hb hP HNEW F0 FX0; have e18 : ((WA.alloc (.cells rZC_ 29)).setRow WA.heap.size (rL_ c0 A1 k1 none 0)).cell? ⟨w.heap.size, 8, none⟩ = some (.slice Ax x1.f8.length kx) := (cells_at B1.out rfl).1; have e28 : ((WA.alloc (.cells rZC_ 29)).setRow WA.heap.size (rL_ c0 A1 k1 none 0)).cell? ⟨w.heap.size + 1, 8, none⟩ = some (.slice Ay x2.f8.length ky) := (cells_at B2.out rfl).1; have e38 : ((WA.alloc (.cells rZC_ 29)).setRow WA.heap.size (rL_ c0 A1 k1 none 0)).cell? ⟨w.heap.size + 1 + 1, 8, none⟩ = some (.slice Ar r.f8.length kr) := (cells_at B3.out rfl).1; have R1 := Aside0.mk (show ((WA.alloc (.cells rZC_ 29)).setRow WA.heap.size (rL_ c0 A1 k1 none 0)).heap[w.heap.size]? = _ from B1.out); have HC1 := Aside0.mk (HQ1.out ▸ (start_c c0 A1 k1 none 0 now x1 Ax kx ((WA.alloc (.cells rZC_ 29)).setRow WA.heap.size (rL_ c0 A1 k1 none 0)) HN0.out.in_ (Kd.C_below H1.out HW0.out) HL1.out OB0.out OC0.out OX1.out ON0.out)))
    | (refine wpList_store_row rfl 29 (.tmp 15) (.tmp 33) rfl WA.heap.size (rL_ c0 A1 k1 none 0) (by rfl) (by rfl) 29 rZC_ BZ.out (by kernel_rfl) (by rfl) (by kernel_rfl) ?_)
    | (refine wpList_load_row rfl 27 (.tmp 10) rfl w.heap.size (by rfl) 27 (rK_ x1 Ax kx) (0, 0) _ R1.out Try.underlying27 rfl (by kernel_rfl) ?_)
    | (go_at_call 8; refine HC1.out.mono ?_; rintro e W1 hP; obtain ⟨P1, p1, Q1, q1, S1, t1, rfl, hC, hS, hb⟩ := (show ∃ P1 p1 Q1 q1 S1 t1, e = .returned (.tuple #[.agg (rL_ c1 P1 p1 Q1 q1), .slice S1 s1.length t1, .int .i64 0]) ∧ CliNew W1 ((WA.alloc (.cells rZC_ 29)).setRow WA.heap.size (rL_ c0 A1 k1 none 0)).heap.size c1 P1 p1 Q1 q1 ∧ SentNew W1 ((WA.alloc (.cells rZC_ 29)).setRow WA.heap.size (rL_ c0 A1 k1 none 0)).heap.size s1 S1 t1 ∧ Below ((WA.alloc (.cells rZC_ 29)).setRow WA.heap.size (rL_ c0 A1 k1 none 0)).heap.size ((WA.alloc (.cells rZC_ 29)).setRow WA.heap.size (rL_ c0 A1 k1 none 0)) W1 from hP); clear hP HC1; have BKa1 := Aside0.mk (blk_below BK0.out hb); have BK1 := Aside0.mk (blk_row BKa1.out (rL_ c1 P1 p1 Q1 q1)); have F1 := Aside0.mk (((Fr.refl (fun k => k = WA.heap.size) W1)).setRow WA.heap.size (rL_ c1 P1 p1 Q1 q1) (fun h => rfl)); have FX1 := Aside0.mk ((Fr.of_below hb (fun k => k = WA.heap.size)).then_ F1.out); have HN1 := Aside0.mk (hC.fr F1.out (fun k hk => by have := HZ0.out; have := hb.size; (try simp only at hk); omega)); have HS1 := Aside0.mk (hS.fr F1.out (fun k hk => by have := HZ0.out; have := hb.size; (try simp only at hk); omega)); have B1 := Aside0.mk (blk_fr B1.out FX1.out (by have := HLO.out; omega)); have B2 := Aside0.mk (blk_fr B2.out FX1.out (by have := HLO.out; omega)); have B3 := Aside0.mk (blk_fr B3.out FX1.out (by have := HLO.out; omega)); have HZ1 := Aside0.mk (show WA.heap.size < (W1.setRow WA.heap.size (rL_ c1 P1 p1 Q1 q1)).heap.size by have := HZ0.out; have := hb.size; simp; omega); have HW1 := Aside0.mk (HW0.out.trans (FX1.out.below (b := w.heap.size) (HW0.out.size) (fun k hk => by have := HLO.out; (try simp only at hk); omega))); clear hC hS hb; clear BK0 F1 HW0 ; clear R1; have HC2 := Aside0.mk (HQ2.out ▸ (take_c c1 P1 p1 Q1 q1 now (⟨id, inc, 1, 7, 0, 0, 0, 0, []⟩ : S36) none 0 (W1.setRow WA.heap.size (rL_ c1 P1 p1 Q1 q1)) HN1.out.in_ (Kd.C_nil _ _) (Nat.le_refl _) OB1.out OC1.out (Nat.zero_le _))))
    | (refine wpList_load_row rfl 29 (.tmp 15) rfl WA.heap.size (by rfl) 29 (rL_ c0 A1 k1 none 0) (0, 0) _ BK0.out Try.underlying29 rfl (by kernel_rfl) ?_)
    | (refine wpList_store_row rfl 29 (.tmp 15) (.tmp 61) rfl WA.heap.size (rL_ c1 P1 p1 Q1 q1) (by rfl) (by rfl) 29 (rL_ c0 A1 k1 none 0) BKa1.out (by kernel_rfl) (by rfl) (by kernel_rfl) ?_)
    | (go_at_call 10; refine HC2.out.mono ?_; rintro e W2 hP; obtain ⟨P2, p2, Q2, q2, S2, t2, T2, u2, rfl, hC, hS, hR, hb⟩ := (show ∃ P2 p2 Q2 q2 S2 t2 T2 u2, e = .returned (.tuple #[.agg (rL_ c2 P2 p2 Q2 q2), .slice S2 ([] : List S48).length t2, .agg (rR_ rr T2 u2), .bool true]) ∧ CliNew W2 (W1.setRow WA.heap.size (rL_ c1 P1 p1 Q1 q1)).heap.size c2 P2 p2 Q2 q2 ∧ SentNew W2 (W1.setRow WA.heap.size (rL_ c1 P1 p1 Q1 q1)).heap.size ([] : List S48) S2 t2 ∧ BodyNew W2 (W1.setRow WA.heap.size (rL_ c1 P1 p1 Q1 q1)).heap.size rr.f8 T2 u2 ∧ Below (W1.setRow WA.heap.size (rL_ c1 P1 p1 Q1 q1)).heap.size (W1.setRow WA.heap.size (rL_ c1 P1 p1 Q1 q1)) W2 from hP); clear hP HC2; have BKa2 := Aside0.mk (blk_alloc (blk_below BK1.out hb) (.cells rZR_ 36)); have BRn2 := Aside0.mk (heap_alloc_new W2 (.cells rZR_ 36)); have BR2 := Aside0.mk (blk_row_far BRn2.out (rL_ c2 P2 p2 Q2 q2) (show (W2.heap.size) ≠ WA.heap.size by have := HZ1.out; have := hb.size; omega)); have BK2 := Aside0.mk (blk_row_far (blk_row BKa2.out (rL_ c2 P2 p2 Q2 q2)) (rR_ rr T2 u2) (show WA.heap.size ≠ (W2.heap.size) by have := HZ1.out; have := hb.size; omega)); have F2 := Aside0.mk (((((Fr.refl (fun k => k = WA.heap.size) W2)).alloc (.cells rZR_ 36)).setRow WA.heap.size (rL_ c2 P2 p2 Q2 q2) (fun h => rfl)).setRow (W2.heap.size) (rR_ rr T2 u2) (fun h => absurd h (by omega))); have FX2 := Aside0.mk ((Fr.of_below hb (fun k => k = WA.heap.size)).then_ F2.out); have BQ2 := Aside0.mk (blk_row BR2.out (rR_ rr T2 u2)); have HN2 := Aside0.mk (hC.fr F2.out (fun k hk => by have := HZ1.out; have := hb.size; (try simp only at hk); omega)); have HS2 := Aside0.mk (hS.fr F2.out (fun k hk => by have := HZ1.out; have := hb.size; (try simp only at hk); omega)); have HR2 := Aside0.mk (hR.fr F2.out (fun k hk => by have := HZ1.out; have := hb.size; (try simp only at hk); omega)); have B1 := Aside0.mk (blk_fr B1.out FX2.out (by have := HLO.out; omega)); have B2 := Aside0.mk (blk_fr B2.out FX2.out (by have := HLO.out; omega)); have B3 := Aside0.mk (blk_fr B3.out FX2.out (by have := HLO.out; omega)); have HZ2 := Aside0.mk (show WA.heap.size < (((W2.alloc (.cells rZR_ 36)).setRow WA.heap.size (rL_ c2 P2 p2 Q2 q2)).setRow (W2.heap.size) (rR_ rr T2 u2)).heap.size by have := HZ1.out; have := hb.size; simp; omega); have HW2 := Aside0.mk (HW1.out.trans (FX2.out.below (b := w.heap.size) (HW1.out.size) (fun k hk => by have := HLO.out; (try simp only at hk); omega))); clear hC hS hb hR; clear BK1 F2 HW1 BKa1; have eR2 : (((W2.alloc (.cells rZR_ 36)).setRow WA.heap.size (rL_ c2 P2 p2 Q2 q2)).setRow (W2.heap.size) (rR_ rr T2 u2)).cell? ⟨W2.heap.size, 2, none⟩ = some (.int .u64 1) := Eq.trans (cells_at BQ2.out rfl).1 (show some (Value.int .u64 rr.f2) = some (.int .u64 1) by rw [HRR.out]); have R2 := Aside0.mk (show (((W2.alloc (.cells rZR_ 36)).setRow WA.heap.size (rL_ c2 P2 p2 Q2 q2)).setRow (W2.heap.size) (rR_ rr T2 u2)).heap[w.heap.size + 1]? = _ from B2.out); clear HN1 BQ2; have HC3 := Aside0.mk (HQ3.out ▸ (start_c c2 P2 p2 Q2 q2 now x2 Ay ky (((W2.alloc (.cells rZR_ 36)).setRow WA.heap.size (rL_ c2 P2 p2 Q2 q2)).setRow (W2.heap.size) (rR_ rr T2 u2)) HN2.out.in_ (Kd.C_below H2.out HW2.out) HL2.out OB2.out OC2.out OX2.out ON2.out)))
    | (refine wpList_load_row rfl 29 (.tmp 15) rfl WA.heap.size (by rfl) 29 (rL_ c1 P1 p1 Q1 q1) (0, 0) _ BK1.out Try.underlying29 rfl (by kernel_rfl) ?_)
    | (refine wpList_store_row rfl 29 (.tmp 15) (.tmp 78) rfl WA.heap.size (rL_ c2 P2 p2 Q2 q2) (by rfl) (by rfl) 29 (rL_ c1 P1 p1 Q1 q1) BKa2.out (by kernel_rfl) (by rfl) (by kernel_rfl) ?_)
    | (refine wpList_store_row rfl 36 (.tmp 20) (.tmp 80) rfl (W2.heap.size) (rR_ rr T2 u2) (by rfl) (by rfl) 36 rZR_ BR2.out (by kernel_rfl) (by rfl) (by kernel_rfl) ?_)
    | (go_at_call 8; refine HC3.out.mono ?_; rintro e W3 hP; obtain ⟨P3, p3, Q3, q3, S3, t3, rfl, hC, hS, hb⟩ := (show ∃ P3 p3 Q3 q3 S3 t3, e = .returned (.tuple #[.agg (rL_ c3 P3 p3 Q3 q3), .slice S3 s3.length t3, .int .i64 0]) ∧ CliNew W3 (((W2.alloc (.cells rZR_ 36)).setRow WA.heap.size (rL_ c2 P2 p2 Q2 q2)).setRow (W2.heap.size) (rR_ rr T2 u2)).heap.size c3 P3 p3 Q3 q3 ∧ SentNew W3 (((W2.alloc (.cells rZR_ 36)).setRow WA.heap.size (rL_ c2 P2 p2 Q2 q2)).setRow (W2.heap.size) (rR_ rr T2 u2)).heap.size s3 S3 t3 ∧ Below (((W2.alloc (.cells rZR_ 36)).setRow WA.heap.size (rL_ c2 P2 p2 Q2 q2)).setRow (W2.heap.size) (rR_ rr T2 u2)).heap.size (((W2.alloc (.cells rZR_ 36)).setRow WA.heap.size (rL_ c2 P2 p2 Q2 q2)).setRow (W2.heap.size) (rR_ rr T2 u2)) W3 from hP); clear hP HC3; have BKa3 := Aside0.mk (blk_below BK2.out hb); have BK3 := Aside0.mk (blk_row BKa3.out (rL_ c3 P3 p3 Q3 q3)); have F3 := Aside0.mk (((Fr.refl (fun k => k = WA.heap.size) W3)).setRow WA.heap.size (rL_ c3 P3 p3 Q3 q3) (fun h => rfl)); have FX3 := Aside0.mk ((Fr.of_below hb (fun k => k = WA.heap.size)).then_ F3.out); have HN3 := Aside0.mk (hC.fr F3.out (fun k hk => by have := HZ2.out; have := hb.size; (try simp only at hk); omega)); have HS3 := Aside0.mk (hS.fr F3.out (fun k hk => by have := HZ2.out; have := hb.size; (try simp only at hk); omega)); have B1 := Aside0.mk (blk_fr B1.out FX3.out (by have := HLO.out; omega)); have B2 := Aside0.mk (blk_fr B2.out FX3.out (by have := HLO.out; omega)); have B3 := Aside0.mk (blk_fr B3.out FX3.out (by have := HLO.out; omega)); have HZ3 := Aside0.mk (show WA.heap.size < (W3.setRow WA.heap.size (rL_ c3 P3 p3 Q3 q3)).heap.size by have := HZ2.out; have := hb.size; simp; omega); have HW3 := Aside0.mk (HW2.out.trans (FX3.out.below (b := w.heap.size) (HW2.out.size) (fun k hk => by have := HLO.out; (try simp only at hk); omega))); clear R2 eR2; clear hC hS hb; clear BK2 F3 HW2 BKa2 BR2 BRn2; have R3 := Aside0.mk (show (W3.setRow WA.heap.size (rL_ c3 P3 p3 Q3 q3)).heap[w.heap.size + 1 + 1]? = _ from B3.out); have HC4 := Aside0.mk (HQ4.out ▸ (take_c c3 P3 p3 Q3 q3 now r Ar kr (W3.setRow WA.heap.size (rL_ c3 P3 p3 Q3 q3)) HN3.out.in_ (Kd.C_below H3.out HW3.out) HL3.out OB3.out OC3.out OX3.out)))
    | (refine wpList_load_row rfl 29 (.tmp 15) rfl WA.heap.size (by rfl) 29 (rL_ c2 P2 p2 Q2 q2) (0, 0) _ BK2.out Try.underlying29 rfl (by kernel_rfl) ?_)
    | (refine wpList_store_row rfl 29 (.tmp 15) (.tmp 94) rfl WA.heap.size (rL_ c3 P3 p3 Q3 q3) (by rfl) (by rfl) 29 (rL_ c2 P2 p2 Q2 q2) BKa3.out (by kernel_rfl) (by rfl) (by kernel_rfl) ?_)
    | (go_at_call 10; refine HC4.out.mono ?_; rintro e W4 hP; obtain ⟨P4, p4, Q4, q4, S4, t4, T4, u4, rfl, hC, hS, hR, hb⟩ := (show ∃ P4 p4 Q4 q4 S4 t4 T4 u4, e = .returned (.tuple #[.agg (rL_ c3 P4 p4 Q4 q4), .slice S4 ([] : List S48).length t4, .agg (rR_ z36 T4 u4), .bool false]) ∧ CliNew W4 (W3.setRow WA.heap.size (rL_ c3 P3 p3 Q3 q3)).heap.size c3 P4 p4 Q4 q4 ∧ SentNew W4 (W3.setRow WA.heap.size (rL_ c3 P3 p3 Q3 q3)).heap.size ([] : List S48) S4 t4 ∧ BodyNew W4 (W3.setRow WA.heap.size (rL_ c3 P3 p3 Q3 q3)).heap.size z36.f8 T4 u4 ∧ Below (W3.setRow WA.heap.size (rL_ c3 P3 p3 Q3 q3)).heap.size (W3.setRow WA.heap.size (rL_ c3 P3 p3 Q3 q3)) W4 from hP); clear hP HC4; have BKa4 := Aside0.mk (blk_alloc (blk_alloc (blk_below BK3.out hb) (.cells rZC_ 29)) (.cells rZR_ 36)); have BRn4 := Aside0.mk (show ((W4.alloc (.cells rZC_ 29)).alloc (.cells rZR_ 36)).heap[(W4.heap.size + 1)]? = _ from (show (W4.alloc (.cells rZC_ 29)).heap.size = W4.heap.size + 1 by simp) ▸ heap_alloc_new (W4.alloc (.cells rZC_ 29)) (.cells rZR_ 36)); have BOn4 := Aside0.mk (blk_alloc (heap_alloc_new W4 (.cells rZC_ 29)) (.cells rZR_ 36)); have BR4 := Aside0.mk (blk_row_far BRn4.out (rL_ c3 P4 p4 Q4 q4) (show (W4.heap.size + 1) ≠ W4.heap.size by omega)); have BK4 := Aside0.mk (blk_row_far (blk_row_far BKa4.out (rL_ c3 P4 p4 Q4 q4) (show WA.heap.size ≠ W4.heap.size by have := HZ3.out; have := hb.size; omega)) (rR_ z36 T4 u4) (show WA.heap.size ≠ (W4.heap.size + 1) by have := HZ3.out; have := hb.size; omega)); have F4 := Aside0.mk ((((((Fr.refl (fun k => k = WA.heap.size) W4)).alloc (.cells rZC_ 29)).alloc (.cells rZR_ 36)).setRow W4.heap.size (rL_ c3 P4 p4 Q4 q4) (fun h => absurd h (Nat.lt_irrefl _))).setRow (W4.heap.size + 1) (rR_ z36 T4 u4) (fun h => absurd h (by omega))); have FX4 := Aside0.mk ((Fr.of_below hb (fun k => k = WA.heap.size)).then_ F4.out); have BQ4 := Aside0.mk (blk_row BR4.out (rR_ z36 T4 u4)); have BO4 := Aside0.mk (blk_row_far (blk_row BOn4.out (rL_ c3 P4 p4 Q4 q4)) (rR_ z36 T4 u4) (show W4.heap.size ≠ (W4.heap.size + 1) by omega)); have HN4 := Aside0.mk (hC.fr F4.out (fun k hk => by have := HZ3.out; have := hb.size; (try simp only at hk); omega)); have HS4 := Aside0.mk (hS.fr F4.out (fun k hk => by have := HZ3.out; have := hb.size; (try simp only at hk); omega)); have HR4 := Aside0.mk (hR.fr F4.out (fun k hk => by have := HZ3.out; have := hb.size; (try simp only at hk); omega)); have B1 := Aside0.mk (blk_fr B1.out FX4.out (by have := HLO.out; omega)); have B2 := Aside0.mk (blk_fr B2.out FX4.out (by have := HLO.out; omega)); have B3 := Aside0.mk (blk_fr B3.out FX4.out (by have := HLO.out; omega)); have HZ4 := Aside0.mk (show WA.heap.size < ((((W4.alloc (.cells rZC_ 29)).alloc (.cells rZR_ 36)).setRow W4.heap.size (rL_ c3 P4 p4 Q4 q4)).setRow (W4.heap.size + 1) (rR_ z36 T4 u4)).heap.size by have := HZ3.out; have := hb.size; simp; omega); have HW4 := Aside0.mk (HW3.out.trans (FX4.out.below (b := w.heap.size) (HW3.out.size) (fun k hk => by have := HLO.out; (try simp only at hk); omega))); clear R3; have HN3 := Aside0.mk (HN3.out.fr FX4.out (fun k hk => by have := HZ2.out; (try simp only at hk); omega)); clear hC hS hb hR; clear BK3 F4 HW3 BKa3; have e30 : ((((W4.alloc (.cells rZC_ 29)).alloc (.cells rZR_ 36)).setRow W4.heap.size (rL_ c3 P4 p4 Q4 q4)).setRow (W4.heap.size + 1) (rR_ z36 T4 u4)).cell? ⟨w.heap.size + 1 + 1, 0, none⟩ = some (.int .i64 r.f0) := (cells_at B3.out rfl).1; have e31 : ((((W4.alloc (.cells rZC_ 29)).alloc (.cells rZR_ 36)).setRow W4.heap.size (rL_ c3 P4 p4 Q4 q4)).setRow (W4.heap.size + 1) (rR_ z36 T4 u4)).cell? ⟨w.heap.size + 1 + 1, 1, none⟩ = some (.int .u64 r.f1) := (cells_at B3.out rfl).1; have e32 : ((((W4.alloc (.cells rZC_ 29)).alloc (.cells rZR_ 36)).setRow W4.heap.size (rL_ c3 P4 p4 Q4 q4)).setRow (W4.heap.size + 1) (rR_ z36 T4 u4)).cell? ⟨w.heap.size + 1 + 1, 2, none⟩ = some (.int .u64 r.f2) := (cells_at B3.out rfl).1; have HSM := Aside0.mk (same_c c3 P3 p3 Q3 q3 P4 p4 Q4 q4 ((((W4.alloc (.cells rZC_ 29)).alloc (.cells rZR_ 36)).setRow W4.heap.size (rL_ c3 P4 p4 Q4 q4)).setRow (W4.heap.size + 1) (rR_ z36 T4 u4)) HN3.out.in_ HN4.out.in_ OB3.out OC3.out))
    | (refine wpList_load_row rfl 29 (.tmp 15) rfl WA.heap.size (by rfl) 29 (rL_ c3 P3 p3 Q3 q3) (0, 0) _ BK3.out Try.underlying29 rfl (by kernel_rfl) ?_)
    | (refine wpList_store_row rfl 29 (.tmp 24) (.tmp 109) rfl W4.heap.size (rL_ c3 P4 p4 Q4 q4) (by rfl) (by rfl) 29 rZC_ BOn4.out (by kernel_rfl) (by rfl) (by kernel_rfl) ?_)
    | (refine wpList_store_row rfl 36 (.tmp 26) (.tmp 111) rfl (W4.heap.size + 1) (rR_ z36 T4 u4) (by rfl) (by rfl) 36 rZR_ BR4.out (by kernel_rfl) (by rfl) (by kernel_rfl) ?_)
    | (refine wpList_load_row rfl 27 (.tmp 11) rfl (w.heap.size + 1) (by rfl) 27 (rK_ x2 Ay ky) (0, 0) _ R2.out Try.underlying27 rfl (by kernel_rfl) ?_)
    | (refine wpList_load_row rfl 36 (.tmp 12) rfl (w.heap.size + 1 + 1) (by rfl) 36 (rR_ r Ar kr) (0, 0) _ R3.out Try.underlying36 rfl (by kernel_rfl) ?_)
    | (refine wpList_load_row rfl 29 (.tmp 15) rfl WA.heap.size (by rfl) 29 (rL_ c3 P3 p3 Q3 q3) (0, 0) _ BK4.out Try.underlying29 rfl (by kernel_rfl) ?_)
    | (refine wpList_load_row rfl 29 (.tmp 24) rfl W4.heap.size (by rfl) 29 (rL_ c3 P4 p4 Q4 q4) (0, 0) _ BO4.out Try.underlying29 rfl (by kernel_rfl) ?_)
    | (go_at_call 15; refine HSM.out.mono ?_; rintro e W5 ⟨rfl, hb5⟩; have HWS := Aside0.mk (below_then HW4.out HW4.out.size hb5); clear hb5 HSM)
    | (go_at_call 7; refine (awake_c W5).mono ?_; rintro e WZ ⟨rfl, hbz⟩; have HZZ := Aside0.mk (below_then HWS.out HWS.out.size hbz); clear hbz))
  go_ret
  exact ⟨rfl, HZZ.out⟩
end Go.Proofs.Ytajnladoomkgaaa.Cli
