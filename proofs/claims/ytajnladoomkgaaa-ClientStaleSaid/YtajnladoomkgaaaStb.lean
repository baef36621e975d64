/- ClientStale: the first call is refused. -/
import Derived.Test.YtajnladoomkgaaaSta
import Derived.Test.YtajnladoomkgaaaStp
namespace Go.Proofs.Ytajnladoomkgaaa.Cli
set_option linter.unusedVariables false
set_option linter.unusedSimpArgs false
open RowOf Go.RowKit Go.Proofs.YtajnladoomkgaaaW.PrintWords Go.Proofs.YtajnladoomkgaaaW.PrintLast Go.Proofs.YtajnladoomkgaaaW.PrintMore Go.Proofs.Ytajnladoomkgaaa.XC
attribute [local go_sem] max2_int min2_int max_two min_two
set_option maxHeartbeats 40000000 in
set_option maxRecDepth 100000 in
theorem stale_a1 (id inc : Int) (A : Option Addr) (k : Nat) (l : List Int) (x1 : S27) (Ax : Option Addr) (kx : Nat) (x2 : S27) (Ay : Option Addr) (ky : Nat) (r : S36) (Ar : Option Addr) (kr : Nat) (now : Int) (w : World) (hC : Kd.C (Kd.int .i64) w A l.length l) (hk : l.length ≤ k) (hl : l.length * 8 ≤ 140737488351232) (h1 : Kd.C (Kd.int .u8) w Ax x1.f8.length x1.f8) (hl1 : x1.f8.length ≤ kx) (h2 : Kd.C (Kd.int .u8) w Ay x2.f8.length x2.f8) (hl2 : x2.f8.length ≤ ky) (h3 : Kd.C (Kd.int .u8) w Ar r.f8.length r.f8) (hl3 : r.f8.length ≤ kr) (ho : newOk id inc l = true) (h5 : x1.f8.length ≤ 5000) (h6 : x2.f8.length ≤ 5000) (h7 : r.f8.length ≤ 5000) (hm : mayB (begun (newCli id inc l) x1) = false) :
    Calls Try.prog 5 #[.int .i64 id, .int .u64 inc, .slice A l.length k, .agg (rK_ x1 Ax kx), .agg (rK_ x2 Ay ky), .agg (rR_ r Ar kr), .int .u64 now] w fun e w' => e = .returned (.bool true) ∧ Below w.heap.size w w' := by
  obtain ⟨c0, hc0⟩ : ∃ c0, newCli id inc l = c0 := ⟨_, rfl⟩
  have OX1 := Aside0.mk (show x1.f8.length ≤ 140737488351232 by omega)
  have OX2 := Aside0.mk (show x2.f8.length ≤ 140737488351232 by omega)
  have OX3 := Aside0.mk (show r.f8.length ≤ 140737488351232 by omega)
  have hlen := newOk_len ho
  have OB0 := Aside0.mk (show c0.Br.length < 1000000 from by rw [← hc0]; show l.length < 1000000; omega)
  have OC0 := Aside0.mk (show c0.Call.f8.length ≤ 140737488351232 from by rw [← hc0]; show ([] : List Int).length ≤ _; simp)
  have ON0 := Aside0.mk (show 0 ≤ c0.N ∧ c0.N < 18446744073709551616 from by rw [← hc0]; exact ⟨Int.le_refl 0, by show (0 : Int) < _; decide⟩)
  have HQ1 := Aside0.mk (startC_no c0 now x1 (by rw [← hc0]; exact hm))
  have HYES := Aside0.mk ho
  have HC0 := Aside0.mk hc0
  clear ho hc0 hlen
  have ftx1 : decide (5000 < x1.f8.length) = false := decide_eq_false (by omega)
  have fux1 : decide ((5000 : Int) < (x1.f8.length : Int)) = false := decide_eq_false (by omega)
  have ftx2 : decide (5000 < x2.f8.length) = false := decide_eq_false (by omega)
  have fux2 : decide ((5000 : Int) < (x2.f8.length : Int)) = false := decide_eq_false (by omega)
  have ftr : decide (5000 < r.f8.length) = false := decide_eq_false (by omega)
  have fur : decide ((5000 : Int) < (r.f8.length : Int)) = false := decide_eq_false (by omega)
  clear h5 h6 h7
  clear hm
  have HU1 := Aside0.mk (show (w.alloc (.cells (rK_ x1 Ax kx) 27)).heap.size = w.heap.size + 1 by simp)
  have HU2 := Aside0.mk (show ((w.alloc (.cells (rK_ x1 Ax kx) 27)).alloc (.cells (rK_ x2 Ay ky) 27)).heap.size = w.heap.size + 1 + 1 by simp)
  have HV0 := Aside0.mk (show (((w.alloc (.cells (rK_ x1 Ax kx) 27)).alloc (.cells (rK_ x2 Ay ky) 27)).alloc (.cells (rR_ r Ar kr) 36)).heap.size = w.heap.size + 3 by simp)
  have B1 := Aside0.mk (blk_alloc (blk_alloc (heap_alloc_new w (.cells (rK_ x1 Ax kx) 27)) (.cells (rK_ x2 Ay ky) 27)) (.cells (rR_ r Ar kr) 36))
  have B2 := Aside0.mk (HU1.out ▸ blk_alloc (heap_alloc_new (w.alloc (.cells (rK_ x1 Ax kx) 27)) (.cells (rK_ x2 Ay ky) 27)) (.cells (rR_ r Ar kr) 36))
  have B3 := Aside0.mk (HU2.out ▸ heap_alloc_new ((w.alloc (.cells (rK_ x1 Ax kx) 27)).alloc (.cells (rK_ x2 Ay ky) 27)) (.cells (rR_ r Ar kr) 36))
  have HB0 := Aside0.mk (below_alloc (below_alloc (below_alloc (Below.refl w.heap.size w) (.cells (rK_ x1 Ax kx) 27)) (.cells (rK_ x2 Ay ky) 27)) (.cells (rR_ r Ar kr) 36))
  have HC := Aside0.mk hC
  have H1 := Aside0.mk h1
  have H2 := Aside0.mk h2
  have H3 := Aside0.mk h3
  have HL1 := Aside0.mk hl1
  have HL2 := Aside0.mk hl2
  have HL3 := Aside0.mk hl3
  have HKL := Aside0.mk hk
  have HSZ := Aside0.mk hl
  clear hC h1 h2 h3 hl1 hl2 hl3 hk HU1 HU2
  go_enter Try.func5, Try.ntmps5
  go_wp2_with fail
  generalize World.alloc _ _ = W0 at B1 B2 B3 HB0 HV0 ⊢
  have HNEW := Aside0.mk (new_c id inc A k l W0 (Kd.C_below HC.out HB0.out) HKL.out HSZ.out)
  go_wp2_with (first
    | (go_at_call 6; refine HNEW.out.mono ?_; rintro e WA hP; obtain ⟨A1, k1, rfl, hC⟩ := (show ∃ A1 k1, e = .returned (.tuple #[.agg (rL_ c0 A1 k1 none 0), .int .i64 0]) ∧ CliNew WA W0.heap.size c0 A1 k1 none 0 from HC0.out ▸ hP.1 HYES.out); have hb := hP.2.2; have BZ := Aside0.mk (heap_alloc_new WA (.cells rZC_ 29)); have BK0 := Aside0.mk (blk_row BZ.out (rL_ c0 A1 k1 none 0)); have F0 := Aside0.mk (((Fr.refl (fun _ => False) WA).alloc (.cells rZC_ 29)).setRow WA.heap.size (rL_ c0 A1 k1 none 0) (fun h => absurd h (Nat.lt_irrefl _))); have HN0 := Aside0.mk (hC.fr F0.out (fun _ h => h.elim)); have FX0 := Aside0.mk ((Fr.of_below hb (fun _ => False)).then_ F0.out); have HW0 := Aside0.mk (below_then HB0.out HB0.out.size (FX0.out.below (Nat.le_refl _) (fun _ h => h.elim))); have HLO := Aside0.mk (show w.heap.size + 3 ≤ WA.heap.size by have := hb.size; have := HV0.out; omega); have HZ0 := Aside0.mk (show WA.heap.size < ((WA.alloc (.cells rZC_ 29)).setRow WA.heap.size (rL_ c0 A1 k1 none 0)).heap.size by simp); have B1 := Aside0.mk (blk_fr B1.out FX0.out (fun h => h)); have B2 := Aside0.mk (blk_fr B2.out FX0.out (fun h => h)); have B3 := Aside0.mk (blk_fr B3.out FX0.out (fun h => h)); clear hC hb hP HNEW F0 FX0; have e18 : ((WA.alloc (.cells rZC_ 29)).setRow WA.heap.size (rL_ c0 A1 k1 none 0)).cell? ⟨w.heap.size, 8, none⟩ = some (.slice Ax x1.f8.length kx) := (cells_at B1.out rfl).1; have e28 : ((WA.alloc (.cells rZC_ 29)).setRow WA.heap.size (rL_ c0 A1 k1 none 0)).cell? ⟨w.heap.size + 1, 8, none⟩ = some (.slice Ay x2.f8.length ky) := (cells_at B2.out rfl).1; have e38 : ((WA.alloc (.cells rZC_ 29)).setRow WA.heap.size (rL_ c0 A1 k1 none 0)).cell? ⟨w.heap.size + 1 + 1, 8, none⟩ = some (.slice Ar r.f8.length kr) := (cells_at B3.out rfl).1; have R1 := Aside0.mk (show ((WA.alloc (.cells rZC_ 29)).setRow WA.heap.size (rL_ c0 A1 k1 none 0)).heap[w.heap.size]? = _ from B1.out); have HC1 := Aside0.mk (HQ1.out ▸ (start_c c0 A1 k1 none 0 now x1 Ax kx ((WA.alloc (.cells rZC_ 29)).setRow WA.heap.size (rL_ c0 A1 k1 none 0)) HN0.out.in_ (Kd.C_below H1.out HW0.out) HL1.out OB0.out OC0.out OX1.out ON0.out)))
    | (refine wpList_store_row rfl 29 (.tmp 15) (.tmp 33) rfl WA.heap.size (rL_ c0 A1 k1 none 0) (by rfl) (by rfl) 29 rZC_ BZ.out (by kernel_rfl) (by rfl) (by kernel_rfl) ?_)
    | (go_at_call 8; refine HC1.out.mono ?_; rintro e W1 hP; obtain ⟨P1, p1, Q1, q1, S1, t1, rfl, hC, hS, hb⟩ := (show ∃ P1 p1 Q1 q1 S1 t1, e = .returned (.tuple #[.agg (rL_ zCli P1 p1 Q1 q1), .slice S1 ([] : List S48).length t1, .int .i64 1]) ∧ CliNew W1 ((WA.alloc (.cells rZC_ 29)).setRow WA.heap.size (rL_ c0 A1 k1 none 0)).heap.size zCli P1 p1 Q1 q1 ∧ SentNew W1 ((WA.alloc (.cells rZC_ 29)).setRow WA.heap.size (rL_ c0 A1 k1 none 0)).heap.size ([] : List S48) S1 t1 ∧ Below ((WA.alloc (.cells rZC_ 29)).setRow WA.heap.size (rL_ c0 A1 k1 none 0)).heap.size ((WA.alloc (.cells rZC_ 29)).setRow WA.heap.size (rL_ c0 A1 k1 none 0)) W1 from hP); clear hP HC1; have BKa1 := Aside0.mk (blk_below BK0.out hb); have BK1 := Aside0.mk (blk_row BKa1.out (rL_ zCli P1 p1 Q1 q1)); have F1 := Aside0.mk (((Fr.refl (fun k => k = WA.heap.size) W1)).setRow WA.heap.size (rL_ zCli P1 p1 Q1 q1) (fun h => rfl)); have FX1 := Aside0.mk ((Fr.of_below hb (fun k => k = WA.heap.size)).then_ F1.out); have HN1 := Aside0.mk (hC.fr F1.out (fun k hk => by have := HZ0.out; have := hb.size; (try simp only at hk); omega)); have HS1 := Aside0.mk (hS.fr F1.out (fun k hk => by have := HZ0.out; have := hb.size; (try simp only at hk); omega)); have B1 := Aside0.mk (blk_fr B1.out FX1.out (by have := HLO.out; omega)); have B2 := Aside0.mk (blk_fr B2.out FX1.out (by have := HLO.out; omega)); have B3 := Aside0.mk (blk_fr B3.out FX1.out (by have := HLO.out; omega)); have HZ1 := Aside0.mk (show WA.heap.size < (W1.setRow WA.heap.size (rL_ zCli P1 p1 Q1 q1)).heap.size by have := HZ0.out; have := hb.size; simp; omega); have HW1 := Aside0.mk (HW0.out.trans (FX1.out.below (b := w.heap.size) (HW0.out.size) (fun k hk => by have := HLO.out; (try simp only at hk); omega))); clear hC hS hb; clear BK0 F1 HW0 )
    | (refine wpList_load_row rfl 29 (.tmp 15) rfl WA.heap.size (by rfl) 29 (rL_ c0 A1 k1 none 0) (0, 0) _ BK0.out Try.underlying29 rfl (by kernel_rfl) ?_)
    | (refine wpList_store_row rfl 29 (.tmp 15) (.tmp 61) rfl WA.heap.size (rL_ zCli P1 p1 Q1 q1) (by rfl) (by rfl) 29 (rL_ c0 A1 k1 none 0) BKa1.out (by kernel_rfl) (by rfl) (by kernel_rfl) ?_)
    | (refine wpList_load_row rfl 27 (.tmp 10) rfl w.heap.size (by rfl) 27 (rK_ x1 Ax kx) (0, 0) _ R1.out Try.underlying27 rfl (by kernel_rfl) ?_)
    | (go_at_call 7; refine (awake_c (W1.setRow WA.heap.size (rL_ zCli P1 p1 Q1 q1))).mono ?_; rintro e WZ ⟨rfl, hbz⟩; have HZZ := Aside0.mk (below_then HW1.out HW1.out.size hbz); clear hbz))
  go_ret
  exact ⟨rfl, HZZ.out⟩
end Go.Proofs.Ytajnladoomkgaaa.Cli
