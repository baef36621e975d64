/- The small calls on work: the next broker, whether a reply is to the call, how long ago. -/
import Derived.Test.YtajnladoomkgaaaAsk
namespace Go.Proofs.Ytajnladoomkgaaa.Cli
set_option linter.unusedVariables false
set_option linter.unusedSimpArgs false
open RowOf Go.RowKit Go.Proofs.YtajnladoomkgaaaW.PrintWords Go.Proofs.YtajnladoomkgaaaW.PrintLast Go.Proofs.YtajnladoomkgaaaW.PrintMore Go.Proofs.Ytajnladoomkgaaa.XC

theorem u64_in (n : Int) (h0 : 0 ≤ n) (h1 : n < 18446744073709551616) : IntKind.u64.wrap n = n := by
  have e : IntKind.u64.wrap n = n % 18446744073709551616 := by rfl
  rw [e]; omega
def nextC (c : CliS) : CliS := if c.At < 0 ∨ (c.Br.length : Int) - 1 ≤ c.At then { c with At := 0 } else { c with At := c.At + 1 }
def mineB (c : CliS) (r : S36) : Bool := c.Busy == 1 && r.f0 == c.Call.f0 && r.f1 == c.Call.f1 && r.f2 == c.Call.f2
def afterI (now then_ : Int) : Int := if now < then_ then 0 else now - then_
theorem IsWk.setAt {W : World} {base g : Nat} {c : CliS} {now : Int} {s : List S48} (h : IsWk W base g c now s) (m : Nat) (i : Int) : IsWk ((W.drewN m).setCell ⟨g, 14, none⟩ (.int .i64 i)) base g { c with At := i } now s ∧ Fr (fun k => k = g) W ((W.drewN m).setCell ⟨g, 14, none⟩ (.int .i64 i)) := by
  obtain ⟨A1, k1, A2, k2, A3, k3, hb, l1, f1, l2, f2, l3, f3, hg, hn⟩ := h
  have bq := blk_set (blk_drewN hb m) 14 (.int .i64 i)
  simp only [List.setIfInBounds_toArray, List.set_cons_zero, List.set_cons_succ] at bq
  have hfr : Fr (fun k => k = g) W ((W.drewN m).setCell ⟨g, 14, none⟩ (.int .i64 i)) := ((Fr.refl (fun k => k = g) W).drewN m).setCell (p := ⟨g, 14, none⟩) (S := fun k => k = g) (fun _ => rfl) _
  have hk : ∀ k, base ≤ k ∧ k ≠ g → k < W.heap.size → ((W.drewN m).setCell ⟨g, 14, none⟩ (.int .i64 i)).heap[k]? = W.heap[k]? := fun k hk hlt => hfr.block k hlt hk.2
  exact ⟨⟨A1, k1, A2, k2, A3, k3, bq, l1, Kd.F_step f1 hk, l2, Kd.F_step f2 hk, l3, Kd.F_step f3 hk, hg, hn⟩, hfr⟩
theorem IsWk.cells {W : World} {base g : Nat} {c : CliS} {now : Int} {s : List S48} (h : IsWk W base g c now s) : ∃ A1 k1, W.cell? ⟨g, 3, none⟩ = some (.slice A1 c.Br.length k1) ∧ W.cell? ⟨g, 14, none⟩ = some (.int .i64 c.At) ∧ W.frozen? ⟨g, 14, none⟩ = false ∧ W.cell? ⟨g, 4, none⟩ = some (.int .i64 c.Busy) ∧ W.cell? ⟨g, 5, none⟩ = some (.int .i64 c.Call.f0) ∧ W.cell? ⟨g, 6, none⟩ = some (.int .u64 c.Call.f1) ∧ W.cell? ⟨g, 7, none⟩ = some (.int .u64 c.Call.f2) ∧ W.cell? ⟨g, 17, none⟩ = some (.int .u64 now) ∧ W.cell? ⟨g, 15, none⟩ = some (.int .u64 c.Born) ∧ W.cell? ⟨g, 16, none⟩ = some (.int .u64 c.Since) ∧ W.frozen? ⟨g, 4, none⟩ = false ∧ c.Br.length ≤ k1 ∧ Kd.C (Kd.int .i64) W A1 c.Br.length c.Br := by
  obtain ⟨A1, k1, A2, k2, A3, k3, hb, l1, f1, l2, f2, l3, f3, hg, hn⟩ := h
  exact ⟨A1, k1, (cells_at hb rfl).1, (cells_at hb rfl).1, blk_frozen hb 14, (cells_at hb rfl).1, (cells_at hb rfl).1, (cells_at hb rfl).1, (cells_at hb rfl).1, (cells_at hb rfl).1, (cells_at hb rfl).1, (cells_at hb rfl).1, blk_frozen hb 4, l1, Kd.F_now f1⟩
set_option maxHeartbeats 8000000 in
set_option maxRecDepth 100000 in
theorem next_c (c : CliS) (base g : Nat) (now : Int) (s : List S48) (w : World) (h : IsWk w base g c now s) (hbig : c.Br.length < 1000000) :
    Calls Try.prog 28 #[.pointer (some ⟨g, 0, none⟩)] w fun e w' => e = .returned (.tuple #[]) ∧ IsWk w' base g (nextC c) now s ∧ Fr (fun k => k = g) w w' := by
  obtain ⟨A1, k1, g3, g14, z14, _, _, _, _, _, _, _, _, _, _⟩ := h.cells
  have HS := Aside0.mk (fun m i => h.setAt m i)
  clear h
  by_cases h0 : c.At < 0
  · have HV := Aside0.mk (show nextC c = { c with At := 0 } by unfold nextC; rw [if_pos (.inl h0)])
    generalize c.At = at_ at g14 h0
    have e0 : decide (at_ < 0) = true := by simpa using h0
    go_enter Try.func28, Try.ntmps28
    go_wp2
    go_quiet (fail)
    go_wp2
    refine bodyPost_ret (results_none rfl _ _ _) rfl ?_
    exact ⟨rfl, by rw [HV.out]; exact HS.out _ _⟩
  · by_cases h1 : (c.Br.length : Int) - 1 ≤ c.At
    · have HV := Aside0.mk (show nextC c = { c with At := 0 } by unfold nextC; rw [if_pos (.inr h1)])
      generalize c.At = at_ at g14 h0 h1
      generalize c.Br.length = n at g3 h1 hbig
      have e0 : decide (at_ < 0) = false := by simpa using h0
      have e1 : decide ((n : Int) - 1 ≤ at_) = true := by simpa using h1
      have e2 : IntKind.i64.wrap ((n : Int) - 1) = (n : Int) - 1 := IntWalk.i64_in _ (by omega)
      have e3 : wrap64 ((n : Int) - 1) = (n : Int) - 1 := by unfold wrap64; omega
      clear h1
      go_enter Try.func28, Try.ntmps28
      go_wp2
      go_quiet (fail)
      go_wp2
      refine bodyPost_ret (results_none rfl _ _ _) rfl ?_
      exact ⟨rfl, by rw [HV.out]; exact HS.out _ _⟩
    · have HV := Aside0.mk (show nextC c = { c with At := c.At + 1 } by unfold nextC; rw [if_neg (by omega)])
      have HV2 := Aside0.mk (show wrap64 (c.At + 1) = c.At + 1 by unfold wrap64; omega)
      generalize c.At = at_ at g14 h0 h1 HV HV2
      generalize c.Br.length = n at g3 h1 hbig
      have e0 : decide (at_ < 0) = false := by simpa using h0
      have e1 : decide ((n : Int) - 1 ≤ at_) = false := by simpa using h1
      have e2 : IntKind.i64.wrap ((n : Int) - 1) = (n : Int) - 1 := IntWalk.i64_in _ (by omega)
      have e3 : wrap64 ((n : Int) - 1) = (n : Int) - 1 := by unfold wrap64; omega
      clear h1
      go_enter Try.func28, Try.ntmps28
      go_wp2
      go_quiet (fail)
      have e4 := HV2.out
      go_wp2
      go_end0
      exact ⟨rfl, by rw [HV.out]; exact HS.out _ _⟩
set_option maxHeartbeats 8000000 in
set_option maxRecDepth 100000 in
theorem after_c (c : CliS) (base g : Nat) (now : Int) (s : List S48) (w : World) (h : IsWk w base g c now s) (then_ : Int) (h0 : 0 ≤ then_) (h1 : now < 18446744073709551616) :
    Calls Try.prog 30 #[.pointer (some ⟨g, 0, none⟩), .int .u64 then_] w fun e w' => e = .returned (.int .u64 (afterI now then_)) ∧ w = w' := by
  obtain ⟨A1, k1, g3, g14, z14, _, _, _, _, g17, _, _, _, _, _⟩ := h.cells
  clear h
  by_cases hlt : now < then_
  · have HV := Aside0.mk (show afterI now then_ = 0 by unfold afterI; rw [if_pos hlt])
    have hd : decide (now < then_) = true := by simpa using hlt
    go_enter Try.func30, Try.ntmps30
    go_wp2
    go_ret
    exact ⟨by rw [HV.out]; rfl, rfl⟩
  · have HV := Aside0.mk (show afterI now then_ = now - then_ by unfold afterI; rw [if_neg hlt])
    have hd : decide (now < then_) = false := by simpa using hlt
    have hw : IntKind.u64.wrap (now - then_) = now - then_ := u64_in _ (by omega) (by omega)
    go_enter Try.func30, Try.ntmps30
    go_wp2
    go_ret
    exact ⟨by rw [HV.out]; rfl, rfl⟩
set_option maxHeartbeats 8000000 in
set_option maxRecDepth 100000 in
theorem mine_c (c : CliS) (base g : Nat) (now : Int) (s : List S48) (w : World) (h : IsWk w base g c now s) (r : S36) (A : Option Addr) (k : Nat) :
    Calls Try.prog 26 #[.pointer (some ⟨g, 0, none⟩), .agg (rR_ r A k)] w fun e w' => e = .returned (.bool (mineB c r)) ∧ Below w.heap.size w w' := by
  have hI := h.below (below_alloc (Below.refl _ _) (.cells (rR_ r A k) 36))
  obtain ⟨A1, k1, g3, g14, z14, g4, g5, g6, g7, g17, _, _, _, _, _⟩ := hI.cells
  have hlt := h.lt
  have HB := Aside0.mk (below_alloc (Below.refl w.heap.size w) (.cells (rR_ r A k) 36))
  clear h hI g3 g14 z14 g17
  generalize hbz : c.Busy = b1 at g4
  generalize hc0 : c.Call.f0 = b2 at g5
  generalize hc1 : c.Call.f1 = b3 at g6
  generalize hc2 : c.Call.f2 = b4 at g7
  have HV := Aside0.mk (show mineB c r = (b1 == 1 && r.f0 == b2 && r.f1 == b3 && r.f2 == b4) by unfold mineB; rw [hbz, hc0, hc1, hc2])
  clear hbz hc0 hc1 hc2
  cases q1 : (b1 == 1)
  all_goals cases q2 : (r.f0 == b2)
  all_goals cases q3 : (r.f1 == b3)
  all_goals cases q4 : (r.f2 == b4)
  all_goals (
    have HW := Aside0.mk (show mineB c r = _ by rw [HV.out, q1, q2, q3, q4])
    clear HV
    go_enter Try.func26, Try.ntmps26
    go_wp2
    go_quiet (fail)
    go_wp2
    go_ret
    exact ⟨by rw [HW.out]; rfl, pw_below_drewN HB.out _⟩)
end Go.Proofs.Ytajnladoomkgaaa.Cli
