/- New. -/
import Derived.Test.YtnaefndclalepaaFind
namespace Go.Proofs.Ytnaefndclalepaa.Net
set_option linter.unusedVariables false
set_option linter.unusedSimpArgs false
open Go.RowKit Go.Shelf Go.Proofs.YtnaefndclalepaaW.PrintWords Go.Proofs.YtnaefndclalepaaW.PrintLast Go.Proofs.YtnaefndclalepaaW.PrintMore Go.Proofs.Ytnaefndclalepaa.XN
set_option maxHeartbeats 4000000 in
set_option maxRecDepth 100000 in
theorem new_no (m : Int) (w : World) (h : m < 1 ∨ 15 < m) : Calls Try.prog 9 #[.int .i64 m] w fun e w' => e = .returned (.tuple #[.pointer none, .int .i64 1]) ∧ w = w' := by
  by_cases h1 : m < 1
  · go_enter Try.func9, Try.ntmps9
    go_wp2
    refine bodyPost_ret (results_list (rs := [.tmp 2, .tmp 3]) rfl (by simp) (.tmp (.tmp .nil))) rfl ?_
    exact ⟨rfl, rfl⟩
  · have h2 : 15 < m := by omega
    have e1 : decide (m < 1) = false := by simpa using h1
    go_enter Try.func9, Try.ntmps9
    go_wp2
    refine bodyPost_ret (results_list (rs := [.tmp 2, .tmp 3]) rfl (by simp) (.tmp (.tmp .nil))) rfl ?_
    exact ⟨rfl, rfl⟩
theorem zero56 : ∃ Z : Array Value, (∀ w, (zeroValue 56).run Try.prog w = .ok (.agg Z) w) ∧ Z.size = 259 ∧ ∀ i, i < 256 → Z[3 + i]? = some (.bool false) := by
  refine ⟨#[.slice none 0 0, .int .i64 0, .int .i64 0] ++ Array.replicate 256 (.bool false), fun w => by kernel_rfl, by simp, fun i hi => ?_⟩
  rw [Array.getElem?_append_right (by simp)]
  simp [hi]
set_option maxHeartbeats 4000000 in
set_option maxRecDepth 100000 in
theorem new_ok (m : Int) (w : World) (h1 : 1 ≤ m) (h2 : m ≤ 15) : Calls Try.prog 9 #[.int .i64 m] w fun e w' => e = .returned (.tuple #[.pointer (some ⟨w.heap.size, 0, none⟩), .int .i64 0]) ∧ IsNet w' w.heap.size (fun k => k = w.heap.size) ⟨[], 64, m, fun _ => false⟩ ∧ Below w.heap.size w w' := by
  have e1 : decide (m < 1) = false := by simpa using h1
  have e2 : decide (15 < m) = false := by simpa using h2
  obtain ⟨Z, hz, hzs, hzc⟩ := zero56
  have HZ := Aside0.mk (And.intro hzs hzc)
  clear hzc
  go_enter Try.func9, Try.ntmps9
  go_wp2
  refine bodyPost_ret (results_list (rs := [.tmp 2, .tmp 3]) rfl (by simp) (.tmp (.tmp .nil))) rfl ?_
  refine ⟨rfl, ⟨_, .slice none 0 0, heap_alloc_new w _, by simp [hzs], ?_, ?_, ?_, fun i hi => ?_, rfl, fun k hk => by subst hk; simp, Kd.N_nil _ _ _ _ _⟩, below_alloc (Below.refl _ _) _⟩
  · simp [Array.getElem?_setIfInBounds, hzs]
  · simp [Array.getElem?_setIfInBounds, hzs]
  · simp [Array.getElem?_setIfInBounds, hzs]
  · rw [Array.getElem?_setIfInBounds_ne (by omega), Array.getElem?_setIfInBounds_ne (by omega), Array.getElem?_setIfInBounds_ne (by omega)]
    exact HZ.out.2 i hi
set_option maxHeartbeats 4000000 in
set_option maxRecDepth 100000 in
theorem copy_no (n : NetS) (p : Option Addr) (fp : Nat → Prop) (w : World) (h : Recv w p fp n) (hm : n.nodes = 0) : Calls Try.prog 21 #[.pointer p] w fun e w' => e = .returned (.pointer none) ∧ w = w' := by
  have hn := nodes_r n p fp w h
  rw [hm] at hn
  have HN := Aside0.mk hn
  clear hn h hm
  go_enter Try.func21, Try.ntmps21
  go_wp2_with (go_at_call 25; refine HN.out.mono ?_; rintro e w' ⟨rfl, rfl⟩)
  go_ret
  exact ⟨rfl, rfl⟩
end Go.Proofs.Ytnaefndclalepaa.Net
