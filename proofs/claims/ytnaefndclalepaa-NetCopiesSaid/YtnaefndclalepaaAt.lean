/- A message is looked at. -/
import Derived.Test.YtnaefndclalepaaOut
namespace Go.Proofs.Ytnaefndclalepaa.Net
set_option linter.unusedVariables false
set_option linter.unusedSimpArgs false
open Go.RowKit Go.Proofs.YtnaefndclalepaaW.PrintWords Go.Proofs.YtnaefndclalepaaW.PrintLast Go.Proofs.YtnaefndclalepaaW.PrintMore Go.Proofs.Ytnaefndclalepaa.XN

/-- What is at i, and whether something is. -/
def atM (n : NetS) (i : Int) : S33 := if hasB n i = true then n.all.getD i.toNat z33 else z33
def atE (n : NetS) (i : Int) : Int := if hasB n i = true then 0 else 4
set_option maxHeartbeats 4000000 in
set_option maxRecDepth 100000 in
theorem at_none (p : Option Addr) (i : Int) (w : World) (hh : p = none ∨ ∃ g, p = some ⟨g, 0, none⟩ ∧ Calls Try.prog 32 #[.pointer (some ⟨g, 0, none⟩), .int .i64 i] (w.alloc (.cells #[.int .i64 0, .int .i64 0, .slice none 0 0] 33)) fun e w' => e = .returned (.bool false) ∧ (w.alloc (.cells #[.int .i64 0, .int .i64 0, .slice none 0 0] 33)) = w') :
    Calls Try.prog 16 #[.pointer p, .int .i64 i] w fun e w' => ∃ vb, e = .returned (.tuple #[.agg #[.int .i64 0, .int .i64 0, vb], .int .i64 4]) ∧ Kd.R (Kd.int .u8) 5 w' w.heap.size (fun _ => True) vb [] ∧ Below w.heap.size w w' := by
  have HB := Aside0.mk (below_alloc (Below.refl w.heap.size w) (.cells #[.int .i64 0, .int .i64 0, .slice none 0 0] 33))
  have BK := Aside0.mk (heap_alloc_new w (.cells #[.int .i64 0, .int .i64 0, .slice none 0 0] 33))
  obtain ⟨y0, z0⟩ := cells_at BK.out (j := 0) rfl; obtain ⟨y1, z1⟩ := cells_at BK.out (j := 1) rfl; obtain ⟨y2, z2⟩ := cells_at BK.out (j := 2) rfl
  rcases hh with rfl | ⟨g, rfl, hh⟩
  · go_enter Try.func16, Try.ntmps16
    go_wp2
    refine bodyPost_ret (results_ct rfl _ _ w.heap.size 33 #[.int .i64 0, .int .i64 0, .slice none 0 0] (0, 0) _ rfl BK.out Try.underlying33 rfl (by kernel_rfl)) rfl ?_
    exact ⟨_, rfl, Kd.R_nil _ _ _ _ _, HB.out⟩
  · have HH := Aside0.mk hh
    clear hh
    go_enter Try.func16, Try.ntmps16
    go_wp2_with (first | (go_at_call 32; refine HH.out.mono ?_; rintro e w' ⟨rfl, rfl⟩))
    refine bodyPost_ret (results_ct rfl _ _ w.heap.size 33 #[.int .i64 0, .int .i64 0, .slice none 0 0] (0, 0) _ rfl BK.out Try.underlying33 rfl (by kernel_rfl)) rfl ?_
    exact ⟨_, rfl, Kd.R_nil _ _ _ _ _, HB.out⟩
theorem at_none' (g : Nat) (fp : Nat → Prop) (n : NetS) (i : Int) (w : World) (h : IsNet w g fp n) (hh : hasB n i = false) :
    Calls Try.prog 16 #[.pointer (some ⟨g, 0, none⟩), .int .i64 i] w fun e w' => ∃ vb, e = .returned (.tuple #[.agg #[.int .i64 0, .int .i64 0, vb], .int .i64 4]) ∧ Kd.R (Kd.int .u8) 5 w' w.heap.size (fun _ => True) vb [] ∧ Below w.heap.size w w' := by
  have := has_c n g fp _ (h.fr ((Fr.refl (fun _ => False) w).alloc (.cells #[.int .i64 0, .int .i64 0, .slice none 0 0] 33)) (fun _ _ h => h)) i
  rw [hh] at this
  exact at_none _ i w (.inr ⟨g, rfl, this⟩)
/-- A new box is filled. -/
theorem box3_end {w w1 w2 : World} {v : Value} {l : List Int} (hb1 : Below w.heap.size w w1) (hs : w.heap.size < w1.heap.size) (hR : Kd.R (Kd.int .u8) 5 w2 w1.heap.size (fun _ => True) v l) (hB : Below w1.heap.size w1 w2) (va vb vc : Value) :
    Kd.R (Kd.int .u8) 5 (((w2.setCell ⟨w.heap.size, 0, none⟩ va).setCell ⟨w.heap.size, 1, none⟩ vb).setCell ⟨w.heap.size, 2, none⟩ vc) w.heap.size (fun _ => True) v l ∧ Below w.heap.size w (((w2.setCell ⟨w.heap.size, 0, none⟩ va).setCell ⟨w.heap.size, 1, none⟩ vb).setCell ⟨w.heap.size, 2, none⟩ vc) := by
  have h1 := Kd.R_bound hR
  constructor
  · refine Kd.R_mono (Kd.R_lower (Kd.R_far (p := ⟨w.heap.size, 2, none⟩) (Kd.R_far (p := ⟨w.heap.size, 1, none⟩) (Kd.R_far (p := ⟨w.heap.size, 0, none⟩) h1 (fun k hk => ?_) va) (fun k hk => ?_) vb) (fun k hk => ?_) vc) (Nat.le_of_lt hs)) (fun _ _ => trivial)
    all_goals (have := hk.2.1; show k ≠ w.heap.size; omega)
  · have h2 : Below w.heap.size w w2 := ⟨hB.os.trans hb1.os, hB.tape.trans hb1.tape, hB.output.trans hb1.output, Nat.le_trans hb1.size hB.size, fun k hk => (hB.block k (by omega)).trans (hb1.block k hk)⟩
    exact ((h2.setCell (p := ⟨w.heap.size, 0, none⟩) (Nat.le_refl _) va).setCell (p := ⟨w.heap.size, 1, none⟩) (Nat.le_refl _) vb).setCell (p := ⟨w.heap.size, 2, none⟩) (Nat.le_refl _) vc
/-- own of message m, as it is read here. -/
theorem own_c (f t : Int) (A2 : Option Addr) (c2 : Nat) (l : List Int) (w : World) (hC : Kd.C (Kd.int .u8) w A2 l.length l) (hc : l.length ≤ c2) (hl : l.length < 1000000) :
    Calls Try.prog 33 #[.agg #[.int .i64 f, .int .i64 t, .slice A2 l.length c2]] w fun e w' => ∃ v2_ : Value, e = .returned (.agg #[.int .i64 f, .int .i64 t, v2_]) ∧ Kd.R (Kd.int .u8) 5 w' w.heap.size (fun _ => True) v2_ l ∧ Below w.heap.size w w' :=
  net_own.calls f t A2 c2 l f t l w hC hc (by simp only [net_own.f, slices_Clone_byte_byte.f]; rw [if_pos (by omega)]; rfl)
set_option maxHeartbeats 4000000 in
set_option maxRecDepth 100000 in
theorem at_some (n : NetS) (g : Nat) (fp : Nat → Prop) (w : World) (h : IsNet w g fp n) (i : Nat) (hi : i < n.all.length) (hlen : ∀ m, m ∈ n.all → m.f2.length < 1000000) :
    Calls Try.prog 16 #[.pointer (some ⟨g, 0, none⟩), .int .i64 i] w fun e w' => ∃ vb, e = .returned (.tuple #[.agg #[.int .i64 n.all[i].f0, .int .i64 n.all[i].f1, vb], .int .i64 0]) ∧ Kd.R (Kd.int .u8) 5 w' w.heap.size (fun _ => True) vb n.all[i].f2 ∧ Below w.heap.size w w' := by
  have HB0 := Aside0.mk (below_alloc (Below.refl w.heap.size w) (.cells #[.int .i64 0, .int .i64 0, .slice none 0 0] 33))
  have BK0 := Aside0.mk (heap_alloc_new w (.cells #[.int .i64 0, .int .i64 0, .slice none 0 0] 33))
  have I0 := Aside0.mk (h.fr ((Fr.refl (fun _ => False) w).alloc (.cells #[.int .i64 0, .int .i64 0, .slice none 0 0] 33)) (fun _ _ h => h))
  have hhas := fun w (h : IsNet w g fp n) => has_c n g fp w h i
  have hv : hasB n i = true := by simp [hasB, hi]
  rw [hv] at hhas
  have HH := Aside0.mk hhas
  clear hhas hv h
  obtain ⟨b, c, A2, cc2, c0, c1, c2, c3, hl2, hF, hlc⟩ := I0.out.elem i hi
  have HC := Aside0.mk (Kd.F_now hF)
  have HLL := Aside0.mk (hlen n.all[i] (List.getElem_mem hi))
  have HL2 := Aside0.mk hl2
  clear hF hlen hl2
  have hq0 : (i : Int) < (n.all.length : Int) := by omega
  have hq1 : 0 ≤ (i : Int) := by omega
  generalize n.all[i].f0 = f at *
  generalize n.all[i].f1 = t at *
  generalize n.all[i].f2 = l at *
  go_enter Try.func16, Try.ntmps16
  go_wp2_with (first
    | (go_at_call 32; refine (HH.out _ I0.out).mono ?_; rintro e w' ⟨rfl, rfl⟩)
    | (go_at_call 33; generalize (w.alloc (.cells #[.int .i64 0, .int .i64 0, .slice none 0 0] 33)) = w1 at *; refine (own_c _ _ _ _ _ _ HC.out HL2.out HLL.out).mono ?_; rintro e w2 ⟨vb, rfl, hR, hB⟩; have HR2 := Aside0.mk hR; have HB2 := Aside0.mk hB; clear hR hB c0 c1 c2 c3; obtain ⟨Ab, cb, rfl⟩ := Kd.R_slice HR2.out; have BK2 := Aside0.mk (blk_below BK0.out HB2.out); obtain ⟨y0, z0⟩ := cells_at BK2.out (j := 0) rfl; obtain ⟨y1, z1⟩ := cells_at BK2.out (j := 1) rfl; obtain ⟨y2, z2⟩ := cells_at BK2.out (j := 2) rfl))
  refine bodyPost_ret (results_ct rfl _ _ w.heap.size 33 #[.int .i64 f, .int .i64 t, .slice Ab l.length cb] (0, 0) _ rfl (by refine blk_put (cs := #[.int .i64 f, .int .i64 t, .slice none 0 0]) ?_ 2 _ rfl; refine blk_put (cs := #[.int .i64 f, .int .i64 0, .slice none 0 0]) ?_ 1 _ rfl; refine blk_put (cs := #[.int .i64 0, .int .i64 0, .slice none 0 0]) ?_ 0 _ rfl; exact BK2.out) Try.underlying33 rfl (by kernel_rfl)) rfl ?_
  have he := box3_end HB0.out (blk_lt BK0.out) HR2.out HB2.out (.int .i64 f) (.int .i64 t) (.slice Ab l.length cb)
  exact ⟨_, rfl, he.1, he.2⟩
theorem at_r (n : NetS) (p : Option Addr) (fp : Nat → Prop) (w : World) (h : Recv w p fp n) (i : Int) (hlen : ∀ m, m ∈ n.all → m.f2.length < 1000000) :
    Calls Try.prog 16 #[.pointer p, .int .i64 i] w fun e w' => ∃ vb, e = .returned (.tuple #[.agg #[.int .i64 (atM n i).f0, .int .i64 (atM n i).f1, vb], .int .i64 (atE n i)]) ∧ Kd.R (Kd.int .u8) 5 w' w.heap.size (fun _ => True) vb (atM n i).f2 ∧ Below w.heap.size w w' := by
  unfold atM atE
  by_cases hh : hasB n i = true
  · rw [if_pos hh, if_pos hh]
    have hh2 := hh
    simp [hasB] at hh2
    rcases h with ⟨rfl, rfl⟩ | ⟨g, rfl, h⟩
    · simp at hh2; omega
    · obtain ⟨k, rfl⟩ := Int.eq_ofNat_of_zero_le hh2.1
      have hk : k < n.all.length := by omega
      have := at_some n g fp w h k hk hlen
      rw [show n.all.getD ((k : Int)).toNat z33 = n.all[k] by simp [hk]]
      exact this
  · rw [if_neg hh, if_neg hh]
    rcases h with ⟨rfl, rfl⟩ | ⟨g, rfl, h⟩
    · exact at_none none i w (.inl rfl)
    · refine at_none' g fp n i w h (Bool.eq_false_iff.2 hh)
end Go.Proofs.Ytnaefndclalepaa.Net
