/- A message is put behind the others. -/
import Derived.Test.YtnaefndclalepaaLink
namespace Go.Proofs.Ytnaefndclalepaa.Net
set_option linter.unusedVariables false
set_option linter.unusedSimpArgs false
open Go.RowKit Go.Proofs.YtnaefndclalepaaW.PrintWords Go.Proofs.YtnaefndclalepaaW.PrintLast Go.Proofs.YtnaefndclalepaaW.PrintMore Go.Proofs.Ytnaefndclalepaa.XN
def put.T1 : Bool × List (List Nat × List Nat) := (true, [([], []), ([0], [0]), ([1], [1]), ([2], [2]), ([3], [3]), ([], []), ([5], [5]), ([6], [6]), ([7], [7]), ([4, 8], [4, 8])])
def put.B1 : List Nat := [0, 1, 3, 7, 15, 0, 32, 96, 224, 511]
theorem put.tab1 : rtab .any (opsOf Try.f28 1) = put.T1 := by kernel_rfl
theorem put.bits1 : waitsOk put.T1.2 put.B1 = true := by kernel_rfl
def put.T3 : Bool × List (List Nat × List Nat) := (true, [([], []), ([], []), ([1], [1]), ([2], [2]), ([3], [3]), ([], []), ([5], [5]), ([4, 6], [4, 6]), ([0, 0, 1, 2, 3, 4, 5, 6, 7], [0]), ([8, 0, 1, 2, 3, 4, 5, 6, 7], [8]), ([9, 7, 7, 0, 1, 2, 3, 4, 5, 6, 7], [7, 9])])
def put.B3 : List Nat := [0, 0, 2, 6, 14, 0, 32, 126, 255, 511, 1023]
theorem put.tab3 : rtab .any (opsOf Try.f28 3) = put.T3 := by kernel_rfl
theorem put.bits3 : waitsOk put.T3.2 put.B3 = true := by kernel_rfl
set_option maxHeartbeats 2000000 in
set_option maxRecDepth 100000 in
theorem put_full (n : NetS) (g : Nat) (fp q : Nat → Prop) (w : World) (h : IsNet w g fp n) (f t : Int) (Am : Option Addr) (cm : Nat) (l : List Int) (hm : Kd.F (Kd.int .u8) w q Am l.length l) (hcm : l.length ≤ cm) (hq : ∀ k, q k → k < w.heap.size ∧ ¬ fp k) (hfull : n.most ≤ n.all.length) :
    Calls Try.prog 28 #[.pointer (some ⟨g, 0, none⟩), .agg #[.int .i64 f, .int .i64 t, .slice Am l.length cm]] w fun e w' => e = .returned (.bool false) ∧ IsNet w' g fp n ∧ Fr fp w w' := by
  have F0 := Aside0.mk ((Fr.refl fp w).alloc (.cells #[.int .i64 f, .int .i64 t, .slice Am l.length cm] 33))
  have I0 := Aside0.mk (h.fr ((Fr.refl (fun _ => False) w).alloc (.cells #[.int .i64 f, .int .i64 t, .slice Am l.length cm] 33)) (fun _ _ h => h))
  have M0 := Aside0.mk (Kd.F_alloc hm (.cells #[.int .i64 f, .int .i64 t, .slice Am l.length cm] 33))
  have BK0 := Aside0.mk (show (w.alloc (.cells #[.int .i64 f, .int .i64 t, .slice Am l.length cm] 33)).heap[w.heap.size]? = some (.cells #[.int .i64 f, .int .i64 t, .slice Am l.length cm] 33 (0, 0)) by simpa using heap_alloc_new w _)
  have HQ := Aside0.mk hq
  have HG := Aside0.mk (show g < w.heap.size by obtain ⟨_, _, hb, _⟩ := h; exact blk_lt hb)
  clear h hm hq
  obtain ⟨A, c, h0, h1, h2, hc, hl2, hC⟩ := I0.out.open_
  clear hc hC h2 hl2
  have h0d : (w.alloc (.cells #[.int .i64 f, .int .i64 t, .slice Am l.length cm] 33)).drew.cell? ⟨g, 0, none⟩ = some (.slice A n.all.length c) := h0
  have h1d : (w.alloc (.cells #[.int .i64 f, .int .i64 t, .slice Am l.length cm] 33)).drew.cell? ⟨g, 1, none⟩ = some (.int .i64 n.most) := h1
  go_enter Try.func28, Try.ntmps28
  go_wp2
  refine start_ (n := 10) (S := fun w' => w'.cell? ⟨g, 0, none⟩ = some (.slice A n.all.length c) ∧ w'.cell? ⟨g, 1, none⟩ = some (.int .i64 n.most)) (ds := []) #[false, false, false, false, false, false, false, false, false, false] (by kernel_rfl) rfl rfl ⟨by simpa using h0d, by simpa using h1d⟩ (fun hHeld => ?_)
  refine with_tabW put.tab1 put.bits1 (fun HT_ HW_ => ?_)
  -- 0: Op.move
  refine pure_ (i := 0) (N := some 5) (v := ?_) (a' := ?_) #[true, false, false, false, false, false, false, false, false, false] rfl rfl (any_of HT_.out (by kernel_rfl)) (fun _ _ _ h => h) (Or.inl ⟨by rfl, ?_⟩) ?_ ?_
  rotate_left; (intro w'; go_simp; with_reducible rfl); rotate_left; (simp only [Act.put, List.setIfInBounds_toArray, List.set_cons_zero, List.set_cons_succ, i64_w, i32_w]; rfl)
  -- 1: Op.nilCheck
  refine pure_ (i := 1) (N := some 6) (v := ?_) (a' := ?_) #[true, true, false, false, false, false, false, false, false, false] rfl rfl (any_of HT_.out (by kernel_rfl)) (fun _ _ _ h => h) (Or.inl ⟨by rfl, ?_⟩) ?_ ?_
  rotate_left; (intro w'; go_simp; with_reducible rfl); rotate_left; (simp only [Act.put, List.setIfInBounds_toArray, List.set_cons_zero, List.set_cons_succ, i64_w, i32_w]; rfl)
  -- 2: Op.fieldAddr
  refine pure_ (i := 2) (N := some 7) (v := ?_) (a' := ?_) #[true, true, true, false, false, false, false, false, false, false] rfl rfl (any_of HT_.out (by kernel_rfl)) (fun _ _ _ h => h) (Or.inl ⟨by rfl, ?_⟩) ?_ ?_
  rotate_left; (intro w'; go_simp; with_reducible rfl); rotate_left; (simp only [Act.put, List.setIfInBounds_toArray, List.set_cons_zero, List.set_cons_succ, i64_w, i32_w]; rfl)
  -- 5: Op.move
  refine pure_ (i := 5) (N := some 10) (v := ?_) (a' := ?_) #[true, true, true, false, false, true, false, false, false, false] rfl rfl (any_of HT_.out (by kernel_rfl)) (fun _ _ _ h => h) (Or.inl ⟨by rfl, ?_⟩) ?_ ?_
  rotate_left; (intro w'; go_simp; with_reducible rfl); rotate_left; (simp only [Act.put, List.setIfInBounds_toArray, List.set_cons_zero, List.set_cons_succ, i64_w, i32_w]; rfl)
  -- 6: Op.nilCheck
  refine pure_ (i := 6) (N := some 11) (v := ?_) (a' := ?_) #[true, true, true, false, false, true, true, false, false, false] rfl rfl (any_of HT_.out (by kernel_rfl)) (fun _ _ _ h => h) (Or.inl ⟨by rfl, ?_⟩) ?_ ?_
  rotate_left; (intro w'; go_simp; with_reducible rfl); rotate_left; (simp only [Act.put, List.setIfInBounds_toArray, List.set_cons_zero, List.set_cons_succ, i64_w, i32_w]; rfl)
  -- 7: Op.fieldAddr
  refine pure_ (i := 7) (N := some 12) (v := ?_) (a' := ?_) #[true, true, true, false, false, true, true, true, false, false] rfl rfl (any_of HT_.out (by kernel_rfl)) (fun _ _ _ h => h) (Or.inl ⟨by rfl, ?_⟩) ?_ ?_
  rotate_left; (intro w'; go_simp; with_reducible rfl); rotate_left; (simp only [Act.put, List.setIfInBounds_toArray, List.set_cons_zero, List.set_cons_succ, i64_w, i32_w]; rfl)
  -- 3: Op.load
  refine take_ (i := 3) (N := some 8) (v := ?_) (a' := ?_) #[true, true, true, true, false, true, true, true, false, false] rfl rfl (take_ofW HT_.out HW_.out (by kernel_rfl)) (fun _ _ _ h => h) (Or.inl ⟨by rfl, ?_⟩) hHeld ?_ ?_
  rotate_left; (rintro w' ⟨s0, s1⟩; go_simp; with_reducible rfl); rotate_left; (simp only [Act.put, List.setIfInBounds_toArray, List.set_cons_zero, List.set_cons_succ, i64_w, i32_w]; rfl)
  -- 4: Op.call
  refine pure_ (i := 4) (N := some 9) (v := ?_) (a' := ?_) #[true, true, true, true, true, true, true, true, false, false] rfl rfl (any_of HT_.out (by kernel_rfl)) (fun _ _ _ h => h) (Or.inl ⟨by rfl, ?_⟩) ?_ ?_
  rotate_left; (intro w'; go_simp; with_reducible rfl); rotate_left; (simp only [Act.put, List.setIfInBounds_toArray, List.set_cons_zero, List.set_cons_succ, i64_w, i32_w]; rfl)
  -- 8: Op.load
  refine take_ (i := 8) (N := some 13) (v := ?_) (a' := ?_) #[true, true, true, true, true, true, true, true, true, false] rfl rfl (take_ofW HT_.out HW_.out (by kernel_rfl)) (fun _ _ _ h => h) (Or.inl ⟨by rfl, ?_⟩) hHeld ?_ ?_
  rotate_left; (rintro w' ⟨s0, s1⟩; go_simp; with_reducible rfl); rotate_left; (simp only [Act.put, List.setIfInBounds_toArray, List.set_cons_zero, List.set_cons_succ, i64_w, i32_w]; rfl)
  -- 9: Op.binOp
  refine pure_ (i := 9) (N := some 14) (v := ?_) (a' := ?_) #[true, true, true, true, true, true, true, true, true, true] rfl rfl (any_of HT_.out (by kernel_rfl)) (fun _ _ _ h => h) (Or.inl ⟨by rfl, ?_⟩) ?_ ?_
  rotate_left; (intro w'; go_simp; with_reducible rfl); rotate_left; (simp only [Act.put, List.setIfInBounds_toArray, List.set_cons_zero, List.set_cons_succ, i64_w, i32_w]; rfl)
  refine done_ (done_of HT_.out (by kernel_rfl)) ?_
  have e1 : decide (n.most ≤ (n.all.length : Int)) = true := by simpa using hfull
  go_wp2
  go_ret
  exact ⟨rfl, I0.out.drew, F0.out.drew⟩

theorem info33 : (Try.prog.info? 33).map (fun i => (i.zero, i.size, i.bytes)) = some (some (.agg #[.int .i64 0, .int .i64 0, .slice none 0 0]), 3, 40) := by kernel_rfl
/-- A net whose row of messages is another one. -/
theorem IsNet.setAll {W : World} {g : Nat} {fp : Nat → Prop} {n : NetS} {cs : Array Value} {vA : Value} (hb : W.heap[g]? = some (.cells cs 56 (0, 0))) (hsz : cs.size = 259) (h1 : cs[1]? = some (.int .i64 n.most)) (h2 : cs[2]? = some (.int .i64 n.nodes))
    (hc : ∀ i, i < 256 → cs[3 + i]? = some (.bool (n.cut i))) (hg : fp g) {S : Nat → Prop} {l : List S33} (hN : Kd.N k33 33 W 0 (fun k => S k ∧ k ≠ g) vA l) (hS : ∀ k, S k → fp k) (hlt : ∀ k, fp k → k < W.heap.size) :
    IsNet (W.setCell ⟨g, 0, none⟩ vA) g fp { n with all := l } := by
  refine ⟨cs.setIfInBounds 0 vA, vA, blk_set hb 0 vA, by simpa using hsz, ?_, ?_, ?_, ?_, hg, ?_, ?_⟩
  · rw [Array.getElem?_setIfInBounds_self_of_lt (by omega)]
  · rw [Array.getElem?_setIfInBounds_ne (by omega)]; exact h1
  · rw [Array.getElem?_setIfInBounds_ne (by omega)]; exact h2
  · intro i hi
    rw [Array.getElem?_setIfInBounds_ne (by omega)]; exact hc i hi
  · intro k hk
    exact Nat.lt_of_lt_of_le (hlt k hk) (Below.setCell (Below.refl 0 W) (p := ⟨g, 0, none⟩) (Nat.zero_le _) vA).size
  · exact Kd.N_mono (Kd.N_far hN (fun k hk => hk.2) _) (fun k hk => ⟨hS k hk.1, hk.2⟩)
set_option maxHeartbeats 4000000 in
set_option maxRecDepth 100000 in
theorem put_ok (n : NetS) (g : Nat) (fp q : Nat → Prop) (w : World) (h : IsNet w g fp n) (f t : Int) (Am : Option Addr) (cm : Nat) (l : List Int) (hm : Kd.F (Kd.int .u8) w q Am l.length l) (hcm : l.length ≤ cm) (hq : ∀ k, q k → k < w.heap.size ∧ ¬ fp k) (hroom : n.all.length < n.most) (hlen : n.all.length < 1000000) :
    Calls Try.prog 28 #[.pointer (some ⟨g, 0, none⟩), .agg #[.int .i64 f, .int .i64 t, .slice Am l.length cm]] w fun e w' => e = .returned (.bool true) ∧ (∃ fp' : Nat → Prop, IsNet w' g fp' { n with all := n.all ++ [⟨f, t, l⟩] } ∧ (∀ k, fp' k → fp k ∨ q k ∨ w.heap.size ≤ k)) ∧ Fr fp w w' := by
  have HLEN := Aside0.mk hlen
  clear hlen
  have F0 := Aside0.mk ((Fr.refl fp w).alloc (.cells #[.int .i64 f, .int .i64 t, .slice Am l.length cm] 33))
  have I0 := Aside0.mk (h.fr ((Fr.refl (fun _ => False) w).alloc (.cells #[.int .i64 f, .int .i64 t, .slice Am l.length cm] 33)) (fun _ _ h => h))
  have M0 := Aside0.mk (Kd.F_alloc hm (.cells #[.int .i64 f, .int .i64 t, .slice Am l.length cm] 33))
  have BK0 := Aside0.mk (show (w.alloc (.cells #[.int .i64 f, .int .i64 t, .slice Am l.length cm] 33)).heap[w.heap.size]? = some (.cells #[.int .i64 f, .int .i64 t, .slice Am l.length cm] 33 (0, 0)) by simpa using heap_alloc_new w _)
  have HQ := Aside0.mk hq
  have HG := Aside0.mk (show g < w.heap.size by obtain ⟨_, _, hb, _⟩ := h; exact blk_lt hb)
  clear h hm hq
  obtain ⟨A, c, h0, h1, h2, hc, hl2, hC⟩ := I0.out.open_
  clear hc hC h2 hl2
  have h0d : (w.alloc (.cells #[.int .i64 f, .int .i64 t, .slice Am l.length cm] 33)).drew.cell? ⟨g, 0, none⟩ = some (.slice A n.all.length c) := h0
  have h1d : (w.alloc (.cells #[.int .i64 f, .int .i64 t, .slice Am l.length cm] 33)).drew.cell? ⟨g, 1, none⟩ = some (.int .i64 n.most) := h1
  go_enter Try.func28, Try.ntmps28
  go_wp2
  refine start_ (n := 10) (S := fun w' => w'.cell? ⟨g, 0, none⟩ = some (.slice A n.all.length c) ∧ w'.cell? ⟨g, 1, none⟩ = some (.int .i64 n.most)) (ds := []) #[false, false, false, false, false, false, false, false, false, false] (by kernel_rfl) rfl rfl ⟨by simpa using h0d, by simpa using h1d⟩ (fun hHeld => ?_)
  refine with_tabW put.tab1 put.bits1 (fun HT_ HW_ => ?_)
  -- 0: Op.move
  refine pure_ (i := 0) (N := some 5) (v := ?_) (a' := ?_) #[true, false, false, false, false, false, false, false, false, false] rfl rfl (any_of HT_.out (by kernel_rfl)) (fun _ _ _ h => h) (Or.inl ⟨by rfl, ?_⟩) ?_ ?_
  rotate_left; (intro w'; go_simp; with_reducible rfl); rotate_left; (simp only [Act.put, List.setIfInBounds_toArray, List.set_cons_zero, List.set_cons_succ, i64_w, i32_w]; rfl)
  -- 1: Op.nilCheck
  refine pure_ (i := 1) (N := some 6) (v := ?_) (a' := ?_) #[true, true, false, false, false, false, false, false, false, false] rfl rfl (any_of HT_.out (by kernel_rfl)) (fun _ _ _ h => h) (Or.inl ⟨by rfl, ?_⟩) ?_ ?_
  rotate_left; (intro w'; go_simp; with_reducible rfl); rotate_left; (simp only [Act.put, List.setIfInBounds_toArray, List.set_cons_zero, List.set_cons_succ, i64_w, i32_w]; rfl)
  -- 2: Op.fieldAddr
  refine pure_ (i := 2) (N := some 7) (v := ?_) (a' := ?_) #[true, true, true, false, false, false, false, false, false, false] rfl rfl (any_of HT_.out (by kernel_rfl)) (fun _ _ _ h => h) (Or.inl ⟨by rfl, ?_⟩) ?_ ?_
  rotate_left; (intro w'; go_simp; with_reducible rfl); rotate_left; (simp only [Act.put, List.setIfInBounds_toArray, List.set_cons_zero, List.set_cons_succ, i64_w, i32_w]; rfl)
  -- 5: Op.move
  refine pure_ (i := 5) (N := some 10) (v := ?_) (a' := ?_) #[true, true, true, false, false, true, false, false, false, false] rfl rfl (any_of HT_.out (by kernel_rfl)) (fun _ _ _ h => h) (Or.inl ⟨by rfl, ?_⟩) ?_ ?_
  rotate_left; (intro w'; go_simp; with_reducible rfl); rotate_left; (simp only [Act.put, List.setIfInBounds_toArray, List.set_cons_zero, List.set_cons_succ, i64_w, i32_w]; rfl)
  -- 6: Op.nilCheck
  refine pure_ (i := 6) (N := some 11) (v := ?_) (a' := ?_) #[true, true, true, false, false, true, true, false, false, false] rfl rfl (any_of HT_.out (by kernel_rfl)) (fun _ _ _ h => h) (Or.inl ⟨by rfl, ?_⟩) ?_ ?_
  rotate_left; (intro w'; go_simp; with_reducible rfl); rotate_left; (simp only [Act.put, List.setIfInBounds_toArray, List.set_cons_zero, List.set_cons_succ, i64_w, i32_w]; rfl)
  -- 7: Op.fieldAddr
  refine pure_ (i := 7) (N := some 12) (v := ?_) (a' := ?_) #[true, true, true, false, false, true, true, true, false, false] rfl rfl (any_of HT_.out (by kernel_rfl)) (fun _ _ _ h => h) (Or.inl ⟨by rfl, ?_⟩) ?_ ?_
  rotate_left; (intro w'; go_simp; with_reducible rfl); rotate_left; (simp only [Act.put, List.setIfInBounds_toArray, List.set_cons_zero, List.set_cons_succ, i64_w, i32_w]; rfl)
  -- 3: Op.load
  refine take_ (i := 3) (N := some 8) (v := ?_) (a' := ?_) #[true, true, true, true, false, true, true, true, false, false] rfl rfl (take_ofW HT_.out HW_.out (by kernel_rfl)) (fun _ _ _ h => h) (Or.inl ⟨by rfl, ?_⟩) hHeld ?_ ?_
  rotate_left; (rintro w' ⟨s0, s1⟩; go_simp; with_reducible rfl); rotate_left; (simp only [Act.put, List.setIfInBounds_toArray, List.set_cons_zero, List.set_cons_succ, i64_w, i32_w]; rfl)
  -- 4: Op.call
  refine pure_ (i := 4) (N := some 9) (v := ?_) (a' := ?_) #[true, true, true, true, true, true, true, true, false, false] rfl rfl (any_of HT_.out (by kernel_rfl)) (fun _ _ _ h => h) (Or.inl ⟨by rfl, ?_⟩) ?_ ?_
  rotate_left; (intro w'; go_simp; with_reducible rfl); rotate_left; (simp only [Act.put, List.setIfInBounds_toArray, List.set_cons_zero, List.set_cons_succ, i64_w, i32_w]; rfl)
  -- 8: Op.load
  refine take_ (i := 8) (N := some 13) (v := ?_) (a' := ?_) #[true, true, true, true, true, true, true, true, true, false] rfl rfl (take_ofW HT_.out HW_.out (by kernel_rfl)) (fun _ _ _ h => h) (Or.inl ⟨by rfl, ?_⟩) hHeld ?_ ?_
  rotate_left; (rintro w' ⟨s0, s1⟩; go_simp; with_reducible rfl); rotate_left; (simp only [Act.put, List.setIfInBounds_toArray, List.set_cons_zero, List.set_cons_succ, i64_w, i32_w]; rfl)
  -- 9: Op.binOp
  refine pure_ (i := 9) (N := some 14) (v := ?_) (a' := ?_) #[true, true, true, true, true, true, true, true, true, true] rfl rfl (any_of HT_.out (by kernel_rfl)) (fun _ _ _ h => h) (Or.inl ⟨by rfl, ?_⟩) ?_ ?_
  rotate_left; (intro w'; go_simp; with_reducible rfl); rotate_left; (simp only [Act.put, List.setIfInBounds_toArray, List.set_cons_zero, List.set_cons_succ, i64_w, i32_w]; rfl)
  refine done_ (done_of HT_.out (by kernel_rfl)) ?_
  have e1 : decide (n.most ≤ (n.all.length : Int)) = false := by simpa using hroom
  go_wp2
  have F1 := Aside0.mk F0.out.drew
  have I1 := Aside0.mk I0.out.drew
  have M1 := Aside0.mk (Kd.F_drew M0.out)
  have BB1 := Aside0.mk (blk_drew BK0.out)
  have SZ1 := Aside0.mk (show (w.alloc (.cells #[.int .i64 f, .int .i64 t, .slice Am l.length cm] 33)).drew.heap.size = w.heap.size + 1 by simp)
  clear F0 I0 M0 BK0 h0 h1 h0d h1d hHeld
  generalize (w.alloc (.cells #[.int .i64 f, .int .i64 t, .slice Am l.length cm] 33)).drew = w1 at F1 I1 M1 BB1 SZ1 ⊢
  have hI := I1.out
  clear I1
  obtain ⟨cs, vA, hbk, hsz, hcs0, hcs1, hcs2, hcc, hgg, hlt, hN⟩ := hI
  obtain ⟨A1, c1, rfl⟩ := Kd.N_slice hN
  have BK1 := Aside0.mk hbk
  have HN1 := Aside0.mk hN
  have HC0 := Aside0.mk hcs0
  have HC := Aside0.mk (And.intro hsz (And.intro hcs1 (And.intro hcs2 hcc)))
  have HFG := Aside0.mk hgg
  have HLT := Aside0.mk hlt
  clear hbk hN hcs0 hsz hcs1 hcs2 hcc hgg hlt
  have h0 : w1.cell? ⟨g, 0, none⟩ = some (.slice A1 n.all.length c1) := (cells_at BK1.out HC0.out).1
  have hb0 : w1.cell? ⟨w.heap.size, 0, none⟩ = some (.int .i64 f) := (cells_at BB1.out rfl).1
  have hb1 : w1.cell? ⟨w.heap.size, 1, none⟩ = some (.int .i64 t) := (cells_at BB1.out rfl).1
  have hb2 : w1.cell? ⟨w.heap.size, 2, none⟩ = some (.slice Am l.length cm) := (cells_at BB1.out rfl).1
  refine start_ (n := 11) (S := fun w' => w'.cell? ⟨g, 0, none⟩ = some (.slice A1 n.all.length c1) ∧ w'.cell? ⟨w.heap.size, 0, none⟩ = some (.int .i64 f) ∧ w'.cell? ⟨w.heap.size, 1, none⟩ = some (.int .i64 t) ∧ w'.cell? ⟨w.heap.size, 2, none⟩ = some (.slice Am l.length cm)) (ds := [7, 10]) #[false, false, false, false, false, false, false, false, false, false, false] (by kernel_rfl) rfl rfl ⟨h0, hb0, hb1, hb2⟩ (fun hHeld => ?_)
  refine with_tabW put.tab3 put.bits3 (fun HT_ HW_ => ?_)
  have F2 := Aside0.mk F1.out.drew
  have M2 := Aside0.mk (Kd.F_drew M1.out)
  have BK2 := Aside0.mk (blk_drew BK1.out)
  have BB2 := Aside0.mk (blk_drew BB1.out)
  have HN2 := Aside0.mk (Kd.N_drew HN1.out)
  clear F1 M1 BK1 BB1 HN1 h0 hb0 hb1 hb2
  obtain ⟨h0, hb0, hb1, hb2⟩ := hHeld
  have hHeld := And.intro h0 (And.intro hb0 (And.intro hb1 hb2))
  generalize w1.drew = w2 at F2 M2 BK2 BB2 HN2 h0 hb0 hb1 hb2 hHeld ⊢
  -- 0: Op.move
  refine pure_ (i := 0) (N := some 15) (v := ?_) (a' := ?_) #[true, false, false, false, false, false, false, false, false, false, false] rfl rfl (any_of HT_.out (by kernel_rfl)) (fun _ _ _ h => h) (Or.inl ⟨by rfl, ?_⟩) ?_ ?_
  rotate_left; (intro w'; go_simp; with_reducible rfl); rotate_left; (simp only [Act.put, List.setIfInBounds_toArray, List.set_cons_zero, List.set_cons_succ, i64_w, i32_w]; rfl)
  -- 1: Op.move
  refine pure_ (i := 1) (N := some 16) (v := ?_) (a' := ?_) #[true, true, false, false, false, false, false, false, false, false, false] rfl rfl (any_of HT_.out (by kernel_rfl)) (fun _ _ _ h => h) (Or.inl ⟨by rfl, ?_⟩) ?_ ?_
  rotate_left; (intro w'; go_simp; with_reducible rfl); rotate_left; (simp only [Act.put, List.setIfInBounds_toArray, List.set_cons_zero, List.set_cons_succ, i64_w, i32_w]; rfl)
  -- 2: Op.nilCheck
  refine pure_ (i := 2) (N := some 17) (v := ?_) (a' := ?_) #[true, true, true, false, false, false, false, false, false, false, false] rfl rfl (any_of HT_.out (by kernel_rfl)) (fun _ _ _ h => h) (Or.inl ⟨by rfl, ?_⟩) ?_ ?_
  rotate_left; (intro w'; go_simp; with_reducible rfl); rotate_left; (simp only [Act.put, List.setIfInBounds_toArray, List.set_cons_zero, List.set_cons_succ, i64_w, i32_w]; rfl)
  -- 3: Op.fieldAddr
  refine pure_ (i := 3) (N := some 18) (v := ?_) (a' := ?_) #[true, true, true, true, false, false, false, false, false, false, false] rfl rfl (any_of HT_.out (by kernel_rfl)) (fun _ _ _ h => h) (Or.inl ⟨by rfl, ?_⟩) ?_ ?_
  rotate_left; (intro w'; go_simp; with_reducible rfl); rotate_left; (simp only [Act.put, List.setIfInBounds_toArray, List.set_cons_zero, List.set_cons_succ, i64_w, i32_w]; rfl)
  -- 4: Op.load
  refine take_ (i := 4) (N := some 19) (v := ?_) (a' := ?_) #[true, true, true, true, true, false, false, false, false, false, false] rfl rfl (take_ofW HT_.out HW_.out (by kernel_rfl)) (fun _ _ _ h => h) (Or.inl ⟨by rfl, ?_⟩) hHeld ?_ ?_
  rotate_left; (rintro w' ⟨s0, s1, s2, s3⟩; go_simp; with_reducible rfl); rotate_left; (simp only [Act.put, List.setIfInBounds_toArray, List.set_cons_zero, List.set_cons_succ, i64_w, i32_w]; rfl)
  -- 5: Op.load
  refine take_ (i := 5) (N := some 20) (v := ?_) (a' := ?_) #[true, true, true, true, true, true, false, false, false, false, false] rfl rfl (take_ofW HT_.out HW_.out (by kernel_rfl)) (fun _ _ _ h => h) (Or.inl ⟨by rfl, ?_⟩) hHeld ?_ ?_
  rotate_left; (rintro w' ⟨s0, s1, s2, s3⟩; go_simp; with_reducible rfl); rotate_left; (simp only [Act.put, List.setIfInBounds_toArray, List.set_cons_zero, List.set_cons_succ, i64_w, i32_w]; rfl)
  -- 6: Op.buildSlice
  refine one_ (i := 6) (N := some 21) #[true, true, true, true, true, true, true, false, false, false, false] rfl rfl (one_of HT_.out (by kernel_rfl)) (by decide) (fun K hK => ?_)
  refine value_ (w1 := w2.alloc (.cells #[.int .i64 f, .int .i64 t, .slice Am l.length cm] 33)) (v := .slice (some ⟨w2.heap.size, 0, none⟩) 1 1) (by rfl) rfl ?_ ?_
  · go_simp
  have W1 := Aside0.mk (below_alloc (Below.refl w2.heap.size w2) (.cells #[.int .i64 f, .int .i64 t, .slice Am l.length cm] 33))
  refine hK.out _ _ ⟨(W1.out.cell (World.block_lt_of_cell? _ _ h0)).trans h0, (W1.out.cell (World.block_lt_of_cell? _ _ hb0)).trans hb0, (W1.out.cell (World.block_lt_of_cell? _ _ hb1)).trans hb1, (W1.out.cell (World.block_lt_of_cell? _ _ hb2)).trans hb2⟩ (fun hHeld => ?_)
  clear hK K
  refine norm_ (a' := ?_) ?_ ?_
  rotate_left; (show Act.put _ (some 21) _ = _; simp only [Act.put, List.setIfInBounds_toArray, List.set_cons_zero, List.set_cons_succ, i64_w, i32_w]; rfl)
  -- 7: Op.call
  refine last_ (i := 7) (N := some 22) #[true, true, true, true, true, true, true, true, false, false, false] rfl rfl (one_of HT_.out (by kernel_rfl)) (by decide) (fun K hK => ?_)
  refine Kd.N_append_step k33 (w0 := w2) 0 (by rfl) (.tmp 19) (.tmp 21) 39 33 (.agg #[.int .i64 0, .int .i64 0, .slice none 0 0]) 40 rfl Try.underlying39 info33 rfl (by decide) (by omega) (.slice A1 n.all.length c1) n.all ⟨f, t, l⟩ [.int .i64 f, .int .i64 t, .slice Am l.length cm] (fun k => (fp k ∨ q k ∨ w.heap.size ≤ k) ∧ k ≠ g) q rfl rfl ?aP ?aK ?aF ?aO ?aB ?aS ?aL ?_
  case aP => exact Foot.imp M2.out (fun W' hC => k33_mk W' ⟨f, t, l⟩ hcm hC)
  case aK => exact fun k hk => ⟨⟨.inr (.inl hk), fun e => (HQ.out k hk).2 (e ▸ HFG.out)⟩, fun e => (HQ.out k hk).2 ((HN2.out.1 k e.symm).1)⟩
  case aF => exact fun k hk => ⟨.inr (.inr (Nat.le_trans F2.out.size hk)), fun e => by have := HG.out; have := F2.out.size; omega⟩
  case aO => exact Kd.N_mono HN2.out (fun k hk => ⟨.inl hk.1, hk.2⟩)
  case aB => exact Below.refl _ _
  case aS => exact Nat.zero_le _
  case aL => have := HLEN.out; omega
  intro v1 w3 hN3 hB3 hg3 hat3
  obtain ⟨A3, c3, rfl⟩ := Kd.N_slice hN3
  have HN3 := Aside0.mk hN3
  have HG3 := Aside0.mk hg3
  have F3 := Aside0.mk (F2.out.grown hg3 hB3 (fun k e hk => (HN2.out.1 k e).1))
  have BK3 := Aside0.mk (blk_grown BK2.out hg3 (fun e => (HN2.out.1 g e.symm).2 rfl))
  clear hN3 hB3 hg3 hat3 h0 hb0 hb1 hb2 hHeld
  refine hK.out _ _ ?_
  clear hK K
  refine norm_ (a' := ?_) ?_ ?_
  rotate_left; (show Act.put _ (some 22) _ = _; simp only [Act.put, List.setIfInBounds_toArray, List.set_cons_zero, List.set_cons_succ, i64_w, i32_w]; rfl)
  -- 8: Op.nilCheck
  refine pure_ (i := 8) (N := some 23) (v := ?_) (a' := ?_) #[true, true, true, true, true, true, true, true, true, false, false] rfl rfl (any_of HT_.out (by kernel_rfl)) (fun _ _ _ h => h) (Or.inl ⟨by rfl, ?_⟩) ?_ ?_
  rotate_left; (intro w'; go_simp; with_reducible rfl); rotate_left; (simp only [Act.put, List.setIfInBounds_toArray, List.set_cons_zero, List.set_cons_succ, i64_w, i32_w]; rfl)
  -- 9: Op.fieldAddr
  refine pure_ (i := 9) (N := some 24) (v := ?_) (a' := ?_) #[true, true, true, true, true, true, true, true, true, true, false] rfl rfl (any_of HT_.out (by kernel_rfl)) (fun _ _ _ h => h) (Or.inl ⟨by rfl, ?_⟩) ?_ ?_
  rotate_left; (intro w'; go_simp; with_reducible rfl); rotate_left; (simp only [Act.put, List.setIfInBounds_toArray, List.set_cons_zero, List.set_cons_succ, i64_w, i32_w]; rfl)
  -- 10: Op.store
  refine last_ (i := 10) (N := none) #[true, true, true, true, true, true, true, true, true, true, true] rfl rfl (one_of HT_.out (by kernel_rfl)) (by decide) (fun K hK => ?_)
  have hc3 : w3.cell? ⟨g, 0, none⟩ = some (.slice A1 n.all.length c1) := (cells_at BK3.out HC0.out).1
  have hf3 := (cells_at BK3.out HC0.out).2
  refine skip_ (w1 := ?_) (by rfl) rfl ?_ ?_
  rotate_left
  · go_simp
    rfl
  clear hc3 hf3
  refine hK.out _ _ ?_
  clear hK K
  refine done_ (done_of HT_.out (by kernel_rfl)) ?_
  go_wp2
  go_ret
  refine ⟨rfl, ⟨fun k => (fp k ∨ q k ∨ w.heap.size ≤ k) ∧ k < w3.heap.size, ?_, fun k hk => hk.1⟩, F3.out.setCell (fun _ => HFG.out) _⟩
  have hsz := HC.out
  rw [show n.all.length + 1 = (n.all ++ [(⟨f, t, l⟩ : S33)]).length by simp]
  exact IsNet.setAll BK3.out hsz.1 hsz.2.1 hsz.2.2.1 hsz.2.2.2 ⟨.inl HFG.out, blk_lt BK3.out⟩ (Kd.N_mono (Kd.N_bound HN3.out) (fun k hk => ⟨⟨hk.1.1, hk.2⟩, hk.1.2⟩)) (fun k hk => hk) (fun k hk => hk.2)
end Go.Proofs.Ytnaefndclalepaa.Net
