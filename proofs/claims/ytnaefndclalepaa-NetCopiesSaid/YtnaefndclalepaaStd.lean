/- An act, whole; stands. -/
import Derived.Test.YtnaefndclalepaaAc2
namespace Go.Proofs.Ytnaefndclalepaa.Net
set_option linter.unusedVariables false
set_option linter.unusedSimpArgs false
open Go.RowKit Go.Shelf Go.Proofs.YtnaefndclalepaaW.PrintWords Go.Proofs.YtnaefndclalepaaW.PrintLast Go.Proofs.YtnaefndclalepaaW.PrintMore Go.Proofs.Ytnaefndclalepaa.XN
def std.T1 : Bool × List (List Nat × List Nat) := (true, [([], []), ([0], [0]), ([], []), ([2], [2]), ([3], [3]), ([4], [4]), ([1, 5], [1, 5]), ([6, 1], [6]), ([7], [7]), ([8, 7, 7], [7, 8]), ([7], [7]), ([10, 7], [7, 10]), ([11, 7], [7, 11]), ([12, 7], [7, 12]), ([13, 7], [7, 13]), ([9, 14, 7], [7, 9, 14]), ([7, 15], [7, 15])])
def std.B1 : List Nat := [0, 1, 0, 4, 12, 28, 63, 127, 255, 511, 255, 1279, 3327, 7423, 15615, 32767, 65535]
theorem std.tab1 : rtab .any (opsOf Try.f23 1) = std.T1 := by kernel_rfl
theorem std.bits1 : waitsOk std.T1.2 std.B1 = true := by kernel_rfl
theorem act_c {w W : World} {p : Option Addr} {n : NetS} {g : Nat} {m : RefS} {fp0 fr0 Q okx : Nat → Prop} {K : Nat} (h : J w W p n g m fp0 fr0 Q (fun _ => False)) (hR : Rel n m K) (hK : K < 9000) (d0 d1 d2 d3 : Int) (A4 : Option Addr) (c4 : Nat) (x4 : List Int) (hF : Kd.F (Kd.int .u8) W okx A4 x4.length x4) (hok : ∀ k, okx k → Q k) (hc4 : x4.length ≤ c4) (hx5 : x4.length ≤ 140737488355328) :
    Calls Try.prog 22 #[.pointer p, .pointer (some ⟨g, 0, none⟩), .agg #[.int .i64 d0, .int .i64 d1, .int .i64 d2, .int .i64 d3, .slice A4 x4.length c4]] W fun e W' => e = .returned (.bool true) ∧ J w W' p (stepN ⟨d0, d1, d2, d3, x4⟩ n) g (stepR ⟨d0, d1, d2, d3, x4⟩ m) fp0 fr0 Q (fun _ => False) ∧ Keeps Q W W' := by
  have hx4 : x4.length ≤ maxLen := by unfold maxLen; omega
  unfold stepN stepR
  dsimp only
  by_cases h0 : d0 = 0
  · subst h0; rw [if_pos rfl, if_pos rfl]; exact act0_c h hR hK d1 d2 d3 A4 c4 x4 hF hok hc4 hx4 hx5
  rw [if_neg h0, if_neg h0]
  by_cases h1 : d0 = 1
  · subst h1; rw [if_pos rfl, if_pos rfl]; exact act1_c h hR hK d1 d2 d3 A4 c4 x4 hF hok hc4
  rw [if_neg h1, if_neg h1]
  by_cases h2 : d0 = 2
  · subst h2; rw [if_pos rfl, if_pos rfl]; exact act2_c h hR hK d1 d2 d3 A4 c4 x4 hF hok hc4
  rw [if_neg h2, if_neg h2]
  by_cases h3 : d0 = 3
  · subst h3; rw [if_pos rfl, if_pos rfl]; exact act3_c h hR hK d1 d2 d3 A4 c4 x4 hF hok hc4
  rw [if_neg h3, if_neg h3]
  by_cases h4 : d0 = 4
  · subst h4; rw [if_pos rfl, if_pos rfl]; exact act4_c h hR hK d1 d2 d3 A4 c4 x4 hF hok hc4
  rw [if_neg h4, if_neg h4]
  by_cases h5 : d0 = 5
  · subst h5; rw [if_pos rfl, if_pos rfl]; exact act5_c h hR hK d1 d2 d3 A4 c4 x4 hF hok hc4
  rw [if_neg h5, if_neg h5]
  by_cases h7 : d0 = 7
  · subst h7; exact act7_c h hR hK d1 d2 d3 A4 c4 x4 hF hok hc4
  by_cases h8 : d0 = 8
  · subst h8; exact act8_c h hR hK d1 d2 d3 A4 c4 x4 hF hok hc4
  exact actE_c h hR hK d0 d1 d2 d3 A4 c4 x4 hF hok hc4 h0 h1 h2 h3 h4 h5 h7 h8
section
variable {w W W' : World} {p : Option Addr} {n n' : NetS} {g : Nat} {m m' : RefS} {fp0 fr0 Q Q' B B' : Nat → Prop}
theorem J.atB (h : J w W p n g m fp0 fr0 Q B) (i : Int) : Calls Try.prog 16 #[.pointer p, .int .i64 i] W fun e W' => ∃ A c, e = .returned (.tuple #[.agg #[.int .i64 (atM n i).f0, .int .i64 (atM n i).f1, .slice A (atM n i).f2.length c], .int .i64 (atE n i)]) ∧ Kd.C (Kd.int .u8) W' A (atM n i).f2.length (atM n i).f2 ∧ (atM n i).f2.length ≤ c ∧ Below W.heap.size W W' := by
  obtain ⟨fp, fr, h1, h2, _⟩ := h
  refine (at_r n p fp W h1 i (fun m hm => by have := h2.long m hm; omega)).mono ?_
  rintro e W' ⟨vb, rfl, hR, hb⟩
  obtain ⟨A, c, rfl⟩ := Kd.R_slice hR
  exact ⟨A, c, rfl, (Kd.R_reads' hR).2.2, (Kd.R_reads' hR).2.1, hb⟩
theorem J.cells (h : J w W p n g m fp0 fr0 Q B) : ∃ AB cB, W.cell? ⟨g, 0, none⟩ = some (.int .i64 m.N) ∧ W.cell? ⟨g, 1, none⟩ = some (.slice AB m.Bag.length cB) ∧ m.Bag.length ≤ cB := by
  obtain ⟨fp, fr, h1, h2, h3, _⟩ := h
  obtain ⟨AB, cB, AC, cC, x0, x1, x2, h4, _⟩ := h3.cells
  exact ⟨AB, cB, x0, x1, h4⟩
end
set_option maxHeartbeats 16000000 in
set_option maxRecDepth 100000 in
theorem stands_c {w W : World} {p : Option Addr} {n : NetS} {g : Nat} {m : RefS} {fp0 fr0 Q B : Nat → Prop} {K : Nat} (h : J w W p n g m fp0 fr0 Q B) (hR : Rel n m K) (hpos : 0 ≤ m.N) :
    Calls Try.prog 23 #[.pointer p, .pointer (some ⟨g, 0, none⟩)] W fun e W' => e = .returned (.bool true) ∧ Below W.heap.size W W' := by
  have HJ0 := Aside0.mk h
  have HN := Aside0.mk h.drew.nodes_
  have HL := Aside0.mk h.drew.len_
  have HR := Aside0.mk hR
  obtain ⟨AB, cB, c0, c1, hcB⟩ := h.cells
  have h15 : m.N ≤ 15 := by have := hR.good.nodes; have := hR.nodes; omega
  have h64 := hR.bag
  rw [hR.nodes] at HN
  rw [hR.all] at HL
  have z0 : W.drew.cell? ⟨g, 0, none⟩ = some (.int .i64 m.N) := c0
  have z1 : W.drew.cell? ⟨g, 1, none⟩ = some (.slice AB m.Bag.length cB) := c1
  clear h hR c0 c1
  go_enter Try.func23, Try.ntmps23
  go_wp2
  refine start_ (n := 17) (S := fun w' => w'.cell? ⟨g, 0, none⟩ = some (.int .i64 m.N) ∧ w'.cell? ⟨g, 1, none⟩ = some (.slice AB m.Bag.length cB)) (ds := []) #[false, false, false, false, false, false, false, false, false, false, false, false, false, false, false, false, false] (by kernel_rfl) rfl rfl ⟨z0, z1⟩ (fun hHeld => ?_)
  refine with_tabW std.tab1 std.bits1 (fun HT_ HW_ => ?_)

  -- 0: Op.move
  refine pure_ (i := 0) (N := some 12) (v := ?_) (a' := ?_) #[true, false, false, false, false, false, false, false, false, false, false, false, false, false, false, false, false] rfl rfl (any_of HT_.out (by kernel_rfl)) (fun _ _ _ h => h) (Or.inl ⟨by rfl, ?_⟩) ?_ ?_
  rotate_left; (intro w'; go_simp; with_reducible rfl); rotate_left; (simp only [Act.put, List.setIfInBounds_toArray, List.set_cons_zero, List.set_cons_succ, i64_w, i32_w]; rfl)
  -- 2: Op.move
  refine pure_ (i := 2) (N := some 14) (v := ?_) (a' := ?_) #[true, false, true, false, false, false, false, false, false, false, false, false, false, false, false, false, false] rfl rfl (any_of HT_.out (by kernel_rfl)) (fun _ _ _ h => h) (Or.inl ⟨by rfl, ?_⟩) ?_ ?_
  rotate_left; (intro w'; go_simp; with_reducible rfl); rotate_left; (simp only [Act.put, List.setIfInBounds_toArray, List.set_cons_zero, List.set_cons_succ, i64_w, i32_w]; rfl)
  -- 3: Op.nilCheck
  refine pure_ (i := 3) (N := some 15) (v := ?_) (a' := ?_) #[true, false, true, true, false, false, false, false, false, false, false, false, false, false, false, false, false] rfl rfl (any_of HT_.out (by kernel_rfl)) (fun _ _ _ h => h) (Or.inl ⟨by rfl, ?_⟩) ?_ ?_
  rotate_left; (intro w'; go_simp; with_reducible rfl); rotate_left; (simp only [Act.put, List.setIfInBounds_toArray, List.set_cons_zero, List.set_cons_succ, i64_w, i32_w]; rfl)
  -- 4: Op.fieldAddr
  refine pure_ (i := 4) (N := some 16) (v := ?_) (a' := ?_) #[true, false, true, true, true, false, false, false, false, false, false, false, false, false, false, false, false] rfl rfl (any_of HT_.out (by kernel_rfl)) (fun _ _ _ h => h) (Or.inl ⟨by rfl, ?_⟩) ?_ ?_
  rotate_left; (intro w'; go_simp; with_reducible rfl); rotate_left; (simp only [Act.put, List.setIfInBounds_toArray, List.set_cons_zero, List.set_cons_succ, i64_w, i32_w]; rfl)
  -- 5: Op.load
  refine take_ (i := 5) (N := some 17) (v := ?_) (a' := ?_) #[true, false, true, true, true, true, false, false, false, false, false, false, false, false, false, false, false] rfl rfl (take_ofW HT_.out HW_.out (by kernel_rfl)) (fun _ _ _ h => h) (Or.inl ⟨by rfl, ?_⟩) hHeld ?_ ?_
  rotate_left; (rintro w' ⟨s0, s1⟩; go_simp; with_reducible rfl); rotate_left; (simp only [Act.put, List.setIfInBounds_toArray, List.set_cons_zero, List.set_cons_succ, i64_w, i32_w]; rfl)
  -- 1: Op.call
  refine one_ (i := 1) (N := some 13) #[true, true, true, true, true, true, false, false, false, false, false, false, false, false, false, false, false] rfl rfl (one_of HT_.out (by kernel_rfl)) (by decide) (fun K hK => ?_)
  refine goes_ Try.func25 (by kernel_rfl) rfl #[.pointer p] (by rfl) rfl rfl (by (try simp only [List.map_toArray, List.map_cons, List.map_nil]); first | done | rfl) ?_
  refine (HN.out).mono ?_
  rintro e w2 ⟨rfl, rfl⟩
  refine ⟨_, rfl, ?_⟩
  refine hK.out _ _ ⟨z0, z1⟩ (fun hHeld => ?_)
  clear hK K
  refine norm_ (a' := ?_) ?_ ?_
  rotate_left; (show Act.put _ (some 13) _ = _; simp only [Act.put, List.setIfInBounds_toArray, List.set_cons_zero, List.set_cons_succ, i64_w, i32_w]; rfl)
  -- 6: Op.binOp
  refine pure_ (i := 6) (N := some 18) (v := ?_) (a' := ?_) #[true, true, true, true, true, true, true, false, false, false, false, false, false, false, false, false, false] rfl rfl (any_of HT_.out (by kernel_rfl)) (fun _ _ _ h => h) (Or.inl ⟨by rfl, ?_⟩) ?_ ?_
  rotate_left; (intro w'; go_simp; with_reducible rfl); rotate_left; (simp only [Act.put, List.setIfInBounds_toArray, List.set_cons_zero, List.set_cons_succ, i64_w, i32_w]; rfl)
  -- 7: Op.move
  refine pure_ (i := 7) (N := some 19) (v := ?_) (a' := ?_) #[true, true, true, true, true, true, true, true, false, false, false, false, false, false, false, false, false] rfl rfl (any_of HT_.out (by kernel_rfl)) (fun _ _ _ h => h) (Or.inl ⟨by rfl, ?_⟩) ?_ ?_
  rotate_left; (intro w'; go_simp; with_reducible rfl); rotate_left; (simp only [Act.put, List.setIfInBounds_toArray, List.set_cons_zero, List.set_cons_succ, i64_w, i32_w]; rfl)
  -- 8: Op.move
  refine pure_ (i := 8) (N := some 20) (v := ?_) (a' := ?_) #[true, true, true, true, true, true, true, true, true, false, false, false, false, false, false, false, false] rfl rfl (any_of HT_.out (by kernel_rfl)) (fun _ _ _ h => h) (Or.inl ⟨by rfl, ?_⟩) ?_ ?_
  rotate_left; (intro w'; go_simp; with_reducible rfl); rotate_left; (simp only [Act.put, List.setIfInBounds_toArray, List.set_cons_zero, List.set_cons_succ, i64_w, i32_w]; rfl)
  -- 10: Op.move
  refine pure_ (i := 10) (N := some 22) (v := ?_) (a' := ?_) #[true, true, true, true, true, true, true, true, true, false, true, false, false, false, false, false, false] rfl rfl (any_of HT_.out (by kernel_rfl)) (fun _ _ _ h => h) (Or.inl ⟨by rfl, ?_⟩) ?_ ?_
  rotate_left; (intro w'; go_simp; with_reducible rfl); rotate_left; (simp only [Act.put, List.setIfInBounds_toArray, List.set_cons_zero, List.set_cons_succ, i64_w, i32_w]; rfl)
  -- 11: Op.nilCheck
  refine pure_ (i := 11) (N := some 23) (v := ?_) (a' := ?_) #[true, true, true, true, true, true, true, true, true, false, true, true, false, false, false, false, false] rfl rfl (any_of HT_.out (by kernel_rfl)) (fun _ _ _ h => h) (Or.inl ⟨by rfl, ?_⟩) ?_ ?_
  rotate_left; (intro w'; go_simp; with_reducible rfl); rotate_left; (simp only [Act.put, List.setIfInBounds_toArray, List.set_cons_zero, List.set_cons_succ, i64_w, i32_w]; rfl)
  -- 12: Op.fieldAddr
  refine pure_ (i := 12) (N := some 24) (v := ?_) (a' := ?_) #[true, true, true, true, true, true, true, true, true, false, true, true, true, false, false, false, false] rfl rfl (any_of HT_.out (by kernel_rfl)) (fun _ _ _ h => h) (Or.inl ⟨by rfl, ?_⟩) ?_ ?_
  rotate_left; (intro w'; go_simp; with_reducible rfl); rotate_left; (simp only [Act.put, List.setIfInBounds_toArray, List.set_cons_zero, List.set_cons_succ, i64_w, i32_w]; rfl)
  -- 13: Op.load
  refine take_ (i := 13) (N := some 25) (v := ?_) (a' := ?_) #[true, true, true, true, true, true, true, true, true, false, true, true, true, true, false, false, false] rfl rfl (take_ofW HT_.out HW_.out (by kernel_rfl)) (fun _ _ _ h => h) (Or.inl ⟨by rfl, ?_⟩) hHeld ?_ ?_
  rotate_left; (rintro w' ⟨s0, s1⟩; go_simp; with_reducible rfl); rotate_left; (simp only [Act.put, List.setIfInBounds_toArray, List.set_cons_zero, List.set_cons_succ, i64_w, i32_w]; rfl)
  -- 14: Op.call
  refine pure_ (i := 14) (N := some 26) (v := ?_) (a' := ?_) #[true, true, true, true, true, true, true, true, true, false, true, true, true, true, true, false, false] rfl rfl (any_of HT_.out (by kernel_rfl)) (fun _ _ _ h => h) (Or.inl ⟨by rfl, ?_⟩) ?_ ?_
  rotate_left; (intro w'; go_simp; with_reducible rfl); rotate_left; (simp only [Act.put, List.setIfInBounds_toArray, List.set_cons_zero, List.set_cons_succ, i64_w, i32_w]; rfl)
  -- 9: Op.call
  refine one_ (i := 9) (N := some 21) #[true, true, true, true, true, true, true, true, true, true, true, true, true, true, true, false, false] rfl rfl (one_of HT_.out (by kernel_rfl)) (by decide) (fun K hK => ?_)
  refine goes_ Try.func11 (by kernel_rfl) rfl #[.pointer p] (by rfl) rfl rfl (by (try simp only [List.map_toArray, List.map_cons, List.map_nil]); first | done | rfl) ?_
  refine (HL.out).mono ?_
  rintro e w2 ⟨rfl, rfl⟩
  refine ⟨_, rfl, ?_⟩
  refine hK.out _ _ ⟨z0, z1⟩ (fun hHeld => ?_)
  clear hK K
  refine norm_ (a' := ?_) ?_ ?_
  rotate_left; (show Act.put _ (some 21) _ = _; simp only [Act.put, List.setIfInBounds_toArray, List.set_cons_zero, List.set_cons_succ, i64_w, i32_w]; rfl)
  -- 15: Op.binOp
  refine pure_ (i := 15) (N := some 27) (v := ?_) (a' := ?_) #[true, true, true, true, true, true, true, true, true, true, true, true, true, true, true, true, false] rfl rfl (any_of HT_.out (by kernel_rfl)) (fun _ _ _ h => h) (Or.inl ⟨by rfl, ?_⟩) ?_ ?_
  rotate_left; (intro w'; go_simp; with_reducible rfl); rotate_left; (simp only [Act.put, List.setIfInBounds_toArray, List.set_cons_zero, List.set_cons_succ, i64_w, i32_w]; rfl)
  -- 16: Op.pick
  refine pure_ (i := 16) (N := some 28) (v := ?_) (a' := ?_) #[true, true, true, true, true, true, true, true, true, true, true, true, true, true, true, true, true] rfl rfl (any_of HT_.out (by kernel_rfl)) (fun _ _ _ h => h) (Or.inl ⟨by rfl, ?_⟩) ?_ ?_
  rotate_left; (intro w'; go_simp; with_reducible rfl); rotate_left; (simp only [Act.put, List.setIfInBounds_toArray, List.set_cons_zero, List.set_cons_succ, i64_w, i32_w]; rfl)
  refine done_ (done_of HT_.out (by kernel_rfl)) ?_
  clear hHeld z0 z1 HN HL
  have HB := Aside0.mk (below_drew (Below.refl W.heap.size W))
  generalize W.drew = W1 at *
  go_wp2
  go_loopg [5] (m.Bag.length + 2) (fun gk v5 Wc => ∃ i : Nat, v5 = .int .i64 ((i : Int) - 1) ∧ i + gk = m.Bag.length + 2 ∧ Aside0 (Below W.heap.size W Wc))
  case atStart => exact ⟨0, rfl, by omega, HB⟩
  case round =>
    clear HB
    obtain ⟨i, rfl, hig, HB⟩ := hrel
    have HJ := Aside0.mk (HJ0.out.past HB.out)
    obtain ⟨AB1, cB1, y0, y1, _⟩ := HJ.out.cells
    by_cases hlt : i < m.Bag.length + 2
    case neg =>
      have d1 : decide ((i : Int) - 1 ≤ (m.Bag.length : Int)) = false := by simp; omega
      generalize (i : Int) - 1 = j at *
      obtain ⟨N0, hN0⟩ := Int.eq_ofNat_of_zero_le hpos
      have hN1 : N0 ≤ 15 := by omega
      have hw : wrap64 ((N0 : Int) + 1) = ((N0 + 1 : Nat) : Int) := by unfold wrap64; omega
      have HY := Aside0.mk (fun (Wx : World) (hb : Below wr.heap.size wr Wx) => (show Wx.cell? ⟨g, 0, none⟩ = some (.int .i64 (N0 : Int)) from hN0 ▸ pw_cell_below hb y0))
      rw [hN0] at y0
      have HOP := Aside0.mk (fun (Wx : World) (hb : Below wr.heap.size wr Wx) a b => (HJ.out.past hb).open_ a b)
      have HROP := Aside0.mk (fun (Wx : World) (hb : Below wr.heap.size wr Wx) a b => (HJ.out.past hb).ropen_ a b)
      have HEQ := Aside0.mk (fun a b => HR.out.openB_ a b)
      clear hN0 hig h64 h15 hpos hlt
      go_wp2
      clear y0 y1
      have HBo := Aside0.mk (Below.refl wr.heap.size wr)
      obtain ⟨wo, hwo⟩ : ∃ wo : World, wo = wr := ⟨_, rfl⟩
      rw [← hwo] at HBo HY HOP HROP HB
      have HBo2 : Aside0 (Below wo.heap.size wo wr) := ⟨by rw [hwo]; exact Below.refl _ _⟩
      clear hwo HBo
      go_loopg [10, 11] (N0 + 2) (fun gk v10 v11 Wc => ∃ a : Nat, v10 = .int .i64 a ∧ a + gk = N0 + 2 ∧ Aside0 (Below wo.heap.size wo Wc))
      case atStart => exact ⟨0, rfl, by omega, HBo2⟩
      case round =>
        clear HBo2
        obtain ⟨a, rfl, hag, HBa⟩ := hrel
        have y0 := HY.out _ HBa.out
        by_cases ha : a < N0 + 2
        case neg =>
          have ha2 : a = N0 + 2 := by omega
          subst ha2
          have d2 : decide (((N0 + 2 : Nat) : Int) ≤ ((N0 + 1 : Nat) : Int)) = false := by simp
          have d3 : decide ((N0 : Int) + 2 ≤ (N0 : Int) + 1) = false := by simp
          go_wp2
          go_ret
          exact ⟨rfl, below_then HB.out HB.out.size HBa.out⟩
        have d2 : decide ((a : Int) ≤ ((N0 + 1 : Nat) : Int)) = true := by simp; omega
        have d3 : decide ((a : Int) ≤ (N0 : Int) + 1) = true := by simp; omega
        have hqa : wrap64 ((a : Int) + 1) = ((a + 1 : Nat) : Int) := by unfold wrap64; omega
        have HQA := Aside0.mk hqa
        obtain ⟨k1, rfl⟩ : ∃ k1, gk = k1 + 1 := ⟨gk - 1, by omega⟩
        have HAG := Aside0.mk (show (a + 1) + k1 = N0 + 2 by omega)
        clear hag
        go_wp2
        clear y0
        go_loopg [11] (N0 + 2) (fun gk v11 Wc => ∃ b : Nat, v11 = .int .i64 b ∧ b + gk = N0 + 2 ∧ Aside0 (Below wo.heap.size wo Wc))
        case atStart => exact ⟨0, rfl, by omega, HBa⟩
        case round =>
          clear HBa
          obtain ⟨b, rfl, hbg, HBb⟩ := hrel
          have y0 := HY.out _ HBb.out
          by_cases hb : b < N0 + 2
          case neg =>
            have hb1 : N0 + 2 ≤ b := by omega
            have d4 : decide ((b : Int) ≤ ((N0 + 1 : Nat) : Int)) = false := by simp; omega
            have d5 : decide ((b : Int) ≤ (N0 : Int) + 1) = false := by simp; omega
            clear hbg hb hb1 ha
            go_wp2
            go_roundg k1
            case measure => exact Nat.lt_succ_self _
            case rel => exact ⟨a + 1, by first | rfl | rw [HQA.out], HAG.out, HBb⟩
          have d4 : decide ((b : Int) ≤ ((N0 + 1 : Nat) : Int)) = true := by simp; omega
          have d5 : decide ((b : Int) ≤ (N0 : Int) + 1) = true := by simp; omega
          have hqb : wrap64 ((b : Int) + 1) = ((b + 1 : Nat) : Int) := by unfold wrap64; omega
          have HQB := Aside0.mk hqb
          obtain ⟨k2, rfl⟩ : ∃ k2, gk = k2 + 1 := ⟨gk - 1, by omega⟩
          have HBG := Aside0.mk (show (b + 1) + k2 = N0 + 2 by omega)
          have hop := HOP.out _ HBb.out a b
          have hrop := HROP.out _ HBb.out a b
          rw [HEQ.out] at hop
          generalize ropenB m (a : Int) (b : Int) = ob at *
          have HO1 := Aside0.mk hop
          have HO2 := Aside0.mk hrop
          clear hop hrop hbg hb ha
          go_wp2_with (first
            | (go_at_call 26; refine HO1.out.mono ?_; rintro e w5 ⟨rfl, rfl⟩)
            | (go_at_call 44; refine HO2.out.mono ?_; rintro e w5 ⟨rfl, hb⟩; have HB2 := Aside0.mk (below_then HBb.out HBb.out.size hb); clear hb))
          go_roundg k2
          case measure => exact Nat.lt_succ_self _
          case rel => exact ⟨b + 1, by first | rfl | rw [HQB.out], HBG.out, HB2⟩
    have d1 : decide ((i : Int) - 1 ≤ (m.Bag.length : Int)) = true := by simp; omega
    have hq : wrap64 ((i : Int) - 1 + 1) = (i : Int) := by unfold wrap64; omega
    have HQ := Aside0.mk hq
    have hat := HJ.out.atB ((i : Int) - 1)
    have hrat := fun (Wx : World) (hb : Below wr.heap.size wr Wx) => (HJ.out.past hb).rat_ ((i : Int) - 1)
    rw [HR.out.atE_, HR.out.atM_] at hat
    generalize ratE m ((i : Int) - 1) = e1 at *
    generalize ratM m ((i : Int) - 1) = x at *
    have HAT := Aside0.mk hat
    have HRAT := Aside0.mk hrat
    clear hat hrat
    obtain ⟨k1, rfl⟩ : ∃ k1, gk = k1 + 1 := ⟨gk - 1, by omega⟩
    have HIG := Aside0.mk (show (i + 1) + k1 = m.Bag.length + 2 by omega)
    clear hig h15 h64
    generalize (i : Int) - 1 = j at *
    go_wp2_with (first
      | (go_at_call 16; refine HAT.out.mono ?_; rintro e w2 ⟨A, c, rfl, hC, hc, hb⟩; have HB2 := Aside0.mk (below_alloc hb (.cells #[.int .i64 x.f0, .int .i64 x.f1, .slice A x.f2.length c] 33)); have HC := Aside0.mk (Kd.C_below hC (below_alloc (Below.refl _ _) (.cells #[.int .i64 x.f0, .int .i64 x.f1, .slice A x.f2.length c] 33))); have HA := Aside0.mk (heap_alloc_new w2 (.cells #[.int .i64 x.f0, .int .i64 x.f1, .slice A x.f2.length c] 33)); clear hC hb y0 y1)
      | (go_at_call 37; refine (HRAT.out _ HB2.out).mono ?_; rintro e w3 ⟨A', c', rfl, hc', ⟨ok, hF', _⟩, hb⟩; have HB3 := Aside0.mk (below_alloc (below_then HB2.out HB2.out.size hb) (.cells #[.int .i64 x.f0, .int .i64 x.f1, .slice A' x.f2.length c'] 33)); have HC2 := Aside0.mk (Kd.C_below HC.out (below_alloc hb (.cells #[.int .i64 x.f0, .int .i64 x.f1, .slice A' x.f2.length c'] 33))); have HF := Aside0.mk (Kd.F_now (Kd.F_alloc hF' (.cells #[.int .i64 x.f0, .int .i64 x.f1, .slice A' x.f2.length c'] 33))); have HA2 := Aside0.mk (blk_alloc (blk_below HA.out hb) (.cells #[.int .i64 x.f0, .int .i64 x.f1, .slice A' x.f2.length c'] 33)); clear hF' hb HA HC; obtain ⟨a0, _⟩ := cells_at HA2.out (j := 0) rfl; obtain ⟨a1, _⟩ := cells_at HA2.out (j := 1) rfl; obtain ⟨a2, _⟩ := cells_at HA2.out (j := 2) rfl)
      | (go_at_call 31; refine (scrivenerref05_Same.calls x.f0 x.f1 A c x.f2 x.f0 x.f1 A' c' x.f2 true _ HC2.out hc HF.out hc' (same_self _ _ _)).mono ?_; rintro e w9 ⟨rfl, hb⟩; have HB4 := Aside0.mk (below_then HB.out HB.out.size (below_then HB3.out HB3.out.size hb)); clear hb))
    go_roundg k1
    case measure => exact Nat.lt_succ_self _
    case rel => exact ⟨i + 1, by rw [show ((i + 1 : Nat) : Int) - 1 = (i : Int) by omega]; first | rfl | rw [HQ.out], HIG.out, HB4⟩
end Go.Proofs.Ytnaefndclalepaa.Net
