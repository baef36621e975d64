/- The net's links: cut and healed. -/
import Derived.Test.YtnaefndclalepaaSmall
namespace Go.Proofs.Ytnaefndclalepaa.Net
set_option linter.unusedVariables false
set_option linter.unusedSimpArgs false
open Go.RowKit Go.Proofs.YtnaefndclalepaaW.PrintWords Go.Proofs.YtnaefndclalepaaW.PrintLast Go.Proofs.YtnaefndclalepaaW.PrintMore Go.Proofs.Ytnaefndclalepaa.XN
def link.T3 : Bool × List (List Nat × List Nat) := (true, [([], []), ([], []), ([], []), ([], []), ([], []), ([], []), ([], []), ([], []), ([0], [0]), ([8], [8]), ([9, 1], [1, 9]), ([10, 2, 0, 1, 2, 6], [2, 10]), ([11, 6, 0, 1, 2, 6], [6, 11]), ([3], [3]), ([13], [13]), ([14, 4], [4, 14]), ([15, 5, 0, 1, 2, 3, 4, 5, 6, 7, 8, 9, 10, 11, 12], [5, 15]), ([16, 7, 12, 0, 1, 2, 3, 4, 5, 6, 7, 8, 9, 10, 11, 12], [7, 16])])
def link.B3 : List Nat := [0, 0, 0, 0, 0, 0, 0, 0, 1, 257, 771, 1863, 3911, 8, 8200, 24600, 65535, 131071]
theorem link.tab3 : rtab .any (opsOf Try.f34 3) = link.T3 := by kernel_rfl
theorem link.bits3 : waitsOk link.T3.2 link.B3 = true := by kernel_rfl
/-- A link's both ways, set. -/
def NetS.set (n : NetS) (i : Nat) (c : Bool) : NetS := { n with cut := fun j => if j = i then c else n.cut j }
theorem IsNet.mine {W : World} {g : Nat} {fp : Nat → Prop} {n : NetS} (h : IsNet W g fp n) : fp g := by
  obtain ⟨_, _, _, _, _, _, _, _, hg, _⟩ := h
  exact hg
theorem IsNet.drew {W : World} {g : Nat} {fp : Nat → Prop} {n : NetS} (h : IsNet W g fp n) : IsNet W.drew g fp n := h.fr (Fr.refl (fun _ => False) W).drew (fun _ _ h => h)
theorem IsNet.setCut {W : World} {g : Nat} {fp : Nat → Prop} {n : NetS} (h : IsNet W g fp n) (i : Nat) (hi : i < 256) (c : Bool) : IsNet (W.setCell ⟨g, 3 + i, none⟩ (.bool c)) g fp (n.set i c) := by
  obtain ⟨cs, vA, hb, hsz, h0, h1, h2, hc, hg, hlt, hN⟩ := h
  refine ⟨cs.setIfInBounds (3 + i) (.bool c), vA, blk_set hb (3 + i) (.bool c), by simpa using hsz, ?_, ?_, ?_, ?_, hg, ?_, ?_⟩
  · rw [Array.getElem?_setIfInBounds_ne (by omega)]; exact h0
  · rw [Array.getElem?_setIfInBounds_ne (by omega)]; exact h1
  · rw [Array.getElem?_setIfInBounds_ne (by omega)]; exact h2
  · intro j hj
    simp only [NetS.set]
    by_cases e : j = i
    · subst e
      rw [Array.getElem?_setIfInBounds_self_of_lt (by omega)]
      simp
    · rw [Array.getElem?_setIfInBounds_ne (by omega), if_neg e]
      exact hc j hj
  · intro k hk
    exact Nat.lt_of_lt_of_le (hlt k hk) (Below.setCell (Below.refl 0 W) (p := ⟨g, 3 + i, none⟩) (Nat.zero_le _) (.bool c)).size
  · exact Kd.N_far hN (fun k hk => hk.2) _
theorem IsNet.cutCell {W : World} {g : Nat} {fp : Nat → Prop} {n : NetS} (h : IsNet W g fp n) (i : Nat) (hi : i < 256) : W.cell? ⟨g, 3 + i, none⟩ = some (.bool (n.cut i)) ∧ W.frozen? ⟨g, 3 + i, none⟩ = false := by
  obtain ⟨cs, vA, hb, hsz, h0, h1, h2, hc, hg, hlt, hN⟩ := h
  exact cells_at hb (hc i hi)
/-- .. of two nodes, if they are two. -/
def NetS.link (n : NetS) (a b : Int) (c : Bool) : NetS := if twoB n.nodes a b = true then (n.set (16 * a.toNat + b.toNat) c).set (16 * b.toNat + a.toNat) c else n
def linkE (n : NetS) (a b : Int) : Int := if twoB n.nodes a b = true then 0 else 1
set_option maxHeartbeats 2000000 in
set_option maxRecDepth 100000 in
theorem link_r (n : NetS) (p : Option Addr) (fp : Nat → Prop) (w : World) (h : Recv w p fp n) (hm : n.nodes ≤ 15) (a b : Int) (c : Bool) : Calls Try.prog 34 #[.pointer p, .int .i64 a, .int .i64 b, .bool c] w fun e w' => e = E (linkE n a b) ∧ Recv w' p fp (n.link a b c) ∧ Fr fp w w' := by
  have ht := two_r n p fp w h a b
  unfold linkE NetS.link
  by_cases h2 : twoB n.nodes a b = true
  · obtain ⟨h1, h3, h4, h5, h6⟩ := twoB_spec h2
    rw [if_pos h2, if_pos h2]
    rcases h with ⟨rfl, rfl⟩ | ⟨g, rfl, h⟩
    · simp only at h3; omega
    · rw [h2] at ht
      have HT := Aside0.mk ht
      clear ht h2 h6
      obtain ⟨a, rfl⟩ := Int.eq_ofNat_of_zero_le (show 0 ≤ a by omega)
      obtain ⟨b, rfl⟩ := Int.eq_ofNat_of_zero_le (show 0 ≤ b by omega)
      have ha : a < 16 := by omega
      have hb : b < 16 := by omega
      clear h1 h3 h4 h5 hm
      simp only [Int.toNat_natCast] at *
      have I0 := Aside0.mk h.drew
      clear h
      obtain ⟨hc1, hf1⟩ := I0.out.cutCell (16 * a + b) (by omega)
      rw [show 3 + (16 * a + b) = 3 + a * 16 + b by omega] at hc1 hf1
      generalize n.cut (16 * a + b) = q1 at hc1
      have pa : 0 ≤ (a : Int) := by omega
      have pb : 0 ≤ (b : Int) := by omega
      have qa : (a : Int) < 16 := by omega
      have qb : (b : Int) < 16 := by omega
      go_enter Try.func34, Try.ntmps34
      go_wp2_with (first | (go_at_call 27; refine HT.out.mono ?_; rintro e w' ⟨rfl, rfl⟩))
      refine start_ (n := 18) (S := fun w' => True) (ds := []) #[false, false, false, false, false, false, false, false, false, false, false, false, false, false, false, false, false, false] (by kernel_rfl) rfl rfl trivial (fun hHeld => ?_)
      refine with_tabW link.tab3 link.bits3 (fun HT_ HW_ => ?_)
      have F0 := Aside0.mk (Fr.refl fp w).drew
      generalize w.drew = w0 at I0 F0 hc1 hf1 ⊢
      -- 0: Op.move
      refine pure_ (i := 0) (N := some 14) (v := ?_) (a' := ?_) #[true, false, false, false, false, false, false, false, false, false, false, false, false, false, false, false, false, false] rfl rfl (any_of HT_.out (by kernel_rfl)) (fun _ _ _ h => h) (Or.inl ⟨by rfl, ?_⟩) ?_ ?_
      rotate_left; (intro w'; go_simp; with_reducible rfl); rotate_left; (simp only [Act.put, List.setIfInBounds_toArray, List.set_cons_zero, List.set_cons_succ, i64_w, i32_w]; rfl)
      -- 1: Op.move
      refine pure_ (i := 1) (N := some 15) (v := ?_) (a' := ?_) #[true, true, false, false, false, false, false, false, false, false, false, false, false, false, false, false, false, false] rfl rfl (any_of HT_.out (by kernel_rfl)) (fun _ _ _ h => h) (Or.inl ⟨by rfl, ?_⟩) ?_ ?_
      rotate_left; (intro w'; go_simp; with_reducible rfl); rotate_left; (simp only [Act.put, List.setIfInBounds_toArray, List.set_cons_zero, List.set_cons_succ, i64_w, i32_w]; rfl)
      -- 2: Op.move
      refine pure_ (i := 2) (N := some 16) (v := ?_) (a' := ?_) #[true, true, true, false, false, false, false, false, false, false, false, false, false, false, false, false, false, false] rfl rfl (any_of HT_.out (by kernel_rfl)) (fun _ _ _ h => h) (Or.inl ⟨by rfl, ?_⟩) ?_ ?_
      rotate_left; (intro w'; go_simp; with_reducible rfl); rotate_left; (simp only [Act.put, List.setIfInBounds_toArray, List.set_cons_zero, List.set_cons_succ, i64_w, i32_w]; rfl)
      -- 3: Op.move
      refine pure_ (i := 3) (N := some 17) (v := ?_) (a' := ?_) #[true, true, true, true, false, false, false, false, false, false, false, false, false, false, false, false, false, false] rfl rfl (any_of HT_.out (by kernel_rfl)) (fun _ _ _ h => h) (Or.inl ⟨by rfl, ?_⟩) ?_ ?_
      rotate_left; (intro w'; go_simp; with_reducible rfl); rotate_left; (simp only [Act.put, List.setIfInBounds_toArray, List.set_cons_zero, List.set_cons_succ, i64_w, i32_w]; rfl)
      -- 4: Op.move
      refine pure_ (i := 4) (N := some 18) (v := ?_) (a' := ?_) #[true, true, true, true, true, false, false, false, false, false, false, false, false, false, false, false, false, false] rfl rfl (any_of HT_.out (by kernel_rfl)) (fun _ _ _ h => h) (Or.inl ⟨by rfl, ?_⟩) ?_ ?_
      rotate_left; (intro w'; go_simp; with_reducible rfl); rotate_left; (simp only [Act.put, List.setIfInBounds_toArray, List.set_cons_zero, List.set_cons_succ, i64_w, i32_w]; rfl)
      -- 5: Op.move
      refine pure_ (i := 5) (N := some 19) (v := ?_) (a' := ?_) #[true, true, true, true, true, true, false, false, false, false, false, false, false, false, false, false, false, false] rfl rfl (any_of HT_.out (by kernel_rfl)) (fun _ _ _ h => h) (Or.inl ⟨by rfl, ?_⟩) ?_ ?_
      rotate_left; (intro w'; go_simp; with_reducible rfl); rotate_left; (simp only [Act.put, List.setIfInBounds_toArray, List.set_cons_zero, List.set_cons_succ, i64_w, i32_w]; rfl)
      -- 6: Op.move
      refine pure_ (i := 6) (N := some 20) (v := ?_) (a' := ?_) #[true, true, true, true, true, true, true, false, false, false, false, false, false, false, false, false, false, false] rfl rfl (any_of HT_.out (by kernel_rfl)) (fun _ _ _ h => h) (Or.inl ⟨by rfl, ?_⟩) ?_ ?_
      rotate_left; (intro w'; go_simp; with_reducible rfl); rotate_left; (simp only [Act.put, List.setIfInBounds_toArray, List.set_cons_zero, List.set_cons_succ, i64_w, i32_w]; rfl)
      -- 7: Op.move
      refine pure_ (i := 7) (N := some 21) (v := ?_) (a' := ?_) #[true, true, true, true, true, true, true, true, false, false, false, false, false, false, false, false, false, false] rfl rfl (any_of HT_.out (by kernel_rfl)) (fun _ _ _ h => h) (Or.inl ⟨by rfl, ?_⟩) ?_ ?_
      rotate_left; (intro w'; go_simp; with_reducible rfl); rotate_left; (simp only [Act.put, List.setIfInBounds_toArray, List.set_cons_zero, List.set_cons_succ, i64_w, i32_w]; rfl)
      -- 8: Op.nilCheck
      refine pure_ (i := 8) (N := some 22) (v := ?_) (a' := ?_) #[true, true, true, true, true, true, true, true, true, false, false, false, false, false, false, false, false, false] rfl rfl (any_of HT_.out (by kernel_rfl)) (fun _ _ _ h => h) (Or.inl ⟨by rfl, ?_⟩) ?_ ?_
      rotate_left; (intro w'; go_simp; with_reducible rfl); rotate_left; (simp only [Act.put, List.setIfInBounds_toArray, List.set_cons_zero, List.set_cons_succ, i64_w, i32_w]; rfl)
      -- 9: Op.fieldAddr
      refine pure_ (i := 9) (N := some 23) (v := ?_) (a' := ?_) #[true, true, true, true, true, true, true, true, true, true, false, false, false, false, false, false, false, false] rfl rfl (any_of HT_.out (by kernel_rfl)) (fun _ _ _ h => h) (Or.inl ⟨by rfl, ?_⟩) ?_ ?_
      rotate_left; (intro w'; go_simp; with_reducible rfl); rotate_left; (simp only [Act.put, List.setIfInBounds_toArray, List.set_cons_zero, List.set_cons_succ, i64_w, i32_w]; rfl)
      -- 10: Op.indexAddr
      refine pure_ (i := 10) (N := some 24) (v := ?_) (a' := ?_) #[true, true, true, true, true, true, true, true, true, true, true, false, false, false, false, false, false, false] rfl rfl (any_of HT_.out (by kernel_rfl)) (fun _ _ _ h => h) (Or.inl ⟨by rfl, ?_⟩) ?_ ?_
      rotate_left; (intro w'; go_simp; with_reducible rfl); rotate_left; (simp only [Act.put, List.setIfInBounds_toArray, List.set_cons_zero, List.set_cons_succ, i64_w, i32_w]; rfl)
      -- 11: Op.indexAddr
      refine pure_ (i := 11) (N := some 25) (v := ?_) (a' := ?_) #[true, true, true, true, true, true, true, true, true, true, true, true, false, false, false, false, false, false] rfl rfl (any_of HT_.out (by kernel_rfl)) (fun _ _ _ h => h) (Or.inl ⟨by rfl, ?_⟩) ?_ ?_
      rotate_left; (intro w'; go_simp; with_reducible rfl); rotate_left; (simp only [Act.put, List.setIfInBounds_toArray, List.set_cons_zero, List.set_cons_succ, i64_w, i32_w]; rfl)
      -- 13: Op.nilCheck
      refine pure_ (i := 13) (N := some 26) (v := ?_) (a' := ?_) #[true, true, true, true, true, true, true, true, true, true, true, true, false, true, false, false, false, false] rfl rfl (any_of HT_.out (by kernel_rfl)) (fun _ _ _ h => h) (Or.inl ⟨by rfl, ?_⟩) ?_ ?_
      rotate_left; (intro w'; go_simp; with_reducible rfl); rotate_left; (simp only [Act.put, List.setIfInBounds_toArray, List.set_cons_zero, List.set_cons_succ, i64_w, i32_w]; rfl)
      -- 14: Op.fieldAddr
      refine pure_ (i := 14) (N := some 27) (v := ?_) (a' := ?_) #[true, true, true, true, true, true, true, true, true, true, true, true, false, true, true, false, false, false] rfl rfl (any_of HT_.out (by kernel_rfl)) (fun _ _ _ h => h) (Or.inl ⟨by rfl, ?_⟩) ?_ ?_
      rotate_left; (intro w'; go_simp; with_reducible rfl); rotate_left; (simp only [Act.put, List.setIfInBounds_toArray, List.set_cons_zero, List.set_cons_succ, i64_w, i32_w]; rfl)
      -- 15: Op.indexAddr
      refine pure_ (i := 15) (N := some 28) (v := ?_) (a' := ?_) #[true, true, true, true, true, true, true, true, true, true, true, true, false, true, true, true, false, false] rfl rfl (any_of HT_.out (by kernel_rfl)) (fun _ _ _ h => h) (Or.inl ⟨by rfl, ?_⟩) ?_ ?_
      rotate_left; (intro w'; go_simp; with_reducible rfl); rotate_left; (simp only [Act.put, List.setIfInBounds_toArray, List.set_cons_zero, List.set_cons_succ, i64_w, i32_w]; rfl)
      -- 12: Op.store
      refine one_ (i := 12) (N := none) #[true, true, true, true, true, true, true, true, true, true, true, true, true, true, true, true, false, false] rfl rfl (one_of HT_.out (by kernel_rfl)) (by decide) (fun K hK => ?_)
      refine skip_ (w1 := ?_) (by rfl) rfl ?_ ?_
      rotate_left
      · go_simp
        rfl
      refine hK.out _ _ trivial (fun hHeld => ?_)

      have I1 := Aside0.mk (I0.out.setCut (16 * a + b) (by omega) c)
      rw [show 3 + (16 * a + b) = 3 + a * 16 + b by omega] at I1
      have F1 := Aside0.mk (F0.out.setCell (p := ⟨g, 3 + a * 16 + b, none⟩) (fun _ => I0.out.mine) (.bool c))
      clear hc1 hf1
      generalize w0.setCell ⟨g, 3 + a * 16 + b, none⟩ (.bool c) = w1 at I1 F1 ⊢
      obtain ⟨hc2, hf2⟩ := I1.out.cutCell (16 * b + a) (by omega)
      rw [show 3 + (16 * b + a) = 3 + b * 16 + a by omega] at hc2 hf2
      clear hK K
      -- 16: Op.indexAddr
      refine pure_ (i := 16) (N := some 29) (v := ?_) (a' := ?_) #[true, true, true, true, true, true, true, true, true, true, true, true, true, true, true, true, true, false] rfl rfl (any_of HT_.out (by kernel_rfl)) (fun _ _ _ h => h) (Or.inl ⟨by rfl, ?_⟩) ?_ ?_
      rotate_left; (intro w'; go_simp; with_reducible rfl); rotate_left; (simp only [Act.put, List.setIfInBounds_toArray, List.set_cons_zero, List.set_cons_succ, i64_w, i32_w]; rfl)
      -- 17: Op.store
      refine one_ (i := 17) (N := none) #[true, true, true, true, true, true, true, true, true, true, true, true, true, true, true, true, true, true] rfl rfl (one_of HT_.out (by kernel_rfl)) (by decide) (fun K hK => ?_)
      refine skip_ (w1 := ?_) (by rfl) rfl ?_ ?_
      rotate_left
      · go_simp
        rfl
      refine hK.out _ _ trivial (fun hHeld => ?_)

      have I2 := Aside0.mk (I1.out.setCut (16 * b + a) (by omega) c)
      rw [show 3 + (16 * b + a) = 3 + b * 16 + a by omega] at I2
      have F2 := Aside0.mk (F1.out.setCell (p := ⟨g, 3 + b * 16 + a, none⟩) (fun _ => I1.out.mine) (.bool c))
      clear hc2 hf2
      generalize w1.setCell ⟨g, 3 + b * 16 + a, none⟩ (.bool c) = w2 at I2 F2 ⊢
      clear hK K
      refine done_ (done_of HT_.out (by kernel_rfl)) ?_
      go_wp2
      go_ret
      exact ⟨rfl, .inr ⟨g, rfl, I2.out⟩, F2.out⟩
  · rw [if_neg h2, if_neg h2]
    rw [Bool.eq_false_iff.2 h2] at ht
    clear h2
    have HT := Aside0.mk ht
    have HR := Aside0.mk h
    clear ht h
    go_enter Try.func34, Try.ntmps34
    go_wp2_with (first | (go_at_call 27; refine HT.out.mono ?_; rintro e w' ⟨rfl, rfl⟩))
    go_ret
    exact ⟨rfl, HR.out, Fr.refl _ _⟩
theorem cut_r (n : NetS) (p : Option Addr) (fp : Nat → Prop) (w : World) (h : Recv w p fp n) (hm : n.nodes ≤ 15) (a b : Int) : Calls Try.prog 18 #[.pointer p, .int .i64 a, .int .i64 b] w fun e w' => e = E (linkE n a b) ∧ Recv w' p fp (n.link a b true) ∧ Fr fp w w' := by
  have HL := Aside0.mk (link_r n p fp w h hm a b true)
  clear h
  generalize linkE n a b = q at *
  go_enter Try.func18, Try.ntmps18
  go_wp2_with (first | (go_at_call 34; refine HL.out.mono ?_; rintro e w' ⟨rfl, hr, hf⟩; have HR := Aside0.mk hr; have HF := Aside0.mk hf; clear hr hf))
  go_ret
  exact ⟨rfl, HR.out, HF.out⟩
theorem heal_r (n : NetS) (p : Option Addr) (fp : Nat → Prop) (w : World) (h : Recv w p fp n) (hm : n.nodes ≤ 15) (a b : Int) : Calls Try.prog 19 #[.pointer p, .int .i64 a, .int .i64 b] w fun e w' => e = E (linkE n a b) ∧ Recv w' p fp (n.link a b false) ∧ Fr fp w w' := by
  have HL := Aside0.mk (link_r n p fp w h hm a b false)
  clear h
  generalize linkE n a b = q at *
  go_enter Try.func19, Try.ntmps19
  go_wp2_with (first | (go_at_call 34; refine HL.out.mono ?_; rintro e w' ⟨rfl, hr, hf⟩; have HR := Aside0.mk hr; have HF := Aside0.mk hf; clear hr hf))
  go_ret
  exact ⟨rfl, HR.out, HF.out⟩
end Go.Proofs.Ytnaefndclalepaa.Net
