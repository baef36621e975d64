/- One of a row of messages is deleted; the net's take. -/
import Derived.Test.YtnaefndclalepaaTake
namespace Go.Proofs.Ytnaefndclalepaa.Net
set_option linter.unusedVariables false
set_option linter.unusedSimpArgs false
open Go.RowKit Go.Proofs.YtnaefndclalepaaW.PrintWords Go.Proofs.YtnaefndclalepaaW.PrintLast Go.Proofs.YtnaefndclalepaaW.PrintMore Go.Proofs.Ytnaefndclalepaa.XN
def del.T5 : Bool × List (List Nat × List Nat) := (true, [([], []), ([], []), ([0, 1], [0, 1]), ([], []), ([], []), ([3, 4], [3, 4]), ([2, 5], [2, 5]), ([6, 6, 0, 1, 2, 3, 4, 5, 6], [0, 3, 6])])
def del.B5 : List Nat := [0, 0, 3, 0, 0, 24, 63, 127]
theorem del.tab5 : rtab .any (opsOf Try.f45 5) = del.T5 := by kernel_rfl
theorem del.bits5 : waitsOk del.T5.2 del.B5 = true := by kernel_rfl
theorem hAdd (b c i : Nat) : (if c = i + 1 then some (⟨b, 0, none⟩ : Addr) else some ⟨b, (i + 1) * 3, none⟩) = if c = i + 1 then some ⟨b, 0, none⟩ else (some (⟨b, 0, none⟩ : Addr)).map (·.add ((i + 1) * k33.sz)) := by
  by_cases h : c = i + 1
  · rw [if_pos h, if_pos h]
  · rw [if_neg h, if_neg h, Option.map_some, Addr.add_lit, Nat.zero_add]; rfl
theorem n_cap {W : World} {ok : Nat → Prop} {A : Option Addr} {n c : Nat} {l : List S33} (h : Kd.N k33 33 W 0 ok (.slice A n c) l) : c ≤ 9223372036854775807 := by
  obtain ⟨_, rows, _, ⟨_, inner, hown, _⟩, _⟩ := h
  rcases hown.2 with ⟨hv, _⟩ | ⟨g', cap', cur, hv, hb, hh, hn, hcm, hcs, htake⟩
  · injection hv with _ _ e; omega
  · injection hv with _ _ e; rw [e]; exact hcm
set_option maxHeartbeats 4000000 in
set_option maxRecDepth 100000 in
theorem delete_c (b c i : Nat) (l : List S33) (w : World) (ok : Nat → Prop) (h : Kd.N k33 33 w 0 ok (.slice (some ⟨b, 0, none⟩) l.length c) l) (hi : i < l.length) (hl : l.length < 1000000) :
    Calls Try.prog 45 #[.slice (some ⟨b, 0, none⟩) l.length c, .int .i64 i, .int .i64 ((i : Int) + 1)] w fun e w' => e = .returned (.slice (some ⟨b, 0, none⟩) (l.length - 1) c) ∧ Kd.N k33 33 w' 0 ok (.slice (some ⟨b, 0, none⟩) (l.length - 1) c) (l.eraseIdx i) ∧ Fr (fun k => k = b) w w' := by
  have hlc : l.length ≤ c := (Kd.N_reads' h).2.1
  have hlm : l.length ≤ 9223372036854775807 := by omega
  have hcm : c ≤ 9223372036854775807 := n_cap h
  obtain ⟨m, hm⟩ : ∃ m, l.length = m + 1 := ⟨l.length - 1, by omega⟩
  have HM := Aside0.mk hm
  rw [hm] at h hi hl hlc hlm ⊢
  rw [Nat.add_sub_cancel]
  clear hm
  have H1 := Aside0.mk h
  have H0 := Aside0.mk (Kd.N_drew h)
  clear h
  have h1 : ((i : Int) == (i : Int) + 1) = false := by simp; omega
  have h2 : ((i : Int) + 1) = ((i + 1 : Nat) : Int) := by omega
  rw [h2] at *
  have h3 : i ≤ c := by omega
  have h4 : i + 1 ≤ c := by omega
  have h5 : i + 1 ≤ m + 1 := by omega
  have h6 : i ≤ i + 1 := by omega
  have h7 : ((i : Int) = ((i + 1 : Nat) : Int)) = False := by simp; omega
  have h8 : 0 ≤ (i : Int) + 1 := by omega
  have h9 : (i : Int) + 1 ≤ ((m + 1 : Nat) : Int) := by omega
  have h10 : m ≤ c := by omega
  have h11 : (i : Int) + 1 ≤ (m : Int) + 1 := by omega
  have h12 : m ≤ m + 1 := by omega
  have h13 : ¬ c = m := by omega
  have h14 : i ≤ m := by omega
  go_enter Try.func45, Try.ntmps45
  go_wp2_with fail
  refine start_ (n := 8) (S := fun w' => True) (ds := [6]) #[false, false, false, false, false, false, false, false] (by kernel_rfl) rfl rfl trivial (fun hHeld => ?_)
  refine with_tabW del.tab5 del.bits5 (fun HT_ HW_ => ?_)
  have H2 := Aside0.mk (Kd.N_drew H1.out)
  have F1 := Aside0.mk (Fr.refl (fun k => k = b) w).drew
  clear H1 H0
  generalize w.drew = w1 at H2 F1 ⊢
  -- 0: Op.move
  refine pure_ (i := 0) (N := some 20) (v := ?_) (a' := ?_) #[true, false, false, false, false, false, false, false] rfl rfl (any_of HT_.out (by kernel_rfl)) (fun _ _ _ h => h) (Or.inl ⟨by rfl, ?_⟩) ?_ ?_
  rotate_left; (intro w'; go_simp; with_reducible rfl); rotate_left; (simp only [Act.put, List.setIfInBounds_toArray, List.set_cons_zero, List.set_cons_succ, i64_w, i32_w]; rfl)
  -- 1: Op.move
  refine pure_ (i := 1) (N := some 21) (v := ?_) (a' := ?_) #[true, true, false, false, false, false, false, false] rfl rfl (any_of HT_.out (by kernel_rfl)) (fun _ _ _ h => h) (Or.inl ⟨by rfl, ?_⟩) ?_ ?_
  rotate_left; (intro w'; go_simp; with_reducible rfl); rotate_left; (simp only [Act.put, List.setIfInBounds_toArray, List.set_cons_zero, List.set_cons_succ, i64_w, i32_w]; rfl)
  -- 2: Op.slice
  refine pure_ (i := 2) (N := some 22) (v := ?_) (a' := ?_) #[true, true, true, false, false, false, false, false] rfl rfl (any_of HT_.out (by kernel_rfl)) (fun _ _ _ h => h) (Or.inl ⟨by rfl, ?_⟩) ?_ ?_
  rotate_left; (intro w'; go_simp; with_reducible rfl); rotate_left; (simp only [Act.put, List.setIfInBounds_toArray, List.set_cons_zero, List.set_cons_succ, i64_w, i32_w]; rfl)
  -- 3: Op.move
  refine pure_ (i := 3) (N := some 23) (v := ?_) (a' := ?_) #[true, true, true, true, false, false, false, false] rfl rfl (any_of HT_.out (by kernel_rfl)) (fun _ _ _ h => h) (Or.inl ⟨by rfl, ?_⟩) ?_ ?_
  rotate_left; (intro w'; go_simp; with_reducible rfl); rotate_left; (simp only [Act.put, List.setIfInBounds_toArray, List.set_cons_zero, List.set_cons_succ, i64_w, i32_w]; rfl)
  -- 4: Op.move
  refine pure_ (i := 4) (N := some 24) (v := ?_) (a' := ?_) #[true, true, true, true, true, false, false, false] rfl rfl (any_of HT_.out (by kernel_rfl)) (fun _ _ _ h => h) (Or.inl ⟨by rfl, ?_⟩) ?_ ?_
  rotate_left; (intro w'; go_simp; with_reducible rfl); rotate_left; (simp only [Act.put, List.setIfInBounds_toArray, List.set_cons_zero, List.set_cons_succ, i64_w, i32_w]; rfl)
  -- 5: Op.slice
  refine pure_ (i := 5) (N := some 25) (v := ?_) (a' := ?_) #[true, true, true, true, true, true, false, false] rfl rfl (any_of HT_.out (by kernel_rfl)) (fun _ _ _ h => h) (Or.inl ⟨by rfl, ?_⟩) ?_ ?_
  rotate_left; (intro w'; go_simp; with_reducible rfl); rotate_left; (simp only [Act.put, List.setIfInBounds_toArray, List.set_cons_zero, List.set_cons_succ, i64_w, i32_w]; rfl)
  -- 6: Op.call
  refine last_ (i := 6) (N := some 26) #[true, true, true, true, true, true, true, false] rfl rfl (one_of HT_.out (by kernel_rfl)) (by decide) (fun K hK => ?_)
  refine Kd.N_delete_step k33 (w0 := w1) 0 (by rfl) (.tmp 22) (.tmp 25) 39 33 rfl Try.underlying39 rfl (g := b) (n := m + 1) (c := c) (k := i) (m := m - i) (c2 := c - (i + 1)) (A := if c = i + 1 then some ⟨b, 0, none⟩ else some ⟨b, (i + 1) * 3, none⟩) rfl rfl (hAdd b c i) (by omega) H2.out hi (Below.refl _ _) (Nat.zero_le _) ?_
  intro w2 hN hB hG
  have HN2 := Aside0.mk hN
  have F2 := Aside0.mk (F1.out.grown hG hB (fun k e _ => by injection e with e; exact e.symm))
  clear hN hB hG
  have hEl : (l.eraseIdx i).length = m := by rw [List.length_eraseIdx_of_lt (by have := HM.out; omega), HM.out]; rfl
  have HN2 := Aside0.mk (show Kd.N k33 33 w2 0 ok (.slice (some ⟨b, 0, none⟩) (l.eraseIdx i).length c) (l.eraseIdx i) by rw [hEl]; exact HN2.out)
  obtain ⟨w3, hcl, hN3, hG3⟩ := clear_tail HN2.out (by rw [hEl]; omega) (c - m)
  rw [hEl] at hcl hN3
  have HN3 := Aside0.mk hN3
  have F3 := Aside0.mk (F2.out.grown hG3 ⟨hG3.os, hG3.tape, hG3.output, hG3.size, fun k hk => absurd hk (by omega)⟩ (fun k e _ => by injection e with e; exact e.symm))
  clear hN3 hG3 hEl
  have hcl2 : ∀ ty, (Builtin.clear_ #[39] ty #[.slice (some ⟨b, m * 3, none⟩) 1 (c - m)]).run Try.prog w2 = .ok (.tuple #[]) w3 := by rw [Nat.mul_comm]; exact hcl
  clear hcl
  refine hK.out _ _ ?_
  clear hK K
  refine norm_ (a' := ?_) ?_ ?_
  rotate_left; (show Act.put _ (some 26) _ = _; simp only [Act.put, List.setIfInBounds_toArray, List.set_cons_zero, List.set_cons_succ, i64_w, i32_w]; rfl)
  -- 7: Op.assign
  refine pure_ (i := 7) (N := some 0) (v := ?_) (a' := ?_) #[true, true, true, true, true, true, true, true] rfl rfl (any_of HT_.out (by kernel_rfl)) (fun _ _ _ h => h) (Or.inl ⟨by rfl, ?_⟩) ?_ ?_
  rotate_left; (intro w'; go_simp; with_reducible rfl); rotate_left; (simp only [Act.put, List.setIfInBounds_toArray, List.set_cons_zero, List.set_cons_succ, i64_w, i32_w]; rfl)
  refine done_ (done_of HT_.out (by kernel_rfl)) ?_
  go_wp2
  · rename_i h
    subst h
    go_ret
    exact ⟨rfl, HN3.out, F3.out⟩
  · go_ret
    exact ⟨rfl, HN3.out, F3.out⟩
end Go.Proofs.Ytnaefndclalepaa.Net
