/- The document's net: Heal, Find, Deliver. -/
import Derived.Test.YtnaefndclalepaaRfb
namespace Go.Proofs.Ytnaefndclalepaa.Net
set_option linter.unusedVariables false
set_option linter.unusedSimpArgs false
open Go.RowKit Go.Shelf Go.Proofs.YtnaefndclalepaaW.PrintWords Go.Proofs.YtnaefndclalepaaW.PrintLast Go.Proofs.YtnaefndclalepaaW.PrintMore Go.Proofs.Ytnaefndclalepaa.XN
def rheal.T8 : Bool × List (List Nat × List Nat) := (true, [([], []), ([0], [0]), ([1], [1]), ([2], [2]), ([], []), ([3, 4], [3, 4]), ([5], [5]), ([], []), ([6, 7], [6, 7])])
def rheal.B8 : List Nat := [0, 1, 3, 7, 0, 31, 63, 0, 255]
theorem rheal.tab8 : rtab .any (opsOf Try.f42 8) = rheal.T8 := by kernel_rfl
theorem rheal.bits8 : waitsOk rheal.T8.2 rheal.B8 = true := by kernel_rfl
def rhealN (m : RefS) (a b : Int) : RefS := if twoB m.N a b = true then { m with Cuts := m.Cuts.filter (fun x => !decide (x = lkP m a b)) } else m
theorem filter_take (P : Int × Int → Bool) (l : List (Int × Int)) (i : Nat) (hi : i < l.length) : (l.take (i + 1)).filter P = (l.take i).filter P ++ (if P (l.getD i (0, 0)) then [l.getD i (0, 0)] else []) := by
  rw [List.take_succ_eq_append_getElem hi, List.filter_append]
  have e : l.getD i (0, 0) = l[i] := by simp [hi]
  rw [e]
  by_cases h : P l[i] = true
  · simp [h]
  · simp [h]
set_option maxHeartbeats 8000000 in
set_option maxRecDepth 100000 in
theorem rheal_c (m : RefS) (g : Nat) (fr : Nat → Prop) (w : World) (h : IsRef w g fr m) (a b : Int) (hl : m.Cuts.length ≤ 1000000) : Calls Try.prog 42 #[.pointer (some ⟨g, 0, none⟩), .int .i64 a, .int .i64 b] w fun e w' => e = E (rlinkE m a b) ∧ RefTo w w' g fr (rhealN m a b) := by
  have HI := Aside0.mk h
  have hlk := rlink_c m g fr w h a b
  unfold rhealN rlinkE
  obtain ⟨⟨lo, hi⟩, hp⟩ : ∃ x, lkP m a b = x := ⟨_, rfl⟩
  rw [hp] at hlk ⊢
  clear hp
  cases ht : twoB m.N a b
  · rw [ht] at hlk
    rw [if_neg (by decide), if_neg (by simp)]
    have HLK := Aside0.mk hlk
    clear hlk ht h
    go_enter Try.func42, Try.ntmps42
    go_wp2_with (go_at_call 48; refine HLK.out.mono ?_; rintro e w2 ⟨rfl, hb⟩; have HB := Aside0.mk (below_alloc hb (.cells #[.int .i64 lo, .int .i64 hi] 80)); clear hb)
    go_ret
    exact ⟨rfl, RefTo.same HI.out HB.out⟩
  rw [ht] at hlk
  rw [if_pos rfl, if_pos rfl]
  have HLK := Aside0.mk hlk
  have HOK := Aside0.mk h.lts
  clear hlk ht h
  obtain ⟨P, hP⟩ : ∃ P : Int × Int → Bool, P = fun x => !decide (x = (lo, hi)) := ⟨_, rfl⟩
  rw [← hP]
  have HP := Aside0.mk hP
  clear hP
  go_enter Try.func42, Try.ntmps42
  go_wp2_with (first
    | (go_at_call 48; refine HLK.out.mono ?_; rintro e w2 ⟨rfl, hb⟩; have HB := Aside0.mk (below_alloc hb (.cells #[.int .i64 lo, .int .i64 hi] 80)); have BX := Aside0.mk (heap_alloc_new w2 (.cells #[.int .i64 lo, .int .i64 hi] 80)); clear hb))
  have HFR0 : Aside0 (Fresh k80 80 w (w2.alloc (.cells #[.int .i64 lo, .int .i64 hi] 80)) (fun k => fr k ∧ k ≠ g) (.slice none 0 0) []) := ⟨Kd.N_nil _ _ _ _ _, HB.out⟩
  generalize w2.heap.size = bx at *
  go_loopg [9, 10] m.Cuts.length (fun gk v9 v10 W => ∃ i : Nat, v10 = .int .i64 i ∧ i + gk = m.Cuts.length ∧ (∃ A c, v9 = .slice A ((m.Cuts.take i).filter P).length c) ∧ Aside0 (Fresh k80 80 w W (fun k => fr k ∧ k ≠ g) v9 ((m.Cuts.take i).filter P)) ∧ Aside0 (W.heap[bx]? = some (.cells #[.int .i64 lo, .int .i64 hi] 80 (0, 0))) ∧ Aside0 (∀ k, v9.ownBlock = some k → k ≠ bx))
  case atStart => exact ⟨0, rfl, by omega, ⟨none, 0, rfl⟩, HFR0, BX, ⟨fun k hk => by cases hk⟩⟩
  case round =>
    clear HFR0 BX HB
    obtain ⟨i, rfl, hig, ⟨A9, c9, rfl⟩, HF, BX, HNE⟩ := hrel
    obtain ⟨AB, cB, AC, cC, x0, x1, x2, hcB, hcC, hFB, hFC⟩ := (HI.out.below HF.out.2).cells
    obtain ⟨y0, _⟩ := cells_at BX.out (j := 0) rfl
    obtain ⟨y1, _⟩ := cells_at BX.out (j := 1) rfl
    have HFC := Aside0.mk hFC
    clear hFB hFC x0 x1
    by_cases hlt : i < m.Cuts.length
    · obtain ⟨ad, rfl, u0, u1⟩ := at_80 (Kd.F_now HFC.out) i hlt
      have hlt' : (i : Int) < (m.Cuts.length : Int) := by omega
      have hq : wrap64 ((i : Int) + 1) = (i : Int) + 1 := by unfold wrap64; omega
      have HFT := Aside0.mk (filter_take P m.Cuts i hlt)
      obtain ⟨⟨p, q⟩, hp⟩ : ∃ x, m.Cuts.getD i (0, 0) = x := ⟨_, rfl⟩
      rw [hp] at u0 u1 HFT
      clear hp
      obtain ⟨tt, htt⟩ : ∃ tt, (p == lo && q == hi) = tt := ⟨_, rfl⟩
      have heq := fun (w : World) => eq80 w p q lo hi
      rw [htt] at heq
      have HPT : Aside0 (P (p, q) = !tt) := ⟨by
        rw [HP.out, ← htt]
        simp only [Prod.mk.injEq]
        by_cases e1 : p = lo <;> by_cases e2 : q = hi <;> simp [e1, e2]⟩
      rw [HPT.out] at HFT
      clear htt HPT
      have hfl : ((m.Cuts.take i).filter P).length ≤ 1000000 := Nat.le_trans (List.length_filter_le _ _) (Nat.le_trans (List.length_take_le _ _) (by omega))
      have HL2 := Aside0.mk (show (((m.Cuts.take i).filter P).length + 1) * 16 ≤ 140737488355328 by omega)
      clear hfl
      have HOKn := Aside0.mk (fun k (hk : (Value.slice A9 ((m.Cuts.take i).filter P).length c9).ownBlock = some k) => HNE.out k hk)
      generalize hLf : (m.Cuts.take i).filter P = L at *
      have HLF := Aside0.mk hLf
      clear hLf
      go_wp2
      refine start_ (n := 9) (S := fun w' => w'.cell? ⟨g, 2, none⟩ = some (.slice (some ad) m.Cuts.length cC) ∧ w'.cell? (ad.add (i * 2)) = some (.int .i64 p) ∧ w'.cell? ⟨(ad.add (i * 2)).block, (ad.add (i * 2)).off + 1, none⟩ = some (.int .i64 q) ∧ w'.cell? ⟨bx, 0, none⟩ = some (.int .i64 lo) ∧ w'.cell? ⟨bx, 1, none⟩ = some (.int .i64 hi)) (ds := []) #[false, false, false, false, false, false, false, false, false] (by kernel_rfl) rfl rfl ⟨x2, u0, u1, y0, y1⟩ (fun hHeld => ?_)
      refine with_tabW rheal.tab8 rheal.bits8 (fun HT_ HW_ => ?_)

      -- 0: Op.move
      refine pure_ (i := 0) (N := some 29) (v := ?_) (a' := ?_) #[true, false, false, false, false, false, false, false, false] rfl rfl (any_of HT_.out (by kernel_rfl)) (fun _ _ _ h => h) (Or.inl ⟨by rfl, ?_⟩) ?_ ?_
      rotate_left; (intro w'; go_simp; with_reducible rfl); rotate_left; (simp only [Act.put, List.setIfInBounds_toArray, List.set_cons_zero, List.set_cons_succ, i64_w, i32_w]; rfl)
      -- 1: Op.nilCheck
      refine pure_ (i := 1) (N := some 30) (v := ?_) (a' := ?_) #[true, true, false, false, false, false, false, false, false] rfl rfl (any_of HT_.out (by kernel_rfl)) (fun _ _ _ h => h) (Or.inl ⟨by rfl, ?_⟩) ?_ ?_
      rotate_left; (intro w'; go_simp; with_reducible rfl); rotate_left; (simp only [Act.put, List.setIfInBounds_toArray, List.set_cons_zero, List.set_cons_succ, i64_w, i32_w]; rfl)
      -- 2: Op.fieldAddr
      refine pure_ (i := 2) (N := some 31) (v := ?_) (a' := ?_) #[true, true, true, false, false, false, false, false, false] rfl rfl (any_of HT_.out (by kernel_rfl)) (fun _ _ _ h => h) (Or.inl ⟨by rfl, ?_⟩) ?_ ?_
      rotate_left; (intro w'; go_simp; with_reducible rfl); rotate_left; (simp only [Act.put, List.setIfInBounds_toArray, List.set_cons_zero, List.set_cons_succ, i64_w, i32_w]; rfl)
      -- 4: Op.move
      refine pure_ (i := 4) (N := some 33) (v := ?_) (a' := ?_) #[true, true, true, false, true, false, false, false, false] rfl rfl (any_of HT_.out (by kernel_rfl)) (fun _ _ _ h => h) (Or.inl ⟨by rfl, ?_⟩) ?_ ?_
      rotate_left; (intro w'; go_simp; with_reducible rfl); rotate_left; (simp only [Act.put, List.setIfInBounds_toArray, List.set_cons_zero, List.set_cons_succ, i64_w, i32_w]; rfl)
      -- 3: Op.load
      refine take_ (i := 3) (N := some 32) (v := ?_) (a' := ?_) #[true, true, true, true, true, false, false, false, false] rfl rfl (take_ofW HT_.out HW_.out (by kernel_rfl)) (fun _ _ _ h => h) (Or.inl ⟨by rfl, ?_⟩) hHeld ?_ ?_
      rotate_left; (rintro w' ⟨s0, s1, s2, s3, s4⟩; go_simp; with_reducible rfl); rotate_left; (simp only [Act.put, List.setIfInBounds_toArray, List.set_cons_zero, List.set_cons_succ, i64_w, i32_w]; rfl)
      -- 5: Op.indexAddr
      refine pure_ (i := 5) (N := some 34) (v := ?_) (a' := ?_) #[true, true, true, true, true, true, false, false, false] rfl rfl (any_of HT_.out (by kernel_rfl)) (fun _ _ _ h => h) (Or.inl ⟨by rfl, ?_⟩) ?_ ?_
      rotate_left; (intro w'; go_simp; with_reducible rfl); rotate_left; (simp only [Act.put, List.setIfInBounds_toArray, List.set_cons_zero, List.set_cons_succ, i64_w, i32_w]; rfl)
      -- 6: Op.load
      refine take_ (i := 6) (N := some 35) (v := ?_) (a' := ?_) #[true, true, true, true, true, true, true, false, false] rfl rfl (take_ofW HT_.out HW_.out (by kernel_rfl)) (fun _ _ _ h => h) (Or.inl ⟨by rfl, ?_⟩) hHeld ?_ ?_
      rotate_left; (rintro w' ⟨s0, s1, s2, s3, s4⟩; go_simp; with_reducible rfl); rotate_left; (simp only [Act.put, List.setIfInBounds_toArray, List.set_cons_zero, List.set_cons_succ, i64_w, i32_w]; rfl)
      -- 7: Op.load
      refine take_ (i := 7) (N := some 36) (v := ?_) (a' := ?_) #[true, true, true, true, true, true, true, true, false] rfl rfl (take_ofW HT_.out HW_.out (by kernel_rfl)) (fun _ _ _ h => h) (Or.inl ⟨by rfl, ?_⟩) hHeld ?_ ?_
      rotate_left; (rintro w' ⟨s0, s1, s2, s3, s4⟩; go_simp; with_reducible rfl); rotate_left; (simp only [Act.put, List.setIfInBounds_toArray, List.set_cons_zero, List.set_cons_succ, i64_w, i32_w]; rfl)
      -- 8: Op.binOp
      refine pure_ (i := 8) (N := some 37) (v := ?_) (a' := ?_) #[true, true, true, true, true, true, true, true, true] rfl rfl (any_of HT_.out (by kernel_rfl)) (fun _ _ _ h => h) (Or.inl ⟨by rfl, ?_⟩) ?_ ?_
      rotate_left; (intro w'; go_simp; with_reducible rfl); rotate_left; (simp only [Act.put, List.setIfInBounds_toArray, List.set_cons_zero, List.set_cons_succ, i64_w, i32_w]; rfl)
      refine done_ (done_of HT_.out (by kernel_rfl)) ?_
      clear y0 y1 hHeld heq
      obtain ⟨k1, rfl⟩ : ∃ k1, gk = k1 + 1 := ⟨gk - 1, by omega⟩
      have HFd := Aside0.mk (HF.out.past (below_drew (Below.refl _ _)))
      cases tt with
      | true =>
        clear x2 u0 u1
        go_wp2
        go_roundg k1
        case measure => omega
        case rel => exact ⟨i + 1, rfl, by omega, ⟨A9, c9, by rw [HFT.out]; simp⟩, ⟨by rw [HFT.out]; simpa using HFd.out⟩, ⟨blk_drew BX.out⟩, ⟨fun k hk => HNE.out k hk⟩⟩
      | false =>
        go_wp2_with (first
          | ((with_reducible refine gate_builtin (b := .append) (xs := #[.tmp 38, .tmp 46]) rfl ?_); at_builtin; refine fresh_one2 HFd.out rfl (.tmp 38) (.tmp 46) 62 _ 16 rfl Try.underlying62 info80r rfl (by decide) (by decide) (p, q) [.int .i64 p, .int .i64 q] (fun _ => False) rfl rfl (by simp) (fun W' _ => k80_mk W' (p, q)) (fun k hk => hk.elim) HL2.out ?_; intro v1 w5 hf hg hat; have BX2 := Aside0.mk (blk_grown (blk_drew BX.out) hg (fun e => HNE.out _ e.symm rfl)); have HNE2 := Aside0.mk (show ∀ k, v1.ownBlock = some k → k ≠ bx from fun k hk e => by
              rcases hat with h | ⟨b, h, hle⟩
              · rw [h] at hk; exact HNE.out k hk e
              · rw [h] at hk; injection hk with hk; have h3 := blk_lt BX.out; have h4 : wr.heap.size ≤ b := hle; omega); obtain ⟨A1, c1, rfl⟩ := hf.slice; have HF5 := Aside0.mk hf; clear hf hg hat))
        go_roundg k1
        case measure => omega
        case rel => exact ⟨i + 1, rfl, by omega, ⟨A1, c1, by rw [HFT.out]; simp⟩, ⟨by rw [HFT.out]; simpa using HF5.out⟩, BX2, ⟨fun k hk => HNE2.out k (by cases A1 <;> exact hk)⟩⟩
    · have hi : i = m.Cuts.length := by omega
      subst hi
      have hd : decide ((m.Cuts.length : Int) < (m.Cuts.length : Int)) = false := by simp
      rw [List.take_length] at HF
      have HR := Aside0.mk (RefTo.cuts HI.out HF.out)
      rw [List.take_length]
      obtain ⟨ABk, cBk, hbk⟩ := ref_blk2 (HI.out.below HF.out.2) x2
      have y3 := (cells_at hbk (j := 2) rfl).2
      clear hbk
      go_wp2
      go_ret
      exact ⟨rfl, HR.out⟩
/-! ### Deliver -/
theorem put3_fr {w4 : World} {b : Nat} (va vb vc : Value) : Fr (fun k => k = b) w4 (((w4.setCell ⟨b, 0, none⟩ va).setCell ⟨b, 1, none⟩ vb).setCell ⟨b, 2, none⟩ vc) :=
  (((Fr.refl (fun k => k = b) _).setCell (p := ⟨b, 0, none⟩) (fun _ => rfl) _).setCell (p := ⟨b, 1, none⟩) (fun _ => rfl) _).setCell (p := ⟨b, 2, none⟩) (fun _ => rfl) _
/-- An empty row leads to nothing. -/
theorem F_empty {α : Type} {d : Kd α} {W W' : World} {ok ok' : Nat → Prop} {A : Option Addr} {n : Nat} (h : Kd.F d W ok A n ([] : List α)) : Kd.F d W' ok' A n ([] : List α) := fun W2 _ => ⟨(Kd.F_now h).1, (Kd.F_now h).2.1, fun hp => by have := (Kd.F_now h).1; simp at this; omega⟩
def rdlvE (m : RefS) (i : Int) : Int := if ratE m i = 0 then (if ropenB m (ratM m i).f0 (ratM m i).f1 = true then 0 else 6) else 4
def rdlvM (m : RefS) (i : Int) : S33 := if rdlvE m i = 0 then ratM m i else z33
def rdlvN (m : RefS) (i : Int) : RefS := if rdlvE m i = 0 then { m with Bag := m.Bag.eraseIdx i.toNat } else m
theorem RefTo.box {w w1 w4 : World} {g : Nat} {fr : Nat → Prop} {m : RefS} (h : RefTo w1 w4 g fr m) (hb : Below w.heap.size w w1) (hlt : w.heap.size < w1.heap.size) (hfr : ∀ k, fr k → k < w.heap.size) (va vb vc : Value) : RefTo w (((w4.setCell ⟨w.heap.size, 0, none⟩ va).setCell ⟨w.heap.size, 1, none⟩ vb).setCell ⟨w.heap.size, 2, none⟩ vc) g fr m := by
  obtain ⟨fr', h1, h2, h3⟩ := h
  have hx : Fr (fun k => k = w.heap.size) w4 (((w4.setCell ⟨w.heap.size, 0, none⟩ va).setCell ⟨w.heap.size, 1, none⟩ vb).setCell ⟨w.heap.size, 2, none⟩ vc) :=
    (((Fr.refl (fun k => k = w.heap.size) _).setCell (p := ⟨w.heap.size, 0, none⟩) (fun _ => rfl) _).setCell (p := ⟨w.heap.size, 1, none⟩) (fun _ => rfl) _).setCell (p := ⟨w.heap.size, 2, none⟩) (fun _ => rfl) _
  refine ⟨fr', h1.fr hx (fun k hk e => ?_), fun k hk => (h2 k hk).imp id (Nat.le_trans hb.size), ((Fr.of_below hb (fun k => k = g)).trans h3 (fun k hk _ => hk)).trans hx (fun k e hk => by omega)⟩
  rcases h2 k hk with h | h
  · have := hfr k h; omega
  · omega
set_option maxHeartbeats 8000000 in
set_option maxRecDepth 100000 in
theorem rdlv_c (m : RefS) (g : Nat) (fr : Nat → Prop) (w : World) (h : IsRef w g fr m) (i : Int) (hl : m.Bag.length ≤ 1000000) (hl2 : m.Cuts.length ≤ 1000000) : Calls Try.prog 38 #[.pointer (some ⟨g, 0, none⟩), .int .i64 i] w fun e w' => ∃ A c, e = .returned (.tuple #[.agg #[.int .i64 (rdlvM m i).f0, .int .i64 (rdlvM m i).f1, .slice A (rdlvM m i).f2.length c], .int .i64 (rdlvE m i)]) ∧ (rdlvM m i).f2.length ≤ c ∧ Kd.F (Kd.int .u8) w' (fun k => fr k ∧ k ≠ g) A (rdlvM m i).f2.length (rdlvM m i).f2 ∧ RefTo w w' g fr (rdlvN m i) := by
  have HI := Aside0.mk h
  have hat := fun W (hI : IsRef W g fr m) => rat_c m g fr W hI i
  have HOP := Aside0.mk (fun W (hI : IsRef W g fr m) a b => ropen_c m g fr W hI a b hl2)
  have HO := Aside0.mk (fun (W : World) (hI : IsRef W g fr m) (k : Nat) (hk : k < m.Bag.length) => rout_c m g fr W hI k hk hl)
  have HFR := Aside0.mk h.lts
  have I0 := Aside0.mk (h.alloc (.cells #[.int .i64 0, .int .i64 0, .slice none 0 0] 33))
  have HB := Aside0.mk (below_alloc (Below.refl w.heap.size w) (.cells #[.int .i64 0, .int .i64 0, .slice none 0 0] 33))
  have BK := Aside0.mk (heap_alloc_new w (.cells #[.int .i64 0, .int .i64 0, .slice none 0 0] 33))
  unfold rdlvN rdlvM
  obtain ⟨de, hde⟩ : ∃ de, rdlvE m i = de := ⟨_, rfl⟩
  rw [hde]
  unfold rdlvE at hde
  by_cases he : ratE m i = 0
  · rw [if_pos he] at hde
    obtain ⟨h0, h1⟩ := ratE_eq he
    obtain ⟨k, rfl⟩ := Int.eq_ofNat_of_zero_le h0
    rw [he] at hat
    rw [Int.toNat_natCast] at h1 ⊢
    generalize ratM m k = x at *
    obtain ⟨f, t, l⟩ := x
    dsimp only at hde
    have hop := fun W (hI : IsRef W g fr m) => HOP.out W hI f t
    cases ho : ropenB m f t
    · rw [ho] at hop hde
      obtain rfl : (6 : Int) = de := by simpa using hde
      rw [if_neg (by decide), if_neg (by decide)]
      have HAT := Aside0.mk hat
      have HOP2 := Aside0.mk hop
      clear hat hop h he hde ho HOP HO
      go_enter Try.func38, Try.ntmps38
      go_wp2_with (first
        | (go_at_call 37; generalize (w.alloc (.cells #[.int .i64 0, .int .i64 0, .slice none 0 0] 33)) = w1 at *; refine (HAT.out _ I0.out).mono ?_; rintro e w2 ⟨A, c, rfl, hc, hF, hb⟩; have BK2 := Aside0.mk (blk_alloc (blk_below BK.out hb) (.cells #[.int .i64 f, .int .i64 t, .slice A l.length c] 33)); have BX2 := Aside0.mk (heap_alloc_new w2 (.cells #[.int .i64 f, .int .i64 t, .slice A l.length c] 33)); have HB2 := Aside0.mk (below_alloc (below_then HB.out HB.out.size hb) (.cells #[.int .i64 f, .int .i64 t, .slice A l.length c] 33)); have hI2 := (I0.out.below hb).alloc (.cells #[.int .i64 f, .int .i64 t, .slice A l.length c] 33); have I2 := Aside0.mk hI2; clear hc hF hb hI2)
        | (go_at_call 44; refine (HOP2.out _ I2.out).mono ?_; rintro e w3 ⟨rfl, hb⟩; have HB3 := Aside0.mk (below_then HB2.out HB2.out.size hb); have BK3 := Aside0.mk (blk_below BK2.out hb); clear hb; have z0 := (cells_at BK3.out (j := 0) rfl).1; have z1 := (cells_at BK3.out (j := 1) rfl).1; have z2 := (cells_at BK3.out (j := 2) rfl).1; have y0 := (cells_at BK3.out (j := 0) rfl).2; have y1 := (cells_at BK3.out (j := 1) rfl).2; have y2 := (cells_at BK3.out (j := 2) rfl).2))
      refine bodyPost_ret (results_ct rfl _ _ w.heap.size 33 #[.int .i64 0, .int .i64 0, .slice none 0 0] (0, 0) _ rfl (box_put3 BK3.out _ _ _) Try.underlying33 rfl (by kernel_rfl)) rfl ?_
      exact ⟨none, 0, rfl, Nat.le_refl _, Kd.F_nil _ _ _, RefTo.same HI.out (put3_below HB3.out _ _ _)⟩
    · rw [ho] at hop hde
      obtain rfl : (0 : Int) = de := by simpa using hde
      rw [if_pos rfl, if_pos rfl]
      have HAT := Aside0.mk hat
      have HOP2 := Aside0.mk hop
      clear hat hop h he hde ho HOP
      go_enter Try.func38, Try.ntmps38
      go_wp2_with (first
        | (go_at_call 37; obtain ⟨w1, hw1⟩ : ∃ w1, w1 = w.alloc (.cells #[.int .i64 0, .int .i64 0, .slice none 0 0] 33) := ⟨_, rfl⟩; rw [← hw1]; rw [← hw1] at I0 HB BK; have HS1 := Aside0.mk (show w.heap.size < w1.heap.size by rw [hw1]; simp); clear hw1; refine (HAT.out _ I0.out).mono ?_; rintro e w2 ⟨A, c, rfl, hc, hF, hb⟩; have BK2 := Aside0.mk (blk_alloc (blk_below BK.out hb) (.cells #[.int .i64 f, .int .i64 t, .slice A l.length c] 33)); have BX2 := Aside0.mk (heap_alloc_new w2 (.cells #[.int .i64 f, .int .i64 t, .slice A l.length c] 33)); have HB2 := Aside0.mk (below_alloc hb (.cells #[.int .i64 f, .int .i64 t, .slice A l.length c] 33)); have HFb := Aside0.mk hF; have HW2 := Aside0.mk hb.size; have hI2 := (I0.out.below hb).alloc (.cells #[.int .i64 f, .int .i64 t, .slice A l.length c] 33); have I2 := Aside0.mk hI2; clear hF hb hI2)
        | (go_at_call 44; refine (HOP2.out _ I2.out).mono ?_; rintro e w3 ⟨rfl, hb⟩; have HB3 := Aside0.mk (below_then HB2.out HB2.out.size hb); have BK3 := Aside0.mk (blk_below BK2.out hb); have BX3 := Aside0.mk (blk_below BX2.out hb); clear hb)
        | (go_at_call 50; refine (HO.out _ (I0.out.below HB3.out) k h1).mono ?_; rintro e w4 ⟨⟨v, rfl⟩, hR⟩; obtain ⟨fr', hr1, hr2, hr3⟩ := hR; have HR := Aside0.mk (RefTo.after ⟨fr', hr1, hr2, hr3⟩ HB3.out); have HE := Aside0.mk (hr3.block w.heap.size (Nat.lt_of_lt_of_le HS1.out HB3.out.size) (fun e => by have := HFR.out g HI.out.mine; omega)); have BK4 := Aside0.mk (HE.out.trans BK3.out); have BX4 := Aside0.mk ((hr3.block w2.heap.size (blk_lt BX3.out) (fun e => by have := HFR.out g HI.out.mine; have := HS1.out; have := HW2.out; omega)).trans BX3.out); have HF4 := Aside0.mk (Kd.F_step (Kd.F_below HFb.out HB3.out) (fun k hk hlt => hr3.block k hlt hk.2)); clear hr1 hr2 hr3; have z0 := (cells_at BK4.out (j := 0) rfl).1; have z1 := (cells_at BK4.out (j := 1) rfl).1; have z2 := (cells_at BK4.out (j := 2) rfl).1; have y0 := (cells_at BK4.out (j := 0) rfl).2; have y1 := (cells_at BK4.out (j := 1) rfl).2; have y2 := (cells_at BK4.out (j := 2) rfl).2; have x0 := (cells_at BX4.out (j := 0) rfl).1; have x1 := (cells_at BX4.out (j := 1) rfl).1; have x2 := (cells_at BX4.out (j := 2) rfl).1))
      refine bodyPost_ret (results_ct rfl _ _ w.heap.size 33 #[.int .i64 f, .int .i64 t, .slice A l.length c] (0, 0) _ rfl (box_put3 BK4.out _ _ _) Try.underlying33 rfl (by kernel_rfl)) rfl ?_
      exact ⟨A, c, rfl, hc, Kd.F_step HF4.out (fun k hk hlt => (put3_fr _ _ _).block k hlt (fun e => by have := HFR.out k hk.1; omega)), RefTo.box HR.out HB.out HS1.out HFR.out _ _ _⟩
  · obtain ⟨h4, hz⟩ := ratE_ne he
    rw [if_neg he] at hde
    subst hde
    rw [if_neg (by decide), if_neg (by decide)]
    rw [h4, hz] at hat
    have HAT := Aside0.mk hat
    clear hat h he h4 hz HOP HO
    go_enter Try.func38, Try.ntmps38
    go_wp2_with (first
      | (go_at_call 37; generalize (w.alloc (.cells #[.int .i64 0, .int .i64 0, .slice none 0 0] 33)) = w1 at *; refine (HAT.out _ I0.out).mono ?_; rintro e w2 ⟨A, c, rfl, hc, hF, hb⟩; have BK2 := Aside0.mk (blk_alloc (blk_below BK.out hb) (.cells #[.int .i64 z33.f0, .int .i64 z33.f1, .slice A z33.f2.length c] 33)); have BX2 := Aside0.mk (heap_alloc_new w2 (.cells #[.int .i64 z33.f0, .int .i64 z33.f1, .slice A z33.f2.length c] 33)); have HB2 := Aside0.mk (below_alloc (below_then HB.out HB.out.size hb) (.cells #[.int .i64 z33.f0, .int .i64 z33.f1, .slice A z33.f2.length c] 33)); clear hb; have HFb := Aside0.mk hF; clear hF; have z0 := (cells_at BK2.out (j := 0) rfl).1; have z1 := (cells_at BK2.out (j := 1) rfl).1; have z2 := (cells_at BK2.out (j := 2) rfl).1; have y0 := (cells_at BK2.out (j := 0) rfl).2; have y1 := (cells_at BK2.out (j := 1) rfl).2; have y2 := (cells_at BK2.out (j := 2) rfl).2))
    refine bodyPost_ret (results_ct rfl _ _ w.heap.size 33 #[.int .i64 z33.f0, .int .i64 z33.f1, .slice A z33.f2.length c] (0, 0) _ rfl (box_put3 BK2.out _ _ _) Try.underlying33 rfl (by kernel_rfl)) rfl ?_
    exact ⟨A, c, rfl, hc, F_empty HFb.out, RefTo.same HI.out (put3_below HB2.out _ _ _)⟩
/-! ### Find -/
/-- The first number from lo on, below n, of which P holds. -/
def First (P : Nat → Bool) (lo n : Nat) : Option Nat → Prop
  | none => ∀ j, lo ≤ j → j < n → P j = false
  | some k => (lo ≤ k ∧ k < n) ∧ P k = true ∧ ∀ j, lo ≤ j → j < k → P j = false
theorem First.unique {P P' : Nat → Bool} {lo n : Nat} (he : ∀ j, lo ≤ j → j < n → P j = P' j) : ∀ {a b : Option Nat}, First P lo n a → First P' lo n b → a = b
  | none, none, _, _ => rfl
  | none, some k, ha, hb => by
    have := ha k hb.1.1 hb.1.2
    rw [he k hb.1.1 hb.1.2, hb.2.1] at this
    cases this
  | some k, none, ha, hb => by
    have := hb k ha.1.1 ha.1.2
    rw [← he k ha.1.1 ha.1.2, ha.2.1] at this
    cases this
  | some k, some j, ha, hb => by
    rcases Nat.lt_trichotomy k j with h | h | h
    · have := hb.2.2 k ha.1.1 h
      rw [← he k ha.1.1 ha.1.2, ha.2.1] at this
      cases this
    · rw [h]
    · have := ha.2.2 j hb.1.1 h
      rw [he j hb.1.1 hb.1.2, hb.2.1] at this
      cases this
def rfP (m : RefS) (tt : Int) (j : Nat) : Bool := ((m.Bag.getD j z33).f1 == tt) && ropenB m (m.Bag.getD j z33).f0 tt
def oI (r : Option Nat) : Int := match r with | some k => k | none => 0
set_option maxHeartbeats 8000000 in
set_option maxRecDepth 100000 in
theorem rfind_c (m : RefS) (g : Nat) (fr : Nat → Prop) (w : World) (h : IsRef w g fr m) (tt i0 : Int) (hl : m.Bag.length ≤ 1000000) (hl2 : m.Cuts.length ≤ 1000000) : Calls Try.prog 43 #[.pointer (some ⟨g, 0, none⟩), .int .i64 tt, .int .i64 i0] w fun e w' => ∃ r : Option Nat, e = .returned (.tuple #[.int .i64 (oI r), .bool r.isSome]) ∧ First (rfP m tt) i0.toNat m.Bag.length r ∧ Below w.heap.size w w' := by
  have HI := Aside0.mk h
  have HOP := Aside0.mk (fun W (hI : IsRef W g fr m) a b => ropen_c m g fr W hI a b hl2)
  clear h
  have HB := Aside0.mk (Below.refl w.heap.size w)
  go_enter Try.func43, Try.ntmps43
  go_wp2
  go_loopg [8] m.Bag.length (fun gk v8 W => ∃ i : Nat, v8 = .int .i64 i ∧ i + gk = m.Bag.length ∧ Aside0 (Below w.heap.size w W) ∧ Aside0 (∀ j, i0.toNat ≤ j → j < i → rfP m tt j = false))
  case atStart => exact ⟨0, rfl, by omega, HB, ⟨fun j _ hj => absurd hj (by omega)⟩⟩
  case round =>
    clear HB
    obtain ⟨i, rfl, hig, HB, HJ⟩ := hrel
    obtain ⟨AB, cB, AC, cC, x0, x1, x2, hcB, hcC, hFB, hFC⟩ := (HI.out.below HB.out).cells
    have HFB := Aside0.mk hFB
    clear hFB hFC x0 x2
    by_cases hlt : i < m.Bag.length
    · obtain ⟨ad, A2, c2, rfl, u0, u1, u2, _⟩ := at_33 (Kd.F_now HFB.out) i hlt
      have hlt' : (i : Int) < (m.Bag.length : Int) := by omega
      have hq : wrap64 ((i : Int) + 1) = (i : Int) + 1 := by unfold wrap64; omega
      have HPj := Aside0.mk (show rfP m tt i = (((m.Bag.getD i z33).f1 == tt) && ropenB m (m.Bag.getD i z33).f0 tt) from rfl)
      generalize m.Bag.getD i z33 = x at *
      obtain ⟨f, t, l⟩ := x
      dsimp only at u0 u1 u2 HPj
      by_cases hfrom : (i : Int) < i0
      · have d1 : decide (i0 ≤ (i : Int)) = false := by simpa using hfrom
        obtain ⟨k1, rfl⟩ : ∃ k1, gk = k1 + 1 := ⟨gk - 1, by omega⟩
        go_wp2
        go_roundg k1
        case measure => omega
        case rel => exact ⟨i + 1, rfl, by omega, HB, ⟨fun j h1 h2 => HJ.out j h1 (by omega)⟩⟩
      · have d1 : decide (i0 ≤ (i : Int)) = true := by simp; omega
        by_cases ht : t = tt
        · subst ht
          have e1 : (t == t) = true := by simp
          have hop := HOP.out _ (HI.out.below HB.out) f t
          rw [e1, Bool.true_and] at HPj
          cases ho : ropenB m f t
          · rw [ho] at hop HPj
            have HOP2 := Aside0.mk hop
            clear hop ho
            obtain ⟨k1, rfl⟩ : ∃ k1, gk = k1 + 1 := ⟨gk - 1, by omega⟩
            go_wp2_with (go_at_call 44; refine HOP2.out.mono ?_; rintro e w3 ⟨rfl, hb⟩; have HB2 := Aside0.mk (below_then HB.out HB.out.size hb); clear hb)
            go_roundg k1
            case measure => omega
            case rel => exact ⟨i + 1, rfl, by omega, HB2, ⟨fun j h1 h2 => by
              by_cases hj : j < i
              · exact HJ.out j h1 hj
              · obtain rfl : j = i := by omega
                exact HPj.out⟩⟩
          · rw [ho] at hop HPj
            have HOP2 := Aside0.mk hop
            clear hop ho
            go_wp2_with (go_at_call 44; refine HOP2.out.mono ?_; rintro e w3 ⟨rfl, hb⟩; have HB2 := Aside0.mk (below_then HB.out HB.out.size hb); clear hb)
            go_ret2
            exact ⟨some i, rfl, ⟨⟨by omega, hlt⟩, HPj.out, HJ.out⟩, HB2.out⟩
        · have e1 : (t == tt) = false := by simpa using ht
          rw [e1, Bool.false_and] at HPj
          obtain ⟨k1, rfl⟩ : ∃ k1, gk = k1 + 1 := ⟨gk - 1, by omega⟩
          go_wp2
          go_roundg k1
          case measure => omega
          case rel => exact ⟨i + 1, rfl, by omega, HB, ⟨fun j h1 h2 => by
            by_cases hj : j < i
            · exact HJ.out j h1 hj
            · obtain rfl : j = i := by omega
              exact HPj.out⟩⟩
    · obtain rfl : i = m.Bag.length := by omega
      have hd : decide ((m.Bag.length : Int) < (m.Bag.length : Int)) = false := by simp
      go_wp2
      go_ret2
      exact ⟨none, rfl, HJ.out, HB.out⟩
theorem findO_first (n : NetS) (tt i : Int) : First (fun j => findP n tt (n.all.getD j z33).f0 (n.all.getD j z33).f1) i.toNat n.all.length (findO n tt i) := by
  unfold findO
  cases h : (List.range (n.all.length - i.toNat)).find? (fun j => findP n tt (n.all.getD (i.toNat + j) z33).f0 (n.all.getD (i.toNat + j) z33).f1) with
  | none =>
    intro j h1 h2
    have h3 := List.find?_eq_none.1 h (j - i.toNat) (List.mem_range.2 (by omega))
    rw [show i.toNat + (j - i.toNat) = j by omega] at h3
    exact Bool.eq_false_iff.2 h3
  | some k =>
    have h1 := List.find?_some h
    have h2 := List.mem_range.1 (List.mem_of_find?_eq_some h)
    show (i.toNat ≤ i.toNat + k ∧ i.toNat + k < n.all.length) ∧ _ ∧ ∀ j, i.toNat ≤ j → j < i.toNat + k → _
    refine ⟨⟨by omega, by omega⟩, h1, fun j h3 h4 => ?_⟩
    obtain ⟨l1, l2, hab, hno⟩ := (List.find?_eq_some_iff_append.1 h).2
    have hlen : l1.length = k := by
      have h5 : (List.range (n.all.length - i.toNat))[l1.length]? = some k := by rw [hab]; simp
      rw [List.getElem?_eq_some_iff] at h5
      obtain ⟨h6, h7⟩ := h5
      simpa using h7
    have hjm : (j - i.toNat) ∈ l1 := by
      have h5 : (List.range (n.all.length - i.toNat))[j - i.toNat]? = some (j - i.toNat) := by rw [List.getElem?_range (by omega)]
      rw [hab, List.getElem?_append_left (by omega)] at h5
      exact List.mem_of_getElem? h5
    have h6 := hno _ hjm
    rw [show i.toNat + (j - i.toNat) = j by omega] at h6
    simpa using h6
end Go.Proofs.Ytnaefndclalepaa.Net
