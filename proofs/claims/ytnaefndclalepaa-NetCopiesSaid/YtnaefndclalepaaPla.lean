/- NetPlays: the walk. -/
import Derived.Test.YtnaefndclalepaaCpy
namespace Go.Proofs.Ytnaefndclalepaa.Net
set_option linter.unusedVariables false
set_option linter.unusedSimpArgs false
open Go.RowKit Go.Shelf Go.Proofs.YtnaefndclalepaaW.PrintWords Go.Proofs.YtnaefndclalepaaW.PrintLast Go.Proofs.YtnaefndclalepaaW.PrintMore Go.Proofs.Ytnaefndclalepaa.XN
theorem acts_at2 {w W : World} {A : Option Addr} {l : List S41} (hr : Kd.C k41 w A l.length l) (hB : Below w.heap.size w W) (i : Nat) (hi : i < l.length) :
    ∃ ad d0 d1 d2 d3 x4 A4 c4, A = some ad ∧ l.getD i z41 = ⟨d0, d1, d2, d3, x4⟩ ∧ W.cell? (ad.add (i * 5)) = some (.int .i64 d0) ∧ W.cell? ⟨(ad.add (i * 5)).block, (ad.add (i * 5)).off + 1, none⟩ = some (.int .i64 d1) ∧ W.cell? ⟨(ad.add (i * 5)).block, (ad.add (i * 5)).off + 2, none⟩ = some (.int .i64 d2) ∧ W.cell? ⟨(ad.add (i * 5)).block, (ad.add (i * 5)).off + 3, none⟩ = some (.int .i64 d3) ∧ W.cell? ⟨(ad.add (i * 5)).block, (ad.add (i * 5)).off + 4, none⟩ = some (.slice A4 x4.length c4) ∧ x4.length ≤ c4 ∧ (Kd.int .u8).C w A4 x4.length x4 := by
  obtain ⟨ad, A4, c4, e, h0, h1, h2, h3, h4, h5, h6⟩ := at_T41 hr (i : Int) (by omega) (by omega)
  simp only [Int.toNat_natCast, rd_T41] at h0 h1 h2 h3 h4 h5 h6
  obtain ⟨⟨d0, d1, d2, d3, x4⟩, hx⟩ : ∃ x, l.getD i z41 = x := ⟨_, rfl⟩
  rw [hx] at h0 h1 h2 h3 h4 h5 h6
  exact ⟨ad, d0, d1, d2, d3, x4, A4, c4, e, hx, pw_cell_below hB h0, pw_cell_below hB h1, pw_cell_below hB h2, pw_cell_below hB h3, pw_cell_below hB h4, h5, h6⟩
theorem stepR_N (x : S41) (m : RefS) : (stepR x m).N = m.N := by
  unfold stepR rsendN rdlvN rdropN rdblN rcutN rhealN
  repeat' (first | rfl | split)
section
variable {w W W' : World} {p : Option Addr} {n n' : NetS} {g g' : Nat} {m m' : RefS} {fp0 fr0 fp' Q Q' B : Nat → Prop}
theorem J.start (hb : Below w.heap.size w W) (hI : IsNet W g' fp' n) (hfp : ∀ k, fp' k → w.heap.size ≤ k) (hg : Good n) (hR : IsRef W g fr0 m) (hfr : ∀ k, fr0 k → w.heap.size ≤ k) (hm : m.Cuts.length ≤ 10000) (hd : ∀ k, fp' k → fr0 k → False) : J w W (some ⟨g', 0, none⟩) n g m (fun _ => False) (fun _ => False) (fun k => k < w.heap.size) (fun _ => False) :=
  ⟨fp', fr0, .inr ⟨g', rfl, hI⟩, hg, hR, hm, hd, hI.lts, fun k hk => ⟨Nat.lt_of_lt_of_le hk hb.size, fun h => by have := hfp k h; omega, fun e => by have := hfr g hR.mine; omega⟩, fun k hk => hk.elim, fun k hk => .inr (hfp k hk), fun k hk => .inr (hfr k hk), Fr.of_below hb _⟩
theorem IsNet.keep {fp : Nat → Prop} (h : IsNet W g fp n) (hs : W.heap.size ≤ W'.heap.size) (hk : ∀ k, fp k → W'.heap[k]? = W.heap[k]?) : IsNet W' g fp n := by
  obtain ⟨cs, vA, hb, hsz, h0, h1, h2, hc, hg, hlt, hN⟩ := h
  exact ⟨cs, vA, (hk g hg).trans hb, hsz, h0, h1, h2, hc, hg, fun k hk => Nat.lt_of_lt_of_le (hlt k hk) hs, Kd.N_step hN (fun k hk' _ => hk k hk'.1)⟩
/-- The copy takes the net's place. -/
theorem J.swap (h : J w W p n g m fp0 fr0 Q B) (hI : IsNet W g' fp' n') (hB : ∀ k, fp' k → B k) (hg : Good n') (hd : ∀ k, Q k → ¬ B k) : J w W (some ⟨g', 0, none⟩) n' g m fp0 fr0 Q (fun _ => False) := by
  obtain ⟨fp, fr, h1, h2, h3, h4, h5, h6, h7, h8, h9, h10, h11⟩ := h
  exact ⟨fp', fr, .inr ⟨g', rfl, hI⟩, hg, h3, h4, fun k hk hf => (h8 k (hB k hk)).2.2 hf, hI.lts, fun k hk => ⟨(h7 k hk).1, fun hf => hd k hk (hB k hf), (h7 k hk).2.2⟩, fun k hk => hk.elim, fun k hk => .inr (h8 k (hB k hk)).1.1, h10, h11⟩
theorem J.copy_ (h : J w W p n g m fp0 fr0 Q B) (hm : n.nodes ≠ 0) : Calls Try.prog 21 #[.pointer p] W fun e W' => ∃ g', e = .returned (.pointer (some ⟨g', 0, none⟩)) ∧ ∃ fp' : Nat → Prop, IsNet W' g' fp' n ∧ (∀ k, fp' k → W.heap.size ≤ k) ∧ Below W.heap.size W W' := by
  obtain ⟨fp, fr, h1, h2, _⟩ := h
  rcases h1 with ⟨rfl, rfl⟩ | ⟨g2, rfl, hI⟩
  · exact absurd rfl hm
  · exact copy_c n g2 fp W hI hm (by have := h2.len; omega) (fun m hm => by have := h2.long m hm; omega)
/-- A copy is made: it is the call's own. -/
theorem J.copied (h : J w W p n g m fp0 fr0 Q (fun _ => False)) (hI : IsNet W' g' fp' n) (hf : ∀ k, fp' k → W.heap.size ≤ k) (hb : Below W.heap.size W W') : J w W' p n g m fp0 fr0 Q fp' ∧ ∀ k, Q k → ¬ fp' k :=
  ⟨h.own hb (fun k hk => .inr ⟨hf k hk, hI.lts k hk⟩), fun k hk hq => by have := h.lt k hk; have := hf k hq; omega⟩
theorem J.below_ (h : J w W p n g m (fun _ => False) (fun _ => False) Q B) (hg : w.heap.size ≤ g) : Below w.heap.size w W := h.frame.below (Nat.le_refl _) (fun k hk => by rcases hk with h | h; exact h.elim; omega)
end
theorem many_l3 (xs : List S41) (hx : ∀ x, x ∈ xs → x.f4.length ≤ maxLen) : ∀ (d i s k : Nat), i + d = xs.length → i ≤ s → s ≤ 600 → d < k → ∃ r, scrivenerlaw05_many.l0 k xs s i = some r ∧ (r = false → xs.length ≤ 600 ∧ ∀ j (h : j < xs.length), i ≤ j → xs[j].f4.length ≤ 200000)
  | 0, i, s, k, hi, his, hs, hk => by
    obtain ⟨k, rfl⟩ : ∃ m, k = m + 1 := ⟨k - 1, by omega⟩
    refine ⟨false, ?_, fun _ => ⟨by omega, fun j h1 h2 => by omega⟩⟩
    simp only [scrivenerlaw05_many.l0]
    rw [if_neg (by omega)]
  | d + 1, i, s, k, hi, his, hs, hk => by
    obtain ⟨k, rfl⟩ : ∃ m, k = m + 1 := ⟨k - 1, by omega⟩
    have hlt : i < xs.length := by omega
    have hr : rd_T41 xs (i : Int) = xs[i] := by simp [rd_T41, hlt]
    have hw : wrap64 ((i : Int) + 1) = ((i + 1 : Nat) : Int) := by unfold wrap64; omega
    have hlen := hx xs[i] (List.getElem_mem hlt)
    unfold maxLen at hlen
    have hw2 := wrap3 s xs[i].f4.length hs hlen
    simp only [scrivenerlaw05_many.l0]
    rw [if_pos (by omega), if_pos (by omega), hr, hw, hw2]
    by_cases h : (600 : Int) < ((s + (1 + xs[i].f4.length / 256) : Nat) : Int)
    · rw [if_pos h]
      exact ⟨true, rfl, fun h => by cases h⟩
    · rw [if_neg h]
      have hs2 : xs[i].f4.length ≤ 200000 := by clear hw2 hlen; omega
      obtain ⟨r, h1, h2⟩ := many_l3 xs hx d (i + 1) (s + (1 + xs[i].f4.length / 256)) k (by omega) (by clear hw2 hlen; omega) (by clear hw2 hlen; omega) (by omega)
      refine ⟨r, h1, fun hr => ⟨(h2 hr).1, fun j hj hij => ?_⟩⟩
      by_cases e : j = i
      · subst e; exact hs2
      · exact (h2 hr).2 j hj (by omega)
theorem many_f3 (xs : List S41) (hx : ∀ x, x ∈ xs → x.f4.length ≤ maxLen) : ∃ r, scrivenerlaw05_many.f (xs.length + 1) xs = some r ∧ (r = false → xs.length ≤ 600 ∧ ∀ x, x ∈ xs → x.f4.length ≤ 200000) := by
  obtain ⟨r, h1, h2⟩ := many_l3 xs hx xs.length 0 0 (xs.length + 1) (by omega) (by omega) (by omega) (by omega)
  refine ⟨r, h1, fun hr => ⟨(h2 hr).1, fun x hm => ?_⟩⟩
  obtain ⟨j, hj, rfl⟩ := List.getElem_of_mem hm
  exact (h2 hr).2 j hj (Nat.zero_le _)
theorem mod8 {i : Nat} (hi : i ≤ 600) : wrap64 ((i : Int) % 8) = (i : Int) % 8 ∧ wrap64 (Int.tmod (i : Int) 8) = (i : Int) % 8 := by
  have h1 : Int.tmod (i : Int) 8 = (i : Int) % 8 := Int.tmod_eq_emod_of_nonneg (by omega)
  rw [h1]
  have h2 : wrap64 ((i : Int) % 8) = (i : Int) % 8 := by unfold wrap64; omega
  exact ⟨h2, h2⟩
set_option maxHeartbeats 16000000 in
set_option maxRecDepth 100000 in
theorem scrivenerlaw05_NetPlays.calls (a0 : Int) (A : Option Addr) (c : Nat) (l : List S41) (r : Bool) (w : World) (hr : Kd.C k41 w A l.length l) (hc : l.length ≤ c) (h : (∀ x, x ∈ l → x.f4.length ≤ maxLen) ∧ true = r) :
    Calls Try.prog 5 #[.int .i64 a0, .slice A l.length c] w fun e w' => e = .returned (.bool r) ∧ Below w.heap.size w w' := by
  obtain ⟨hx, rfl⟩ := h
  have HR := Aside0.mk hr
  clear hr
  obtain ⟨mr, hm, hml⟩ := many_f3 l hx
  have HM := Aside0.mk (fun W (hB : Below w.heap.size w W) => scrivenerlaw05_many.calls _ A c l mr W (Kd.C_below HR.out hB) hc hm)
  have HML := Aside0.mk hml
  clear hm hx hml
  cases mr with
  | true =>
    clear HML
    go_enter Try.func5, Try.ntmps5
    go_wp2_with (first
      | (go_at_call 13; refine (HM.out _ (Below.refl _ _)).mono ?_; rintro e w' ⟨rfl, hd⟩; have HB2 := Aside0.mk hd.below; clear hd)
      | (go_at_call 8; refine (awake_c _).mono ?_; rintro e w' ⟨rfl, hb⟩; have HB := Aside0.mk (below_then HB2.out HB2.out.size hb); clear hb))
    go_ret
    exact ⟨rfl, HB.out⟩
  | false =>
  have h600 : l.length ≤ 600 := (HML.out rfl).1
  have HX := Aside0.mk (HML.out rfl).2
  clear HML
  by_cases hno : a0 < 1 ∨ 15 < a0
  · go_enter Try.func5, Try.ntmps5
    go_wp2_with (first
      | (go_at_call 13; refine (HM.out _ (Below.refl _ _)).mono ?_; rintro e w' ⟨rfl, hd⟩; have HB2 := Aside0.mk hd.below; clear hd)
      | (go_at_call 9; refine (new_no a0 _ hno).mono ?_; rintro e w' ⟨rfl, rfl⟩)
      | (go_at_call 20; refine (rnew_no a0 _ hno).mono ?_; rintro e w' ⟨rfl, rfl⟩)
      | (go_at_call 8; refine (awake_c _).mono ?_; rintro e w' ⟨rfl, hb⟩; have HB := Aside0.mk (below_then HB2.out HB2.out.size hb); clear hb))
    go_ret
    exact ⟨rfl, HB.out⟩
  have h1 : 1 ≤ a0 := by omega
  have h15 : a0 ≤ 15 := by omega
  clear hno
  go_enter Try.func5, Try.ntmps5
  go_wp2_with (first
    | (go_at_call 13; refine (HM.out _ (Below.refl _ _)).mono ?_; rintro e w1 ⟨rfl, hd⟩; have HB2 := Aside0.mk hd.below; clear hd)
    | (go_at_call 9; refine (new_ok a0 _ h1 h15).mono ?_; rintro e w2 ⟨rfl, hI, hb⟩; have HI := Aside0.mk hI; have HB3 := Aside0.mk (below_then HB2.out HB2.out.size hb); clear hI hb)
    | (go_at_call 20; refine (rnew_ok a0 _ h1 h15).mono ?_; rintro e w3 ⟨rfl, hI, hb⟩; have HJ : Aside0 (J w w3 (some ⟨w1.heap.size, 0, none⟩) ⟨[], 64, a0, fun _ => false⟩ w2.heap.size ⟨a0, [], []⟩ (fun _ => False) (fun _ => False) (fun k => k < w.heap.size) (fun _ => False)) := Aside0.mk (J.start (below_then HB3.out HB3.out.size hb) (HI.out.fr (Fr.of_below hb (fun _ => False)) (fun _ _ h => h)) (fun k e => by have := HB2.out.size; omega) (Good.new h15) hI (fun k e => by have := HB3.out.size; omega) (Nat.zero_le _) (fun k e1 e2 => by have := HI.out.lts w1.heap.size rfl; omega)); have HGW := Aside0.mk HB3.out.size; clear hI hb HI))
  have HRel : Aside0 (Rel ⟨[], 64, a0, fun _ => false⟩ ⟨a0, [], []⟩ 0) := ⟨Rel.new h15⟩
  clear HM HB2 HB3
  generalize w2.heap.size = g at *
  have HP0 : Aside0 (∃ pa, (some ⟨w1.heap.size, 0, none⟩ : Option Addr) = some pa) := ⟨_, rfl⟩
  generalize (some ⟨w1.heap.size, 0, none⟩ : Option Addr) = p0 at *
  go_loopg [5, 8] l.length (fun gk v5 v8 W => ∃ (i : Nat) (n : NetS) (m : RefS) (p : Option Addr), v5 = .pointer p ∧ v8 = .int .i64 i ∧ i + gk = l.length ∧ (∃ pa, p = some pa) ∧ Aside0 (J w W p n g m (fun _ => False) (fun _ => False) (fun k => k < w.heap.size) (fun _ => False)) ∧ Aside0 (Rel n m i ∧ m.N = a0))
  case atStart => exact ⟨0, _, _, p0, rfl, rfl, by omega, HP0.out, HJ, ⟨HRel.out, rfl⟩⟩
  case round =>
    clear HJ HRel
    obtain ⟨i, n, m, p, rfl, rfl, hig, ⟨pa, rfl⟩, HJ, HRN⟩ := hrel
    have HB := Aside0.mk (HJ.out.below_ HGW.out)
    by_cases hlt : i < l.length
    · obtain ⟨ad, d0, d1, d2, d3, x4, A4, c4, rfl, hgx, y0, y1, y2, y3, y4, hc4, hC4⟩ := acts_at2 HR.out HB.out i hlt
      have hx5 : x4.length ≤ 140737488355328 := by
        have := HX.out (l.getD i z41) (by rw [List.getD_eq_getElem?_getD, List.getElem?_eq_getElem hlt]; exact List.getElem_mem hlt)
        rw [hgx] at this
        dsimp only at this
        omega
      clear hgx
      have HC4 := Aside0.mk hC4
      have hlt' : (i : Int) < (l.length : Int) := by omega
      have hq : wrap64 ((i : Int) + 1) = (i : Int) + 1 := by unfold wrap64; omega
      have hi600 : i ≤ 600 := by omega
      obtain ⟨k1, rfl⟩ : ∃ k1, gk = k1 + 1 := ⟨gk - 1, by omega⟩
      have HIG := Aside0.mk (show (i + 1) + k1 = l.length by omega)
      have HKL := Aside0.mk (show i < 9000 by omega)
      clear hig hC4
      by_cases h6 : d0 = 6
      · subst h6
        have hnn : n.nodes ≠ 0 := by have h2 := HRN.out.1.nodes; have h3 := HRN.out.2; omega
        go_wp2_with (first
          | (go_at_call 21; refine (HJ.out.copy_ hnn).mono ?_; rintro e W2 ⟨g', rfl, fp', hI, hf, hb⟩; have HCP := Aside0.mk (HJ.out.copied hI hf hb); have HI := Aside0.mk hI; clear hI hf hb)
          | (go_at_call 15; refine (HCP.out.1.drop_ 0).mono ?_; rintro e W3 ⟨rfl, hj, hk⟩; have HJ3 := Aside0.mk hj; have HI3 := Aside0.mk (HI.out.keep hk.1 (fun k h => hk.2 k (.inr h))); clear hj hk)
          | (go_at_call 18; refine (HJ3.out.cut_ 1 2).mono ?_; rintro e W4 ⟨rfl, hj, hk⟩; have HJ4 := Aside0.mk (hj.swap (HI3.out.keep hk.1 (fun k h => hk.2 k (.inr h))) (fun k h => h) HRN.out.1.good HCP.out.2); clear hj hk))
        go_roundg k1
        case measure => exact Nat.lt_succ_self _
        case rel => exact ⟨i + 1, n, m, _, rfl, rfl, HIG.out, ⟨_, rfl⟩, HJ4, ⟨HRN.out.1.more (Nat.le_succ _), HRN.out.2⟩⟩
      · have f6 : (d0 == 6) = false := by simpa using h6
        clear h6
        have HRS := Aside0.mk (And.intro (HRN.out.1.step ⟨d0, d1, d2, d3, x4⟩) ((stepR_N ⟨d0, d1, d2, d3, x4⟩ m).trans HRN.out.2))
        have hm8 := mod8 hi600
        obtain ⟨e8a, e8b⟩ := hm8
        have HPOS := Aside0.mk (show 0 ≤ (stepR ⟨d0, d1, d2, d3, x4⟩ m).N by have := HRS.out.2; omega)
        by_cases h8 : (i : Int) % 8 = 0
        · have f8 : ((i : Int) % 8 == 0) = true := by simpa using h8
          clear h8
          go_wp2_with (first
            | (go_at_call 22; refine (act_c HJ.out (Aside0.mk HRN.out.1).out HKL.out d0 d1 d2 d3 A4 c4 x4 (Kd.F_mono (F_came2 HC4.out (HB.out)) (fun k hk => hk)) (fun k hk => hk) hc4 hx5).mono ?_; rintro e W2 ⟨rfl, hj, hk⟩; have HJ2 := Aside0.mk hj; clear hj hk)
            | (go_at_call 23; refine (stands_c HJ2.out HRS.out.1 HPOS.out).mono ?_; rintro e W3 ⟨rfl, hb⟩; have HJ3 := Aside0.mk (HJ2.out.past hb); clear hb))
          go_roundg k1
          case measure => exact Nat.lt_succ_self _
          case rel => exact ⟨i + 1, _, _, _, rfl, rfl, HIG.out, ⟨_, rfl⟩, HJ3, HRS⟩
        · have f8 : ((i : Int) % 8 == 0) = false := by simpa using h8
          clear h8
          go_wp2_with (first
            | (go_at_call 22; refine (act_c HJ.out (Aside0.mk HRN.out.1).out HKL.out d0 d1 d2 d3 A4 c4 x4 (Kd.F_mono (F_came2 HC4.out (HB.out)) (fun k hk => hk)) (fun k hk => hk) hc4 hx5).mono ?_; rintro e W2 ⟨rfl, hj, hk⟩; have HJ2 := Aside0.mk hj; clear hj hk))
          go_roundg k1
          case measure => exact Nat.lt_succ_self _
          case rel => exact ⟨i + 1, _, _, _, rfl, rfl, HIG.out, ⟨_, rfl⟩, HJ2, HRS⟩
    · obtain rfl : i = l.length := by omega
      have hd : decide ((l.length : Int) < (l.length : Int)) = false := by simp
      have HPOS := Aside0.mk (show 0 ≤ m.N by have := HRN.out.2; omega)
      go_wp2_with (first
        | (go_at_call 23; refine (stands_c HJ.out HRN.out.1 HPOS.out).mono ?_; rintro e W3 ⟨rfl, hb⟩; have HB3 := Aside0.mk (below_then HB.out HB.out.size hb); clear hb)
        | (go_at_call 8; refine (awake_c _).mono ?_; rintro e w' ⟨rfl, hb⟩; have HB4 := Aside0.mk (below_then HB3.out HB3.out.size hb); clear hb))
      go_ret
      exact ⟨rfl, HB4.out⟩
end Go.Proofs.Ytnaefndclalepaa.Net
