/- NetCopies: the walk. -/
import Derived.Test.YtnaefndclalepaaCpj
namespace Go.Proofs.Ytnaefndclalepaa.Net
set_option linter.unusedVariables false
set_option linter.unusedSimpArgs false
open Go.RowKit Go.Shelf Go.Proofs.YtnaefndclalepaaW.PrintWords Go.Proofs.YtnaefndclalepaaW.PrintLast Go.Proofs.YtnaefndclalepaaW.PrintMore Go.Proofs.Ytnaefndclalepaa.XN
set_option maxHeartbeats 16000000 in
set_option maxRecDepth 100000 in
theorem scrivenerlaw05_NetCopies.calls (a0 : Int) (A1 : Option Addr) (c1 : Nat) (l1 : List S41) (A2 : Option Addr) (c2 : Nat) (l2 : List S41) (r : Bool) (w : World) (hr1 : Kd.C k41 w A1 l1.length l1) (hc1 : l1.length ≤ c1) (hr2 : Kd.C k41 w A2 l2.length l2) (hc2 : l2.length ≤ c2) (h : (∀ x, x ∈ l1 → x.f4.length ≤ maxLen) ∧ (∀ x, x ∈ l2 → x.f4.length ≤ maxLen) ∧ true = r) :
    Calls Try.prog 7 #[.int .i64 a0, .slice A1 l1.length c1, .slice A2 l2.length c2] w fun e w' => e = .returned (.bool r) ∧ Below w.heap.size w w' := by
  obtain ⟨hx1, hx2, rfl⟩ := h
  by_cases hno : a0 < 1 ∨ 15 < a0
  · clear hr1 hr2 hx1 hx2
    go_enter Try.func7, Try.ntmps7
    go_wp2_with (first
      | (go_at_call 9; refine (new_no a0 _ hno).mono ?_; rintro e w' ⟨rfl, rfl⟩)
      | (go_at_call 8; refine (awake_c _).mono ?_; rintro e w' ⟨rfl, hb⟩; have HB := Aside0.mk hb; clear hb))
    go_ret
    exact ⟨rfl, HB.out⟩
  have h1 : 1 ≤ a0 := by omega
  have h15 : a0 ≤ 15 := by omega
  clear hno
  have HR := Aside0.mk hr1
  have HR2 := Aside0.mk hr2
  clear hr1 hr2
  obtain ⟨mr1, hm1, hml1⟩ := many_f3 l1 hx1
  obtain ⟨mr2, hm2, hml2⟩ := many_f3 l2 hx2
  have HM1 := Aside0.mk (fun W (hB : Below w.heap.size w W) => scrivenerlaw05_many.calls _ A1 c1 l1 mr1 W (Kd.C_below HR.out hB) hc1 hm1)
  have HM2 := Aside0.mk (fun W (hB : Below w.heap.size w W) => scrivenerlaw05_many.calls _ A2 c2 l2 mr2 W (Kd.C_below HR2.out hB) hc2 hm2)
  have HML1 := Aside0.mk hml1
  have HML2 := Aside0.mk hml2
  clear hm1 hx1 hml1 hm2 hx2 hml2
  cases mr1 with
  | true =>
    clear HML1 HML2 HM2
    go_enter Try.func7, Try.ntmps7
    go_wp2_with (first
      | (go_at_call 9; refine (new_ok a0 _ h1 h15).mono ?_; rintro e w2 ⟨rfl, hI, hb⟩; have HB1 := Aside0.mk hb; clear hI hb)
      | (go_at_call 13; refine (HM1.out _ HB1.out).mono ?_; rintro e w' ⟨rfl, hd⟩; have HB2 := Aside0.mk (below_then HB1.out HB1.out.size hd.below); clear hd)
      | (go_at_call 8; refine (awake_c _).mono ?_; rintro e w' ⟨rfl, hb⟩; have HB := Aside0.mk (below_then HB2.out HB2.out.size hb); clear hb))
    go_ret
    exact ⟨rfl, HB.out⟩
  | false =>
  have h600 : l1.length ≤ 600 := (HML1.out rfl).1
  have HX := Aside0.mk (HML1.out rfl).2
  clear HML1
  cases mr2 with
  | true =>
    clear HML2
    go_enter Try.func7, Try.ntmps7
    go_wp2_with (first
      | (go_at_call 9; refine (new_ok a0 _ h1 h15).mono ?_; rintro e w2 ⟨rfl, hI, hb⟩; have HB1 := Aside0.mk hb; clear hI hb)
      | (go_at_call 13; refine (HM1.out _ HB1.out).mono ?_; rintro e w' ⟨rfl, hd⟩; have HB2 := Aside0.mk (below_then HB1.out HB1.out.size hd.below); clear hd HM1)
      | (go_at_call 13; refine (HM2.out _ HB2.out).mono ?_; rintro e w' ⟨rfl, hd⟩; have HB3 := Aside0.mk (below_then HB2.out HB2.out.size hd.below); clear hd)
      | (go_at_call 8; refine (awake_c _).mono ?_; rintro e w' ⟨rfl, hb⟩; have HB := Aside0.mk (below_then HB3.out HB3.out.size hb); clear hb))
    go_ret
    exact ⟨rfl, HB.out⟩
  | false =>
  have HL2 := Aside0.mk (HML2.out rfl).1
  have HX2 := Aside0.mk (HML2.out rfl).2
  clear HML2
  go_enter Try.func7, Try.ntmps7
  go_wp2_with (first
    | (go_at_call 9; refine (new_ok a0 _ h1 h15).mono ?_; rintro e w1 ⟨rfl, hI, hb⟩; have HB1 := Aside0.mk hb; have HI := Aside0.mk hI; clear hI hb)
    | (go_at_call 13; refine (HM1.out _ HB1.out).mono ?_; rintro e w2 ⟨rfl, hd⟩; have HB2 := Aside0.mk (below_then HB1.out HB1.out.size hd.below); have HI2 := Aside0.mk (HI.out.fr (Fr.of_below hd.below (fun _ => False)) (fun _ _ h => h)); clear hd HM1)
    | (go_at_call 13; refine (HM2.out _ HB2.out).mono ?_; rintro e w3 ⟨rfl, hd⟩; have HB3 := Aside0.mk (below_then HB2.out HB2.out.size hd.below); have HI3 := Aside0.mk (HI2.out.fr (Fr.of_below hd.below (fun _ => False)) (fun _ _ h => h)); clear hd)
    | (go_at_call 20; refine (rnew_ok a0 _ h1 h15).mono ?_; rintro e w4 ⟨rfl, hI, hb⟩; have HJ : Aside0 (J w w4 (some ⟨w.heap.size, 0, none⟩) ⟨[], 64, a0, fun _ => false⟩ w3.heap.size ⟨a0, [], []⟩ (fun _ => False) (fun _ => False) (fun k => k < w.heap.size) (fun _ => False)) := Aside0.mk (J.start (below_then HB3.out HB3.out.size hb) (HI3.out.fr (Fr.of_below hb (fun _ => False)) (fun _ _ h => h)) (fun k e => by omega) (Good.new h15) hI (fun k e => by have := HB3.out.size; omega) (Nat.zero_le _) (fun k e1 e2 => by have := HI3.out.lts w.heap.size rfl; omega)); have HGW := Aside0.mk HB3.out.size; clear hI hb))
  have HRel : Aside0 (Rel ⟨[], 64, a0, fun _ => false⟩ ⟨a0, [], []⟩ 0) := ⟨Rel.new h15⟩
  clear HM2 HB1 HB2 HB3 HI HI2 HI3
  generalize w3.heap.size = g at *
  have HP0 : Aside0 (∃ pa, (some ⟨w.heap.size, 0, none⟩ : Option Addr) = some pa) := ⟨_, rfl⟩
  generalize hp0 : (some ⟨w.heap.size, 0, none⟩ : Option Addr) = p0 at HJ HP0 ⊢
  clear hp0
  go_loopg [10] l1.length (fun gk v10 W => ∃ (i : Nat) (n : NetS) (m : RefS), v10 = .int .i64 i ∧ i + gk = l1.length ∧ Aside0 (J w W p0 n g m (fun _ => False) (fun _ => False) (fun k => k < w.heap.size) (fun _ => False)) ∧ Aside0 (Rel n m i ∧ m.N = a0))
  case atStart => exact ⟨0, _, _, rfl, by omega, HJ, ⟨HRel.out, rfl⟩⟩
  case round =>
    clear HJ HRel
    obtain ⟨i, n, m, rfl, hig, HJ, HRN⟩ := hrel
    have HB := Aside0.mk (HJ.out.below_ HGW.out)
    by_cases hlt : i < l1.length
    · obtain ⟨ad, d0, d1, d2, d3, x4, A4, c4, rfl, hgx, y0, y1, y2, y3, y4, hc4, hC4⟩ := acts_at2 HR.out HB.out i hlt
      have hx5 : x4.length ≤ 140737488355328 := by
        have := HX.out (l1.getD i z41) (by rw [List.getD_eq_getElem?_getD, List.getElem?_eq_getElem hlt]; exact List.getElem_mem hlt)
        rw [hgx] at this
        dsimp only at this
        omega
      have HC4 := Aside0.mk hC4
      have hlt' : (i : Int) < (l1.length : Int) := by omega
      have hi600 : i ≤ 600 := by first | omega | (have := HL2.out; omega)
      have hq : wrap64 ((i : Int) + 1) = (i : Int) + 1 := by unfold wrap64; omega
      obtain ⟨k1, rfl⟩ : ∃ k1, gk = k1 + 1 := ⟨gk - 1, by omega⟩
      have HIG := Aside0.mk (show (i + 1) + k1 = l1.length by omega)
      have HKL := Aside0.mk (show i < 9000 by omega)
      clear hgx hig hC4
      have HRS := Aside0.mk (And.intro (HRN.out.1.step ⟨d0, d1, d2, d3, x4⟩) ((stepR_N ⟨d0, d1, d2, d3, x4⟩ m).trans HRN.out.2))
      go_wp2_with (first
        | (go_at_call 22; refine (act_c HJ.out HRN.out.1 HKL.out d0 d1 d2 d3 A4 c4 x4 (Kd.F_mono (F_came2 HC4.out (HB.out)) (fun k hk => hk)) (fun k hk => hk) hc4 hx5).mono ?_; rintro e W2 ⟨rfl, hj, hk⟩; have HJ2 := Aside0.mk hj; clear hj hk))
      go_roundg k1
      case measure => exact Nat.lt_succ_self _
      case rel => exact ⟨i + 1, _, _, rfl, HIG.out, HJ2, HRS⟩
    · obtain rfl : i = l1.length := by omega
      have hd : decide ((l1.length : Int) < (l1.length : Int)) = false := by simp
      have HR1 : Aside0 (Rel n m 600 ∧ 0 ≤ m.N) := ⟨HRN.out.1.more h600, by have := HRN.out.2; omega⟩
      have hnn : n.nodes ≠ 0 := by have h2 := HRN.out.1.nodes; have h3 := HRN.out.2; omega
      clear hlt hig HRN
      go_wp2_with (first
        | (go_at_call 21; refine (HJ.out.copy_ hnn).mono ?_; rintro e W2 ⟨gc, rfl, fp', hI, hf, hb⟩; have HCP := Aside0.mk (HJ.out.copied hI hf hb).1; have HI := Aside0.mk hI; obtain ⟨fpx, frx, j1, j2, j3, j4⟩ := HCP.out; obtain ⟨AB, cB, AC, cC, hbk, j5⟩ := j3.open_; have HBK := Aside0.mk hbk; have l0 := (cells_at hbk (j := 0) rfl).1; have l1' := (cells_at hbk (j := 1) rfl).1; have l2' := (cells_at hbk (j := 2) rfl).1; clear hI hf hb j1 j2 j3 j4 j5 hbk))
      have HJ3 := Aside0.mk (JJ.start HCP.out HGW.out HI.out HBK.out)
      clear HCP HI HBK HJ HB l0 l1' l2'
      generalize W2.alloc (.cells #[.int .i64 m.N, .slice AB m.Bag.length cB, .slice AC m.Cuts.length cC] 64) = W3 at *
      generalize W2.heap.size = gw at *
      obtain ⟨n1, rfl⟩ : ∃ x, x = n := ⟨n, rfl⟩
      obtain ⟨m1, rfl⟩ : ∃ x, x = m := ⟨m, rfl⟩
      go_loopg [13] l2.length (fun gk v W => ∃ i : Nat, v = .int .i64 i ∧ i + gk = l2.length ∧ Aside0 (JJ w W p0 (runN (l2.take i) n1) g (runR (l2.take i) m1) (some ⟨gc, 0, none⟩) n1 gw m1))
      case atStart => exact ⟨0, rfl, by omega, HJ3⟩
      case round =>
        clear HJ3
        obtain ⟨i, rfl, hig, HJ⟩ := hrel
        by_cases hlt : i < l2.length
        · have HB := Aside0.mk HJ.out.below_
          obtain ⟨ad, d0, d1, d2, d3, x4, A4, c4, rfl, hgx, y0, y1, y2, y3, y4, hc4, hC4⟩ := acts_at2 HR2.out HB.out i hlt
          have hx5 : x4.length ≤ 140737488355328 := by
            have := HX2.out (l2.getD i z41) (by rw [List.getD_eq_getElem?_getD, List.getElem?_eq_getElem hlt]; exact List.getElem_mem hlt)
            rw [hgx] at this
            dsimp only at this
            omega
          have HC4 := Aside0.mk hC4
          have hlt' : (i : Int) < (l2.length : Int) := by omega
          have hi600 : i ≤ 600 := by first | omega | (have := HL2.out; omega)
          have hq : wrap64 ((i : Int) + 1) = (i : Int) + 1 := by unfold wrap64; omega
          obtain ⟨k1, rfl⟩ : ∃ k1, gk = k1 + 1 := ⟨gk - 1, by omega⟩
          have HIG := Aside0.mk (show (i + 1) + k1 = l2.length by omega)
          have HRN := Aside0.mk (show Rel (runN (l2.take i) n1) (runR (l2.take i) m1) 3000 from (Rel.run (l2.take i) _ _ _ HR1.out.1).1.more (by have := HL2.out; rw [List.length_take]; omega))
          have HN1 := Aside0.mk ((runN_succ l2 n1 i hlt).trans (by rw [hgx]))
          have HN2 := Aside0.mk ((runR_succ l2 m1 i hlt).trans (by rw [hgx]))
          clear hgx hig hC4
          go_wp2_with (first
            | (go_at_call 22; refine (JJ.act HJ.out HRN.out (by omega) d0 d1 d2 d3 A4 c4 x4 HC4.out hc4 hx5).mono ?_; rintro e W2 ⟨rfl, hj⟩; rw [← HN1.out, ← HN2.out] at hj; have HJ2 := Aside0.mk hj; clear hj))
          go_roundg k1
          case measure => exact Nat.lt_succ_self _
          case rel => exact ⟨i + 1, rfl, HIG.out, HJ2⟩
        · obtain rfl : i = l2.length := by omega
          have hd : decide ((l2.length : Int) < (l2.length : Int)) = false := by simp
          rw [List.take_length] at HJ
          clear hlt hig
          have HRL : Aside0 (Rel (runN l2 n1) (runR l2 m1) 3000 ∧ 0 ≤ (runR l2 m1).N) := ⟨by
            have h := Rel.run l2 _ _ _ HR1.out.1
            exact ⟨h.1.more (by have := HL2.out; omega), by have := HR1.out.2; have := h.2; omega⟩⟩
          go_wp2_with (first
            | (go_at_call 23; refine (JJ.stands_ HJ.out.swap HR1.out.1 (by have := HR1.out.2; omega)).mono ?_; rintro e W3 ⟨rfl, hj⟩; have HJ4 := Aside0.mk hj; clear hj))
          clear HJ
          go_loopg [14] l2.length (fun gk v W => ∃ i : Nat, v = .int .i64 i ∧ i + gk = l2.length ∧ Aside0 (JJ w W (some ⟨gc, 0, none⟩) (runN (l2.take i) n1) gw (runR (l2.take i) m1) p0 (runN l2 n1) g (runR l2 m1)))
          case atStart => exact ⟨0, rfl, by omega, HJ4⟩
          case round =>
            clear HJ4
            obtain ⟨i, rfl, hig, HJ⟩ := hrel
            by_cases hlt : i < l2.length
            · have HB := Aside0.mk HJ.out.below_
              obtain ⟨ad, d0, d1, d2, d3, x4, A4, c4, rfl, hgx, y0, y1, y2, y3, y4, hc4, hC4⟩ := acts_at2 HR2.out HB.out i hlt
              have hx5 : x4.length ≤ 140737488355328 := by
                have := HX2.out (l2.getD i z41) (by rw [List.getD_eq_getElem?_getD, List.getElem?_eq_getElem hlt]; exact List.getElem_mem hlt)
                rw [hgx] at this
                dsimp only at this
                omega
              have HC4 := Aside0.mk hC4
              have hlt' : (i : Int) < (l2.length : Int) := by omega
              have hi600 : i ≤ 600 := by first | omega | (have := HL2.out; omega)
              have hq : wrap64 ((i : Int) + 1) = (i : Int) + 1 := by unfold wrap64; omega
              obtain ⟨k1, rfl⟩ : ∃ k1, gk = k1 + 1 := ⟨gk - 1, by omega⟩
              have HIG := Aside0.mk (show (i + 1) + k1 = l2.length by omega)
              have HRN := Aside0.mk (show Rel (runN (l2.take i) n1) (runR (l2.take i) m1) 3000 from (Rel.run (l2.take i) _ _ _ HR1.out.1).1.more (by have := HL2.out; rw [List.length_take]; omega))
              have HN1 := Aside0.mk ((runN_succ l2 n1 i hlt).trans (by rw [hgx]))
              have HN2 := Aside0.mk ((runR_succ l2 m1 i hlt).trans (by rw [hgx]))
              clear hgx hig hC4
              go_wp2_with (first
                | (go_at_call 22; refine (JJ.act HJ.out HRN.out (by omega) d0 d1 d2 d3 A4 c4 x4 HC4.out hc4 hx5).mono ?_; rintro e W2 ⟨rfl, hj⟩; rw [← HN1.out, ← HN2.out] at hj; have HJ2 := Aside0.mk hj; clear hj))
              go_roundg k1
              case measure => exact Nat.lt_succ_self _
              case rel => exact ⟨i + 1, rfl, HIG.out, HJ2⟩
            · obtain rfl : i = l2.length := by omega
              have hd : decide ((l2.length : Int) < (l2.length : Int)) = false := by simp
              rw [List.take_length] at HJ
              clear hlt hig
              go_wp2_with (first
                | (go_at_call 23; refine (JJ.stands_ HJ.out.cross HRL.out.1 HRL.out.2).mono ?_; rintro e W3 ⟨rfl, hj⟩; have HK5 := Aside0.mk hj; clear hj HJ)
                | (go_at_call 23; refine (JJ.stands_ HK5.out.swap HRL.out.1 HRL.out.2).mono ?_; rintro e W4 ⟨rfl, hj⟩; have HK6 := Aside0.mk hj.below_; clear hj)
                | (go_at_call 8; refine (awake_c _).mono ?_; rintro e w' ⟨rfl, hb⟩; have HB4 := Aside0.mk (below_then HK6.out HK6.out.size hb); clear hb))
              go_ret
              exact ⟨rfl, HB4.out⟩
end Go.Proofs.Ytnaefndclalepaa.Net
