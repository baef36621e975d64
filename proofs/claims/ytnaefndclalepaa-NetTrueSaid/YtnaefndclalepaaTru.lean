/- NetTrue: the walk. -/
import Derived.Test.YtnaefndclalepaaTwo
import Derived.Deep.LoopGhost
import Derived.Deep.RegionHeld3
namespace Go.Proofs.Ytnaefndclalepaa.Net
set_option linter.unusedVariables false
set_option linter.unusedSimpArgs false
open Go.RowKit Go.Shelf Go.Proofs.YtnaefndclalepaaW.PrintWords Go.Proofs.YtnaefndclalepaaW.PrintLast Go.Proofs.YtnaefndclalepaaW.PrintMore Go.Proofs.Ytnaefndclalepaa.XN
def tru.T21 : Bool × List (List Nat × List Nat) := (true, [([], []), ([0], [0]), ([], []), ([2], [2]), ([1, 3], [1, 3]), ([4, 1], [4]), ([5], [5]), ([5], [5]), ([6, 7, 5, 5], [5, 6, 7]), ([5], [5]), ([5], [5]), ([9, 10, 8, 5], [5, 9, 10]), ([8, 11, 5], [5, 8, 11]), ([5, 12], [5, 12])])
def tru.B21 : List Nat := [0, 1, 0, 4, 15, 31, 63, 63, 255, 63, 63, 2047, 4095, 8191]
theorem tru.tab21 : rtab .any (opsOf Try.f4 21) = tru.T21 := by kernel_rfl
theorem tru.bits21 : waitsOk tru.T21.2 tru.B21 = true := by kernel_rfl
theorem F_came {w W : World} {A : Option Addr} {m : Nat} {l : List Int} (hC : Kd.C (Kd.int .u8) w A m l) (hB : Below w.heap.size w W) : Kd.F (Kd.int .u8) W (fun k => k < w.heap.size) A m l :=
  fun W' hW => (Kd.heap_int .u8).C (fun k hk => (hW k hk (Nat.lt_of_lt_of_le hk hB.size)).trans (hB.block k hk)) hC
theorem acts_at {w W : World} {A : Option Addr} {l : List S41} (hr : Kd.C k41 w A l.length l) (hB : Below w.heap.size w W) (i : Nat) (hi : i < l.length) :
    ∃ ad d0 d1 d2 d3 x4 A4 c4, A = some ad ∧ l.getD i z41 = ⟨d0, d1, d2, d3, x4⟩ ∧ W.cell? (ad.add (i * 5)) = some (.int .i64 d0) ∧ W.cell? ⟨(ad.add (i * 5)).block, (ad.add (i * 5)).off + 1, none⟩ = some (.int .i64 d1) ∧ W.cell? ⟨(ad.add (i * 5)).block, (ad.add (i * 5)).off + 2, none⟩ = some (.int .i64 d2) ∧ W.cell? ⟨(ad.add (i * 5)).block, (ad.add (i * 5)).off + 3, none⟩ = some (.int .i64 d3) ∧ W.cell? ⟨(ad.add (i * 5)).block, (ad.add (i * 5)).off + 4, none⟩ = some (.slice A4 x4.length c4) ∧ x4.length ≤ c4 ∧ (Kd.int .u8).C w A4 x4.length x4 := by
  obtain ⟨ad, A4, c4, e, h0, h1, h2, h3, h4, h5, h6⟩ := at_T41 hr (i : Int) (by omega) (by omega)
  simp only [Int.toNat_natCast, rd_T41] at h0 h1 h2 h3 h4 h5 h6
  obtain ⟨⟨d0, d1, d2, d3, x4⟩, hx⟩ : ∃ x, l.getD i z41 = x := ⟨_, rfl⟩
  rw [hx] at h0 h1 h2 h3 h4 h5 h6
  exact ⟨ad, d0, d1, d2, d3, x4, A4, c4, e, hx, pw_cell_below hB h0, pw_cell_below hB h1, pw_cell_below hB h2, pw_cell_below hB h3, pw_cell_below hB h4, h5, h6⟩
set_option maxHeartbeats 16000000 in
set_option maxRecDepth 100000 in
theorem scrivenerlaw05_NetTrue.calls (a0 : Int) (A : Option Addr) (c : Nat) (l : List S41) (r : Bool) (w : World) (hr : Kd.C k41 w A l.length l) (hc : l.length ≤ c) (h : (∀ x, x ∈ l → x.f4.length ≤ maxLen) ∧ true = r) :
    Calls Try.prog 4 #[.int .i64 a0, .slice A l.length c] w fun e w' => e = .returned (.bool r) ∧ Below w.heap.size w w' := by
  obtain ⟨hx, rfl⟩ := h
  have HR := Aside0.mk hr
  clear hr
  obtain ⟨mr, hm, hml⟩ := many_f l hx
  have HM := Aside0.mk (fun W (hB : Below w.heap.size w W) => scrivenerlaw05_many.calls _ A c l mr W (Kd.C_below HR.out hB) hc hm)
  have HML := Aside0.mk hml
  clear hm hx hml
  by_cases hno : a0 < 1 ∨ 15 < a0
  · go_enter Try.func4, Try.ntmps4
    go_wp2_with (first
      | (go_at_call 9; refine (new_no a0 _ hno).mono ?_; rintro e w' ⟨rfl, rfl⟩)
      | (go_at_call 8; refine (awake_c _).mono ?_; rintro e w' ⟨rfl, hb⟩; have HB := Aside0.mk hb; clear hb))
    go_ret
    exact ⟨rfl, HB.out⟩
  have h1 : 1 ≤ a0 := by omega
  have h15 : a0 ≤ 15 := by omega
  clear hno
  cases mr with
  | true =>
    clear HML
    go_enter Try.func4, Try.ntmps4
    go_wp2_with (first
      | (go_at_call 9; refine (St.new_ (w0 := w) (W := w) (Q := fun _ => False) (fun _ h => h.elim) (Below.refl _ _) a0 h1 h15).mono ?_; rintro e W1 ⟨rfl, hS, hK⟩; have HB1 := Aside0.mk hS.below; clear hS hK)
      | (go_at_call 13; refine (HM.out _ HB1.out).mono ?_; rintro e w' ⟨rfl, hd⟩; have HB2 := Aside0.mk (below_then HB1.out HB1.out.size hd.below); clear hd)
      | (go_at_call 8; refine (awake_c _).mono ?_; rintro e w' ⟨rfl, hb⟩; have HB := Aside0.mk (below_then HB2.out HB2.out.size hb); clear hb))
    go_ret
    exact ⟨rfl, HB.out⟩
  | false =>
    have h600 : l.length ≤ 600 := HML.out rfl
    clear HML
    go_enter Try.func4, Try.ntmps4
    go_wp2_with (first
      | (go_at_call 9; refine (St.new_ (w0 := w) (W := w) (Q := fun k => k < w.heap.size) (fun _ h => h) (Below.refl _ _) a0 h1 h15).mono ?_; rintro e W1 ⟨rfl, hS, hK⟩; have HS := Aside0.mk hS; clear hS hK)
      | (go_at_call 13; refine (HM.out _ HS.out.below).mono ?_; rintro e w' ⟨rfl, ⟨md, rfl⟩⟩; have HT : Aside0 (Two w (W1.drewN md) (some ⟨w.heap.size, 0, none⟩) ⟨[], 64, a0, fun _ => false⟩ (.slice none 0 0) [] (.slice none 0 0) [] (fun _ => False)) := Aside0.mk (Two.new (HS.out.drewN md)); clear HS))
    generalize (some ⟨w.heap.size, 0, none⟩ : Option Addr) = p at *
    clear HM
    go_loopg [7, 8, 9] l.length (fun gk v7 v8 v9 W => ∃ (i : Nat) (n : NetS) (L1 L2 : List S33), v9 = .int .i64 i ∧ i + gk = l.length ∧ (∃ A7 c7, v7 = .slice A7 L1.length c7) ∧ (∃ A8 c8, v8 = .slice A8 L2.length c8) ∧ Aside0 (Two w W p n v7 L1 v8 L2 (fun _ => False)) ∧ Aside0 (Acc n L1 L2 i))
    case atStart => exact ⟨0, _, [], [], rfl, by omega, ⟨_, _, rfl⟩, ⟨_, _, rfl⟩, HT, ⟨Acc.new a0⟩⟩
    case round =>
      clear HT
      obtain ⟨i, n, L1, L2, rfl, hig, ⟨A7, c7, rfl⟩, ⟨A8, c8, rfl⟩, HT0, HA⟩ := hrel
      by_cases hlt : i < l.length
      · obtain ⟨ad, d0, d1, d2, d3, x4, A4, c4, rfl, hgx, y0, y1, y2, y3, y4, hc4, hC4⟩ := acts_at HR.out HT0.out.below i hlt
        clear hgx
        have HC4 := Aside0.mk hC4
        have hlt' : (i : Int) < (l.length : Int) := by omega
        have hq : wrap64 ((i : Int) + 1) = (i : Int) + 1 := by unfold wrap64; omega
        have HT : Aside0 (Two w (wr.alloc (.cells #[.int .i64 d0, .int .i64 d1, .int .i64 d2, .int .i64 d3, .slice A4 x4.length c4] 41)) p n (.slice A7 L1.length c7) L1 (.slice A8 L2.length c8) L2 (fun k => k = wr.heap.size)) := Aside0.mk ((HT0.out.alloc _).weak (fun k hk => .inr hk))
        have BX := Aside0.mk (heap_alloc_new wr (.cells #[.int .i64 d0, .int .i64 d1, .int .i64 d2, .int .i64 d3, .slice A4 x4.length c4] 41))
        have hl1 : L1.length ≤ 100000 := by have := HA.out.sl; omega
        have hl2 : L2.length ≤ 100000 := by have := HA.out.cl; omega
        have HG := Aside0.mk HT0.out.good
        clear hC4 HT0
        by_cases h0 : d0 = 0
        · subst h0
          obtain ⟨se, hse⟩ : ∃ se, sendE n d1 d2 x4 = se := ⟨_, rfl⟩
          by_cases he : se = 0
          · subst he
            have HA2 := Aside0.mk (HA.out.put (m := ⟨d1, d2, x4⟩) (sendE_eq hse).2)
            have hsd := fun (W : World) (hT : Two w W p n (.slice A7 L1.length c7) L1 (.slice A8 L2.length c8) L2 (fun k => k = wr.heap.size)) => hT.send_ d1 d2 A4 c4 x4 (Kd.C_below HC4.out hT.below) hc4
            have HG2 := Aside0.mk (HG.out.send d1 d2 x4)
            rw [hse, (sendE_eq hse).1] at hsd
            rw [(sendE_eq hse).1] at HG2
            generalize putN n ⟨d1, d2, x4⟩ = n2 at *
            have HSD := Aside0.mk hsd
            clear hsd hse HG
            have hg : ((n2).all.length : Int) ≤ 64 := by have := HG2.out.len; omega
            have hgd : decide ((64 : Int) < ((n2).all.length : Int)) = false := by simp; omega
            go_wp2_with (first
              | (go_at_call 11; refine HT.out.len_.mono ?_; rintro e w' ⟨rfl, rfl⟩)
              | (go_at_call 10; refine (HSD.out _ HT.out).mono ?_; rintro e W2 ⟨rfl, hT, hK⟩; have HT2 := Aside0.mk hT; have BX2 := Aside0.mk ((hK.2 _ rfl).trans BX.out); clear hT hK HT BX; have HT := HT2; have BX := BX2; clear HT2 BX2; obtain ⟨z1, _⟩ := cells_at BX.out (j := 1) rfl; obtain ⟨z2, _⟩ := cells_at BX.out (j := 2) rfl; obtain ⟨z3, _⟩ := cells_at BX.out (j := 3) rfl; obtain ⟨z4, _⟩ := cells_at BX.out (j := 4) rfl)
              | ((with_reducible refine gate_builtin (b := .append) (xs := #[.tmp 55, .tmp 63]) rfl ?_); at_builtin; refine Two.app1 HT.out rfl (.tmp 55) (.tmp 63) rfl d1 d2 A4 c4 x4 (fun k => k < w.heap.size) rfl rfl (by simp) (F_came HC4.out HT.out.below) hc4 (fun k hk => .inl hk) hl1 ?_; intro A7' c7' w1 LL HL hT hK; have HT2 := Aside0.mk (hT.weak (R' := fun _ => False) (fun _ h => h.elim)); clear hT hK HT BX; have HT := HT2; clear HT2))
            rw [← HL.out] at HA2
            obtain ⟨k1, rfl⟩ : ∃ k1, gk = k1 + 1 := ⟨gk - 1, by omega⟩
            try go_wp2
            go_roundg k1
            case measure => omega
            case rel => exact ⟨i + 1, _, _, _, rfl, by omega, ⟨_, _, rfl⟩, ⟨_, _, rfl⟩, ⟨Two.weak (R' := fun _ => False) HT.out (fun _ h => False.elim h)⟩, HA2⟩
          · have HA2 := Aside0.mk HA.out.next
            have hsd := fun (W : World) (hT : Two w W p n (.slice A7 L1.length c7) L1 (.slice A8 L2.length c8) L2 (fun k => k = wr.heap.size)) => hT.send_ d1 d2 A4 c4 x4 (Kd.C_below HC4.out hT.below) hc4
            rw [hse, sendE_ne (by rw [hse]; exact he)] at hsd
            have HSD := Aside0.mk hsd
            have he1 : (se == 0) = false := by simpa using he
            have he2 : (se != 0) = true := by simpa using he
            clear hsd hse
            have hg : ((n).all.length : Int) ≤ 64 := by have := HG.out.len; omega
            have hgd : decide ((64 : Int) < ((n).all.length : Int)) = false := by simp; omega
            go_wp2_with (first
              | (go_at_call 11; refine HT.out.len_.mono ?_; rintro e w' ⟨rfl, rfl⟩)
              | (go_at_call 10; refine (HSD.out _ HT.out).mono ?_; rintro e W2 ⟨rfl, hT, hK⟩; have HT2 := Aside0.mk hT; have BX2 := Aside0.mk ((hK.2 _ rfl).trans BX.out); clear hT hK HT BX; have HT := HT2; have BX := BX2; clear HT2 BX2; obtain ⟨z1, _⟩ := cells_at BX.out (j := 1) rfl; obtain ⟨z2, _⟩ := cells_at BX.out (j := 2) rfl; obtain ⟨z3, _⟩ := cells_at BX.out (j := 3) rfl; obtain ⟨z4, _⟩ := cells_at BX.out (j := 4) rfl))
            obtain ⟨k1, rfl⟩ : ∃ k1, gk = k1 + 1 := ⟨gk - 1, by omega⟩
            try go_wp2
            go_roundg k1
            case measure => omega
            case rel => exact ⟨i + 1, _, _, _, rfl, by omega, ⟨_, _, rfl⟩, ⟨_, _, rfl⟩, ⟨Two.weak (R' := fun _ => False) HT.out (fun _ h => False.elim h)⟩, HA2⟩
        by_cases h1 : d0 = 1
        · subst h1
          obtain ⟨de, hde⟩ : ∃ de, dlvE n d3 = de := ⟨_, rfl⟩
          obtain ⟨⟨mf, mt, ml⟩, hm⟩ : ∃ m, dlvM n d3 = m := ⟨_, rfl⟩
          have hsd := fun (W : World) (hT : Two w W p n (.slice A7 L1.length c7) L1 (.slice A8 L2.length c8) L2 (fun k => k = wr.heap.size)) => hT.dlv_ d3
          rw [hm, hde] at hsd
          by_cases he : de = 0
          · subst he
            have ha := HA.out.dlv hde
            rw [hm] at ha
            have HA2 := Aside0.mk ha.1
            have HG2 := Aside0.mk (HG.out.dlv d3)
            have hlen := ha.2
            generalize dlvN n d3 = n2 at *
            have hwas : wrap64 ((n.all.length : Int) - 1) = (n2.all.length : Int) := by have := HG.out.len; unfold wrap64; omega
            have hcnt : decide (((L1.countP (sameB mf mt ml) : Nat) : Int) < ((L2 ++ [(⟨mf, mt, ml⟩ : S33)]).countP (sameB mf mt ml) : Nat)) = false := by
              have := ha.1.low (sameB mf mt ml)
              simp only [decide_eq_false_iff_not]
              omega
            have HSD := Aside0.mk hsd
            have hl3 : (L2 ++ [(⟨mf, mt, ml⟩ : S33)]).length ≤ 100000 := by have := HA2.out.cl; omega
            have HCN := Aside0.mk hcnt
            clear hsd hde ha hlen HG hm hcnt
            have hg : ((n2).all.length : Int) ≤ 64 := by have := HG2.out.len; omega
            have hgd : decide ((64 : Int) < ((n2).all.length : Int)) = false := by simp; omega
            go_wp2_with (first
              | (go_at_call 11; refine HT.out.len_.mono ?_; rintro e w' ⟨rfl, rfl⟩)
              | (go_at_call 12; refine (HSD.out _ HT.out).mono ?_; rintro e W2 ⟨Am, cm, rfl, q, hF, hcm, hqb, hT, hK⟩; have HT2 := Aside0.mk ((hT.alloc (.cells #[.int .i64 mf, .int .i64 mt, .slice Am ml.length cm] 33)).weak (R' := fun k => q k ∨ k = W2.heap.size) (fun k h => h.imp .inr id)); have HF2 := Aside0.mk (Kd.F_alloc hF (.cells #[.int .i64 mf, .int .i64 mt, .slice Am ml.length cm] 33)); have BM := Aside0.mk (heap_alloc_new W2 (.cells #[.int .i64 mf, .int .i64 mt, .slice Am ml.length cm] 33)); clear hT hK HT BX hF hqb; have HT := HT2; clear HT2)
              | ((with_reducible refine gate_builtin (b := .append) (xs := #[.tmp 77, .tmp 79]) rfl ?_); at_builtin; refine Two.app2 HT.out rfl (.tmp 77) (.tmp 79) rfl mf mt Am cm ml q rfl rfl (by simp) HF2.out hcm (fun k hk => .inl hk) hl2 ?_; intro A8' c8' w1 LL HL hT hK; have HT2 := Aside0.mk (hT.weak (R' := fun _ => False) (fun _ h => False.elim h)); have HF3 := Aside0.mk (Kd.F_step HF2.out (fun k hk _ => hK.2 k (.inl hk))); have BM2 := Aside0.mk ((hK.2 _ (.inr rfl)).trans BM.out); clear hT hK HT BM HF2; have HT := HT2; clear HT2))
            rw [← HL.out] at HA2 HCN hl3
            have hcn := HCN.out
            have hcn2 : decide (L1.countP (sameB mf mt ml) < LL.countP (sameB mf mt ml)) = false := by simpa using hcn
            obtain ⟨z1, _⟩ := cells_at BM2.out (j := 0) rfl
            obtain ⟨z2, _⟩ := cells_at BM2.out (j := 1) rfl
            obtain ⟨z3, _⟩ := cells_at BM2.out (j := 2) rfl
            refine start_ (n := 14) (S := fun w' => w'.cell? ⟨W2.heap.size, 0, none⟩ = some (.int .i64 mf) ∧ w'.cell? ⟨W2.heap.size, 1, none⟩ = some (.int .i64 mt) ∧ w'.cell? ⟨W2.heap.size, 2, none⟩ = some (.slice Am ml.length cm)) (ds := []) #[false, false, false, false, false, false, false, false, false, false, false, false, false, false] (by kernel_rfl) rfl rfl ⟨z1, z2, z3⟩ (fun hHeld => ?_)
            refine with_tabW tru.tab21 tru.bits21 (fun HT_ HW_ => ?_)
            have HT3 := Aside0.mk HT.out.drew
            have HROW := Aside0.mk HT3.out.rows
            have HF4 := Aside0.mk (Kd.F_drew HF3.out)
            replace z1 : w1.drew.cell? ⟨W2.heap.size, 0, none⟩ = some (.int .i64 mf) := z1
            replace z2 : w1.drew.cell? ⟨W2.heap.size, 1, none⟩ = some (.int .i64 mt) := z2
            replace z3 : w1.drew.cell? ⟨W2.heap.size, 2, none⟩ = some (.slice Am ml.length cm) := z3
            clear HT HF3 BM2
            generalize w1.drew = w3 at *
            -- 0: Op.move
            refine pure_ (i := 0) (N := some 81) (v := ?_) (a' := ?_) #[true, false, false, false, false, false, false, false, false, false, false, false, false, false] rfl rfl (any_of HT_.out (by kernel_rfl)) (fun _ _ _ h => h) (Or.inl ⟨by rfl, ?_⟩) ?_ ?_
            rotate_left; (intro w'; go_simp; with_reducible rfl); rotate_left; (simp only [Act.put, List.setIfInBounds_toArray, List.set_cons_zero, List.set_cons_succ, i64_w, i32_w]; rfl)
            -- 2: Op.move
            refine pure_ (i := 2) (N := some 83) (v := ?_) (a' := ?_) #[true, false, true, false, false, false, false, false, false, false, false, false, false, false] rfl rfl (any_of HT_.out (by kernel_rfl)) (fun _ _ _ h => h) (Or.inl ⟨by rfl, ?_⟩) ?_ ?_
            rotate_left; (intro w'; go_simp; with_reducible rfl); rotate_left; (simp only [Act.put, List.setIfInBounds_toArray, List.set_cons_zero, List.set_cons_succ, i64_w, i32_w]; rfl)
            -- 3: Op.binOp
            refine pure_ (i := 3) (N := some 84) (v := ?_) (a' := ?_) #[true, false, true, true, false, false, false, false, false, false, false, false, false, false] rfl rfl (any_of HT_.out (by kernel_rfl)) (fun _ _ _ h => h) (Or.inl ⟨by rfl, ?_⟩) ?_ ?_
            rotate_left; (intro w'; go_simp; with_reducible rfl); rotate_left; (simp only [Act.put, List.setIfInBounds_toArray, List.set_cons_zero, List.set_cons_succ, i64_w, i32_w]; rfl)
            -- 1: Op.call
            refine one_ (i := 1) (N := some 82) #[true, true, true, true, false, false, false, false, false, false, false, false, false, false] rfl rfl (one_of HT_.out (by kernel_rfl)) (by decide) (fun K hK => ?_)
            refine goes_ Try.func11 (by kernel_rfl) rfl #[.pointer p] (by rfl) rfl rfl (by (try simp only [List.map_toArray, List.map_cons, List.map_nil]); first | done | rfl) ?_
            refine HT3.out.len_.mono ?_
            rintro e w' ⟨rfl, rfl⟩
            refine ⟨_, rfl, ?_⟩
            refine hK.out _ _ ⟨z1, z2, z3⟩ (fun hHeld => ?_)
            clear hK K
            refine norm_ (a' := ?_) ?_ ?_
            rotate_left; (show Act.put _ (some 82) _ = _; simp only [Act.put, List.setIfInBounds_toArray, List.set_cons_zero, List.set_cons_succ, i64_w, i32_w]; rfl)
            -- 4: Op.binOp
            refine pure_ (i := 4) (N := some 85) (v := ?_) (a' := ?_) #[true, true, true, true, true, false, false, false, false, false, false, false, false, false] rfl rfl (any_of HT_.out (by kernel_rfl)) (fun _ _ _ h => h) (Or.inl ⟨by rfl, ?_⟩) ?_ ?_
            rotate_left; (intro w'; go_simp; with_reducible rfl); rotate_left; (simp only [Act.put, List.setIfInBounds_toArray, List.set_cons_zero, List.set_cons_succ, i64_w, i32_w]; rfl)
            -- 5: Op.move
            refine pure_ (i := 5) (N := some 86) (v := ?_) (a' := ?_) #[true, true, true, true, true, true, false, false, false, false, false, false, false, false] rfl rfl (any_of HT_.out (by kernel_rfl)) (fun _ _ _ h => h) (Or.inl ⟨by rfl, ?_⟩) ?_ ?_
            rotate_left; (intro w'; go_simp; with_reducible rfl); rotate_left; (simp only [Act.put, List.setIfInBounds_toArray, List.set_cons_zero, List.set_cons_succ, i64_w, i32_w]; rfl)
            -- 6: Op.move
            refine pure_ (i := 6) (N := some 87) (v := ?_) (a' := ?_) #[true, true, true, true, true, true, true, false, false, false, false, false, false, false] rfl rfl (any_of HT_.out (by kernel_rfl)) (fun _ _ _ h => h) (Or.inl ⟨by rfl, ?_⟩) ?_ ?_
            rotate_left; (intro w'; go_simp; with_reducible rfl); rotate_left; (simp only [Act.put, List.setIfInBounds_toArray, List.set_cons_zero, List.set_cons_succ, i64_w, i32_w]; rfl)
            -- 9: Op.move
            refine pure_ (i := 9) (N := some 90) (v := ?_) (a' := ?_) #[true, true, true, true, true, true, true, false, false, true, false, false, false, false] rfl rfl (any_of HT_.out (by kernel_rfl)) (fun _ _ _ h => h) (Or.inl ⟨by rfl, ?_⟩) ?_ ?_
            rotate_left; (intro w'; go_simp; with_reducible rfl); rotate_left; (simp only [Act.put, List.setIfInBounds_toArray, List.set_cons_zero, List.set_cons_succ, i64_w, i32_w]; rfl)
            -- 7: Op.load
            refine take_ (i := 7) (N := some 88) (v := ?_) (a' := ?_) #[true, true, true, true, true, true, true, true, false, true, false, false, false, false] rfl rfl (take_ofW HT_.out HW_.out (by kernel_rfl)) (fun _ _ _ h => h) (Or.inl ⟨by rfl, ?_⟩) hHeld ?_ ?_
            rotate_left; (rintro w' ⟨s0, s1, s2⟩; go_simp; with_reducible rfl); rotate_left; (simp only [Act.put, List.setIfInBounds_toArray, List.set_cons_zero, List.set_cons_succ, i64_w, i32_w]; rfl)
            -- 10: Op.load
            refine take_ (i := 10) (N := some 91) (v := ?_) (a' := ?_) #[true, true, true, true, true, true, true, true, false, true, true, false, false, false] rfl rfl (take_ofW HT_.out HW_.out (by kernel_rfl)) (fun _ _ _ h => h) (Or.inl ⟨by rfl, ?_⟩) hHeld ?_ ?_
            rotate_left; (rintro w' ⟨s0, s1, s2⟩; go_simp; with_reducible rfl); rotate_left; (simp only [Act.put, List.setIfInBounds_toArray, List.set_cons_zero, List.set_cons_succ, i64_w, i32_w]; rfl)
            -- 8: Op.call
            refine one_ (i := 8) (N := some 89) #[true, true, true, true, true, true, true, true, true, true, true, false, false, false] rfl rfl (one_of HT_.out (by kernel_rfl)) (by decide) (fun K hK => ?_)
            refine goes_ Try.func14 (by kernel_rfl) rfl #[.slice A8' LL.length c8', .agg #[.int .i64 mf, .int .i64 mt, .slice Am ml.length cm]] (by rfl) rfl rfl (by (try simp only [List.map_toArray, List.map_cons, List.map_nil]); first | done | rfl) ?_
            refine (scrivenerlaw05_count.calls _ _ _ LL mf mt Am cm ml _ _ HROW.out.2.1 HROW.out.2.2 (Kd.F_now HF4.out) hcm (count_f _ _ _ _ hl3)).mono ?_
            rintro e w5 ⟨rfl, hb⟩
            have HB5 := Aside0.mk hb
            refine ⟨_, rfl, ?_⟩
            refine hK.out _ _ ⟨pw_cell_below hb z1, pw_cell_below hb z2, pw_cell_below hb z3⟩ (fun hHeld => ?_)
            clear hb
            clear hK K
            refine norm_ (a' := ?_) ?_ ?_
            rotate_left; (show Act.put _ (some 89) _ = _; simp only [Act.put, List.setIfInBounds_toArray, List.set_cons_zero, List.set_cons_succ, i64_w, i32_w]; rfl)
            -- 11: Op.call
            refine one_ (i := 11) (N := some 92) #[true, true, true, true, true, true, true, true, true, true, true, true, false, false] rfl rfl (one_of HT_.out (by kernel_rfl)) (by decide) (fun K hK => ?_)
            refine goes_ Try.func14 (by kernel_rfl) rfl #[.slice A7 L1.length c7, .agg #[.int .i64 mf, .int .i64 mt, .slice Am ml.length cm]] (by rfl) rfl rfl (by (try simp only [List.map_toArray, List.map_cons, List.map_nil]); first | done | rfl) ?_
            refine (scrivenerlaw05_count.calls _ _ _ L1 mf mt Am cm ml _ _ (Kd.C_below HROW.out.1.1 HB5.out) HROW.out.1.2 (Kd.C_below (Kd.F_now HF4.out) HB5.out) hcm (count_f _ _ _ _ hl1)).mono ?_
            rintro e w6 ⟨rfl, hb⟩
            have HB6 := Aside0.mk (below_then HB5.out HB5.out.size hb)
            refine ⟨_, rfl, ?_⟩
            refine hK.out _ _ ⟨pw_cell_below HB6.out z1, pw_cell_below HB6.out z2, pw_cell_below HB6.out z3⟩ (fun hHeld => ?_)
            clear hb
            clear hK K
            refine norm_ (a' := ?_) ?_ ?_
            rotate_left; (show Act.put _ (some 92) _ = _; simp only [Act.put, List.setIfInBounds_toArray, List.set_cons_zero, List.set_cons_succ, i64_w, i32_w]; rfl)
            -- 12: Op.binOp
            refine pure_ (i := 12) (N := some 93) (v := ?_) (a' := ?_) #[true, true, true, true, true, true, true, true, true, true, true, true, true, false] rfl rfl (any_of HT_.out (by kernel_rfl)) (fun _ _ _ h => h) (Or.inl ⟨by rfl, ?_⟩) ?_ ?_
            rotate_left; (intro w'; go_simp; with_reducible rfl); rotate_left; (simp only [Act.put, List.setIfInBounds_toArray, List.set_cons_zero, List.set_cons_succ, i64_w, i32_w]; rfl)
            -- 13: Op.pick
            refine pure_ (i := 13) (N := some 94) (v := ?_) (a' := ?_) #[true, true, true, true, true, true, true, true, true, true, true, true, true, true] rfl rfl (any_of HT_.out (by kernel_rfl)) (fun _ _ _ h => h) (Or.inl ⟨by rfl, ?_⟩) ?_ ?_
            rotate_left; (intro w'; go_simp; with_reducible rfl); rotate_left; (simp only [Act.put, List.setIfInBounds_toArray, List.set_cons_zero, List.set_cons_succ, i64_w, i32_w]; rfl)
            refine done_ (done_of HT_.out (by kernel_rfl)) ?_
            clear HROW hcn hcn2
            have HT := Aside0.mk (HT3.out.past HB6.out)
            clear HT3 HF4 HB5 HB6 z1 z2 z3
            go_wp2_with (go_at_call 11; refine HT.out.len_.mono ?_; rintro e w' ⟨rfl, rfl⟩)
            obtain ⟨k1, rfl⟩ : ∃ k1, gk = k1 + 1 := ⟨gk - 1, by omega⟩
            try go_wp2
            go_roundg k1
            case measure => omega
            case rel => exact ⟨i + 1, _, _, _, rfl, by omega, ⟨_, _, rfl⟩, ⟨_, _, rfl⟩, ⟨Two.weak (R' := fun _ => False) HT.out (fun _ h => False.elim h)⟩, HA2⟩
          · have HA2 := Aside0.mk HA.out.next
            rw [dlvE_ne (by rw [hde]; exact he)] at hsd
            have HSD := Aside0.mk hsd
            have he1 : (de == 0) = false := by simpa using he
            have he2 : (de != 0) = true := by simpa using he
            clear hsd hde hm
            have hg : ((n).all.length : Int) ≤ 64 := by have := HG.out.len; omega
            have hgd : decide ((64 : Int) < ((n).all.length : Int)) = false := by simp; omega
            go_wp2_with (first
              | (go_at_call 11; refine HT.out.len_.mono ?_; rintro e w' ⟨rfl, rfl⟩)
              | (go_at_call 12; refine (HSD.out _ HT.out).mono ?_; rintro e W2 ⟨Am, cm, rfl, q, hF, hcm, hqb, hT, hK⟩; have HT2 := Aside0.mk ((hT.alloc (.cells #[.int .i64 mf, .int .i64 mt, .slice Am ml.length cm] 33)).weak (R' := fun k => False) (fun k h => False.elim h)); clear hT hK HT BX hF hqb hcm; have HT := HT2; clear HT2))
            obtain ⟨k1, rfl⟩ : ∃ k1, gk = k1 + 1 := ⟨gk - 1, by omega⟩
            try go_wp2
            go_roundg k1
            case measure => omega
            case rel => exact ⟨i + 1, _, _, _, rfl, by omega, ⟨_, _, rfl⟩, ⟨_, _, rfl⟩, ⟨Two.weak (R' := fun _ => False) HT.out (fun _ h => False.elim h)⟩, HA2⟩
        by_cases h2 : d0 = 2
        · subst h2
          obtain ⟨de, hde⟩ : ∃ de, dropE n d3 = de := ⟨_, rfl⟩
          have hsd := fun (W : World) (hT : Two w W p n (.slice A7 L1.length c7) L1 (.slice A8 L2.length c8) L2 (fun k => k = wr.heap.size)) => hT.drop_ d3
          rw [hde] at hsd
          by_cases he : de = 0
          · subst he
            have HA2 := Aside0.mk (HA.out.drop d3)
            have HG2 := Aside0.mk (HG.out.drop d3)
            generalize dropN n d3 = n2 at *
            have HSD := Aside0.mk hsd
            clear hsd hde HG
            have hg : ((n2).all.length : Int) ≤ 64 := by have := HG2.out.len; omega
            have hgd : decide ((64 : Int) < ((n2).all.length : Int)) = false := by simp; omega
            go_wp2_with (first
              | (go_at_call 11; refine HT.out.len_.mono ?_; rintro e w' ⟨rfl, rfl⟩)
              | (go_at_call 15; refine (HSD.out _ HT.out).mono ?_; rintro e W2 ⟨rfl, hT, hK⟩; have HT2 := Aside0.mk hT; have BX2 := Aside0.mk ((hK.2 _ rfl).trans BX.out); clear hT hK HT BX; have HT := HT2; have BX := BX2; clear HT2 BX2; obtain ⟨z1, _⟩ := cells_at BX.out (j := 1) rfl; obtain ⟨z2, _⟩ := cells_at BX.out (j := 2) rfl; obtain ⟨z3, _⟩ := cells_at BX.out (j := 3) rfl; obtain ⟨z4, _⟩ := cells_at BX.out (j := 4) rfl))
            obtain ⟨k1, rfl⟩ : ∃ k1, gk = k1 + 1 := ⟨gk - 1, by omega⟩
            try go_wp2
            go_roundg k1
            case measure => omega
            case rel => exact ⟨i + 1, _, _, _, rfl, by omega, ⟨_, _, rfl⟩, ⟨_, _, rfl⟩, ⟨Two.weak (R' := fun _ => False) HT.out (fun _ h => False.elim h)⟩, HA2⟩
          · have HA2 := Aside0.mk HA.out.next
            rw [dropE_ne (by rw [hde]; exact he)] at hsd
            have HSD := Aside0.mk hsd
            have he1 : (de == 0) = false := by simpa using he
            have he2 : (de != 0) = true := by simpa using he
            clear hsd hde
            have hg : ((n).all.length : Int) ≤ 64 := by have := HG.out.len; omega
            have hgd : decide ((64 : Int) < ((n).all.length : Int)) = false := by simp; omega
            go_wp2_with (first
              | (go_at_call 11; refine HT.out.len_.mono ?_; rintro e w' ⟨rfl, rfl⟩)
              | (go_at_call 15; refine (HSD.out _ HT.out).mono ?_; rintro e W2 ⟨rfl, hT, hK⟩; have HT2 := Aside0.mk hT; have BX2 := Aside0.mk ((hK.2 _ rfl).trans BX.out); clear hT hK HT BX; have HT := HT2; have BX := BX2; clear HT2 BX2; obtain ⟨z1, _⟩ := cells_at BX.out (j := 1) rfl; obtain ⟨z2, _⟩ := cells_at BX.out (j := 2) rfl; obtain ⟨z3, _⟩ := cells_at BX.out (j := 3) rfl; obtain ⟨z4, _⟩ := cells_at BX.out (j := 4) rfl))
            obtain ⟨k1, rfl⟩ : ∃ k1, gk = k1 + 1 := ⟨gk - 1, by omega⟩
            try go_wp2
            go_roundg k1
            case measure => omega
            case rel => exact ⟨i + 1, _, _, _, rfl, by omega, ⟨_, _, rfl⟩, ⟨_, _, rfl⟩, ⟨Two.weak (R' := fun _ => False) HT.out (fun _ h => False.elim h)⟩, HA2⟩
        by_cases h3 : d0 = 3
        · subst h3
          obtain ⟨de, hde⟩ : ∃ de, dblE n d3 = de := ⟨_, rfl⟩
          obtain ⟨⟨mf, mt, ml⟩, hm⟩ : ∃ m, atM n d3 = m := ⟨_, rfl⟩
          obtain ⟨ae, hae⟩ : ∃ ae, atE n d3 = ae := ⟨_, rfl⟩
          have hat := fun (W : World) (hT : Two w W p n (.slice A7 L1.length c7) L1 (.slice A8 L2.length c8) L2 (fun k => k = wr.heap.size)) => hT.at_ d3
          have hdb := fun (W : World) (R : Nat → Prop) (hT : Two w W p n (.slice A7 L1.length c7) L1 (.slice A8 L2.length c8) L2 R) => hT.dbl_ d3
          rw [hm, hae] at hat
          rw [hde] at hdb
          have HAT := Aside0.mk hat
          clear hat hae
          by_cases he : de = 0
          · subst he
            have HA2 := Aside0.mk (HA.out.put (m := ⟨mf, mt, ml⟩) (dblE_eq hde).2)
            have HG2 := Aside0.mk (HG.out.dbl d3)
            rw [(dblE_eq hde).1, hm] at HG2 hdb
            generalize putN n ⟨mf, mt, ml⟩ = n2 at *
            have HDB := Aside0.mk hdb
            clear hdb hde HG hm
            have hg : ((n2).all.length : Int) ≤ 64 := by have := HG2.out.len; omega
            have hgd : decide ((64 : Int) < ((n2).all.length : Int)) = false := by simp; omega
            go_wp2_with (first
              | (go_at_call 11; refine HT.out.len_.mono ?_; rintro e w' ⟨rfl, rfl⟩)
              | (go_at_call 16; refine (HAT.out _ HT.out).mono ?_; rintro e W2 ⟨Am, cm, rfl, q, hF, hcm, hqb, hT, hK⟩; have HT2 := Aside0.mk (hT.alloc (.cells #[.int .i64 mf, .int .i64 mt, .slice Am ml.length cm] 33)); have HF2 := Aside0.mk (Kd.F_alloc hF (.cells #[.int .i64 mf, .int .i64 mt, .slice Am ml.length cm] 33)); have BM := Aside0.mk (heap_alloc_new W2 (.cells #[.int .i64 mf, .int .i64 mt, .slice Am ml.length cm] 33)); have BX2 := Aside0.mk (blk_alloc ((hK.2 _ rfl).trans BX.out) (.cells #[.int .i64 mf, .int .i64 mt, .slice Am ml.length cm] 33)); clear hT hK HT BX hF hqb; have HT := HT2; have BX := BX2; clear HT2 BX2; obtain ⟨z1, _⟩ := cells_at BX.out (j := 1) rfl; obtain ⟨z2, _⟩ := cells_at BX.out (j := 2) rfl; obtain ⟨z3, _⟩ := cells_at BX.out (j := 3) rfl; obtain ⟨z4, _⟩ := cells_at BX.out (j := 4) rfl)
              | (go_at_call 17; refine (HDB.out _ _ HT.out).mono ?_; rintro e W3 ⟨rfl, hT, hK⟩; have HT2 := Aside0.mk hT; have HF3 := Aside0.mk (Kd.F_step HF2.out (fun k hk _ => hK.2 k (.inl (.inr hk)))); have BM2 := Aside0.mk ((hK.2 _ (.inr rfl)).trans BM.out); clear hT hK HT BX BM HF2 z1 z2 z3 z4; have HT := HT2; clear HT2; obtain ⟨z1, _⟩ := cells_at BM2.out (j := 0) rfl; obtain ⟨z2, _⟩ := cells_at BM2.out (j := 1) rfl; obtain ⟨z3, _⟩ := cells_at BM2.out (j := 2) rfl)
              | ((with_reducible refine gate_builtin (b := .append) (xs := #[.tmp 116, .tmp 118]) rfl ?_); at_builtin; refine Two.app1 HT.out rfl (.tmp 116) (.tmp 118) rfl mf mt Am cm ml q rfl rfl (by simp) HF3.out hcm (fun k hk => .inr (.inl (.inr hk))) hl1 ?_; intro A7' c7' w1 LL HL hT hK; have HT2 := Aside0.mk (hT.weak (R' := fun _ => False) (fun _ h => False.elim h)); clear hT hK HT; have HT := HT2; clear HT2))
            rw [← HL.out] at HA2
            obtain ⟨k1, rfl⟩ : ∃ k1, gk = k1 + 1 := ⟨gk - 1, by omega⟩
            try go_wp2
            go_roundg k1
            case measure => omega
            case rel => exact ⟨i + 1, _, _, _, rfl, by omega, ⟨_, _, rfl⟩, ⟨_, _, rfl⟩, ⟨Two.weak (R' := fun _ => False) HT.out (fun _ h => False.elim h)⟩, HA2⟩
          · have HA2 := Aside0.mk HA.out.next
            rw [dblE_ne (by rw [hde]; exact he)] at hdb
            have HDB := Aside0.mk hdb
            have he1 : (de == 0) = false := by simpa using he
            have he2 : (de != 0) = true := by simpa using he
            clear hdb hde hm
            have hg : ((n).all.length : Int) ≤ 64 := by have := HG.out.len; omega
            have hgd : decide ((64 : Int) < ((n).all.length : Int)) = false := by simp; omega
            go_wp2_with (first
              | (go_at_call 11; refine HT.out.len_.mono ?_; rintro e w' ⟨rfl, rfl⟩)
              | (go_at_call 16; refine (HAT.out _ HT.out).mono ?_; rintro e W2 ⟨Am, cm, rfl, q, hF, hcm, hqb, hT, hK⟩; have HT2 := Aside0.mk ((hT.alloc (.cells #[.int .i64 mf, .int .i64 mt, .slice Am ml.length cm] 33)).weak (R' := fun k => False) (fun k h => False.elim h)); have BX2 := Aside0.mk (blk_alloc ((hK.2 _ rfl).trans BX.out) (.cells #[.int .i64 mf, .int .i64 mt, .slice Am ml.length cm] 33)); clear hT hK HT BX hF hqb hcm; have HT := HT2; have BX := BX2; clear HT2 BX2; obtain ⟨z1, _⟩ := cells_at BX.out (j := 1) rfl; obtain ⟨z2, _⟩ := cells_at BX.out (j := 2) rfl; obtain ⟨z3, _⟩ := cells_at BX.out (j := 3) rfl; obtain ⟨z4, _⟩ := cells_at BX.out (j := 4) rfl)
              | (go_at_call 17; refine (HDB.out _ _ HT.out).mono ?_; rintro e W3 ⟨rfl, hT, hK⟩; have HT2 := Aside0.mk hT; clear hT hK HT BX z1 z2 z3 z4; have HT := HT2; clear HT2))
            obtain ⟨k1, rfl⟩ : ∃ k1, gk = k1 + 1 := ⟨gk - 1, by omega⟩
            try go_wp2
            go_roundg k1
            case measure => omega
            case rel => exact ⟨i + 1, _, _, _, rfl, by omega, ⟨_, _, rfl⟩, ⟨_, _, rfl⟩, ⟨Two.weak (R' := fun _ => False) HT.out (fun _ h => False.elim h)⟩, HA2⟩

        by_cases h4 : d0 = 4
        · subst h4
          have HA2 := Aside0.mk (HA.out.next.all (link_all n d1 d2 true))
          have HG2 := Aside0.mk (HG.out.link d1 d2 true)
          have HSD := Aside0.mk (fun (W : World) (hT : Two w W p n (.slice A7 L1.length c7) L1 (.slice A8 L2.length c8) L2 (fun k => k = wr.heap.size)) => hT.cut_ d1 d2)
          generalize n.link d1 d2 true = n2 at *
          clear HG
          have hg : ((n2).all.length : Int) ≤ 64 := by have := HG2.out.len; omega
          have hgd : decide ((64 : Int) < ((n2).all.length : Int)) = false := by simp; omega
          go_wp2_with (first
            | (go_at_call 11; refine HT.out.len_.mono ?_; rintro e w' ⟨rfl, rfl⟩)
            | (go_at_call 18; refine (HSD.out _ HT.out).mono ?_; rintro e W2 ⟨rfl, hT, hK⟩; have HT2 := Aside0.mk hT; have BX2 := Aside0.mk ((hK.2 _ rfl).trans BX.out); clear hT hK HT BX; have HT := HT2; have BX := BX2; clear HT2 BX2; obtain ⟨z1, _⟩ := cells_at BX.out (j := 1) rfl; obtain ⟨z2, _⟩ := cells_at BX.out (j := 2) rfl; obtain ⟨z3, _⟩ := cells_at BX.out (j := 3) rfl; obtain ⟨z4, _⟩ := cells_at BX.out (j := 4) rfl))
          obtain ⟨k1, rfl⟩ : ∃ k1, gk = k1 + 1 := ⟨gk - 1, by omega⟩
          try go_wp2
          go_roundg k1
          case measure => omega
          case rel => exact ⟨i + 1, _, _, _, rfl, by omega, ⟨_, _, rfl⟩, ⟨_, _, rfl⟩, ⟨Two.weak (R' := fun _ => False) HT.out (fun _ h => False.elim h)⟩, HA2⟩
        by_cases h5 : d0 = 5
        · subst h5
          have HA2 := Aside0.mk (HA.out.next.all (link_all n d1 d2 false))
          have HG2 := Aside0.mk (HG.out.link d1 d2 false)
          have HSD := Aside0.mk (fun (W : World) (hT : Two w W p n (.slice A7 L1.length c7) L1 (.slice A8 L2.length c8) L2 (fun k => k = wr.heap.size)) => hT.heal_ d1 d2)
          generalize n.link d1 d2 false = n2 at *
          clear HG
          have hg : ((n2).all.length : Int) ≤ 64 := by have := HG2.out.len; omega
          have hgd : decide ((64 : Int) < ((n2).all.length : Int)) = false := by simp; omega
          go_wp2_with (first
            | (go_at_call 11; refine HT.out.len_.mono ?_; rintro e w' ⟨rfl, rfl⟩)
            | (go_at_call 19; refine (HSD.out _ HT.out).mono ?_; rintro e W2 ⟨rfl, hT, hK⟩; have HT2 := Aside0.mk hT; have BX2 := Aside0.mk ((hK.2 _ rfl).trans BX.out); clear hT hK HT BX; have HT := HT2; have BX := BX2; clear HT2 BX2; obtain ⟨z1, _⟩ := cells_at BX.out (j := 1) rfl; obtain ⟨z2, _⟩ := cells_at BX.out (j := 2) rfl; obtain ⟨z3, _⟩ := cells_at BX.out (j := 3) rfl; obtain ⟨z4, _⟩ := cells_at BX.out (j := 4) rfl))
          obtain ⟨k1, rfl⟩ : ∃ k1, gk = k1 + 1 := ⟨gk - 1, by omega⟩
          try go_wp2
          go_roundg k1
          case measure => omega
          case rel => exact ⟨i + 1, _, _, _, rfl, by omega, ⟨_, _, rfl⟩, ⟨_, _, rfl⟩, ⟨Two.weak (R' := fun _ => False) HT.out (fun _ h => False.elim h)⟩, HA2⟩
        have HA2 := Aside0.mk HA.out.next
        have f0 : (d0 == 0) = false := by simpa using h0
        have f1 : (d0 == 1) = false := by simpa using h1
        have f2 : (d0 == 2) = false := by simpa using h2
        have f3 : (d0 == 3) = false := by simpa using h3
        have f4 : (d0 == 4) = false := by simpa using h4
        have f5 : (d0 == 5) = false := by simpa using h5
        clear h0 h1 h2 h3 h4 h5
        have hg : ((n).all.length : Int) ≤ 64 := by have := HG.out.len; omega
        have hgd : decide ((64 : Int) < ((n).all.length : Int)) = false := by simp; omega
        go_wp2_with (go_at_call 11; refine HT.out.len_.mono ?_; rintro e w' ⟨rfl, rfl⟩)
        obtain ⟨k1, rfl⟩ : ∃ k1, gk = k1 + 1 := ⟨gk - 1, by omega⟩
        try go_wp2
        go_roundg k1
        case measure => omega
        case rel => exact ⟨i + 1, _, _, _, rfl, by omega, ⟨_, _, rfl⟩, ⟨_, _, rfl⟩, ⟨Two.weak (R' := fun _ => False) HT.out (fun _ h => False.elim h)⟩, HA2⟩
      · obtain rfl : i = l.length := by omega
        have hd : decide ((l.length : Int) < (l.length : Int)) = false := by simp
        have HB := Aside0.mk HT0.out.below
        go_wp2_with (go_at_call 8; refine (awake_c _).mono ?_; rintro e w' ⟨rfl, hb⟩; have HB2 := Aside0.mk (below_then HB.out HB.out.size hb); clear hb)
        go_ret
        exact ⟨rfl, HB2.out⟩
end Go.Proofs.Ytnaefndclalepaa.Net
