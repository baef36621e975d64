/- Copy. -/
import Derived.Test.YtnaefndclalepaaCpf
import Derived.Laws.Tables
import Derived.Deep.WholeRow
import Derived.ChangeKeysEq
namespace Go.Proofs.Ytnaefndclalepaa.Net
set_option linter.unusedVariables false
set_option linter.unusedSimpArgs false
open Go.RowKit Go.Shelf Go.Proofs.YtnaefndclalepaaW.PrintWords Go.Proofs.YtnaefndclalepaaW.PrintLast Go.Proofs.YtnaefndclalepaaW.PrintMore Go.Proofs.Ytnaefndclalepaa.XN
attribute [local go_sem] Oper.semAt_some
def cpy.T7 : Bool × List (List Nat × List Nat) := (true, [([], []), ([0], [0]), ([1], [1]), ([], []), ([3], [3]), ([4], [4]), ([2, 5, 4], [2, 5]), ([0, 1, 2, 3, 4, 5, 6], []), ([7, 0, 1, 2, 3, 4, 5, 6], [7]), ([8, 6, 6, 0, 1, 2, 3, 4, 5, 6], [6, 8])])
def cpy.B7 : List Nat := [0, 1, 3, 0, 8, 24, 63, 127, 255, 511]
theorem cpy.tab7 : rtab .any (opsOf Try.f21 7) = cpy.T7 := by kernel_rfl
theorem cpy.bits7 : waitsOk cpy.T7.2 cpy.B7 = true := by kernel_rfl
theorem wideOp_of {n : Nat} {P : Program} {o : Oper} {a : Act} {w : World} {K : Act → World → Prop} {Q : Exit → Act → World → Prop} (hd : noDefer o = true) (h : Oper.wp P o a w K Q) : Oper.wpIn Fence.wide n P o a w K Q := by
  have h2 := operIn_of (l := 0) (n := n) (noDefer_spec hd) h
  refine ⟨fun _ _ => trivial, ?_⟩
  have h3 := h2.2
  rw [Oper.semAt_eq _ _ _ (noDefer_spec hd)] at h3 ⊢
  revert h3
  generalize (execOp a.eval o).run P w = r
  intro h3
  cases r with
  | ok v w' => cases v <;> exact h3
  | halt x w' => cases x <;> exact h3

theorem ones_of {W : World} {g : Nat} {cs : Array Value} {vA : Value} {n : NetS} {ok : Nat → Prop} (hb : W.heap[g]? = some (.cells cs 56 (0, 0))) (hsz : cs.size = 259) (h0 : cs[0]? = some vA) (h1 : cs[1]? = some (.int .i64 n.most)) (h2 : cs[2]? = some (.int .i64 n.nodes)) (hc : ∀ i, i < 256 → cs[3 + i]? = some (.bool (n.cut i))) (hN : Kd.N k33 33 W 0 ok vA n.all) : cs.all (·.oneCell') = true := by
  rw [Array.all_eq_true]
  intro i hi
  obtain ⟨A, c, e⟩ := Kd.N_slice hN
  match i, hi with
  | 0, hi => rw [Array.getElem?_eq_getElem hi] at h0; injection h0 with h0; rw [h0, e]; rfl
  | 1, hi => rw [Array.getElem?_eq_getElem hi] at h1; injection h1 with h1; rw [h1]; rfl
  | 2, hi => rw [Array.getElem?_eq_getElem hi] at h2; injection h2 with h2; rw [h2]; rfl
  | i + 3, hi =>
    have h3 := hc i (by omega)
    rw [show 3 + i = i + 3 by omega, Array.getElem?_eq_getElem hi] at h3
    injection h3 with h3
    rw [h3]
    rfl
theorem R_own {k : IntKind} {e : Nat} {W : World} {base base' : Nat} {ok : Nat → Prop} {v : Value} {xs : List Int} (h : Kd.R (Kd.int k) e W base ok v xs) (hb : base' ≤ base) : Kd.R (Kd.int k) e W base' (fun j => some j = v.ownBlock) v xs := by
  have h2 := Kd.R_lower h hb
  obtain ⟨h0, inner, ho, hr⟩ := h2
  exact ⟨fun j hj => hj.symm, inner, ho, hr.imp_ (fun p c hp => hp)⟩
/-- What the copy has behind some rounds. -/
def CpI (w WB : World) (cs : Array Value) (n : NetS) (pre : List (Fin n.all.length)) (W : World) : Prop :=
  ∃ v, W.heap[w.heap.size]? = some (.cells (cs.setIfInBounds 0 v) 56 (0, 0)) ∧ RowC W WB.heap.size v (pre.map fun x => n.all.getD x.val z33) ∧ Fr (fun k => k = w.heap.size) WB W
theorem CpI.own (w WB : World) (cs : Array Value) (n : NetS) : OwnFrom WB.heap.size (CpI w WB cs n) := fun s X Y row hs hg hr => by
  obtain ⟨v, h1, h2, h3⟩ := hs
  refine ⟨v, blk_own (β := Unit) _ _ _ _ () X Y row h1 hg (fun r e => (hr r e).2), h2.step (fun k c T fr hB hk => hg.block k (blk_lt hk) (fun e => ?_)), h3.trans (S2 := fun k => row = some k) ⟨hg.os, hg.tape, hg.output, hg.size, fun k hk hn => hg.block k hk (fun e => hn e.symm)⟩ (fun k e hk => ?_)⟩
  · obtain ⟨_, o, ho, hc⟩ := hr k e.symm
    rw [hk] at ho
    cases ho
    cases hc
  · have := (hr k e).1
    omega
set_option maxHeartbeats 8000000 in
set_option maxRecDepth 100000 in
theorem copy_c (n : NetS) (g : Nat) (fp : Nat → Prop) (w : World) (h : IsNet w g fp n) (hm : n.nodes ≠ 0) (hl : n.all.length < 1000000) (hlen : ∀ m, m ∈ n.all → m.f2.length < 1000000) :
    Calls Try.prog 21 #[.pointer (some ⟨g, 0, none⟩)] w fun e w' => ∃ g', e = .returned (.pointer (some ⟨g', 0, none⟩)) ∧ ∃ fp' : Nat → Prop, IsNet w' g' fp' n ∧ (∀ k, fp' k → w.heap.size ≤ k) ∧ Below w.heap.size w w' := by
  refine (callsIn_wide (n := 8)).1 ?_
  have h1 : 1 ≤ 8 := by omega
  have f35 : Fence.wide.fn 35 := trivial
  have f47 : Fence.wide.fn 47 := trivial
  have hn := nodes_c n g fp w h
  have hne : (n.nodes == 0) = false := by simpa using hm
  have HI := Aside0.mk h
  obtain ⟨A, b, cap, hcg0, hA, hrow0⟩ := h.rowAt w.heap.size (fun _ => False) (Nat.le_refl _) (fun _ _ h => h)
  have HROW := Aside0.mk hrow0
  have HA := Aside0.mk hA
  have HCG := Aside0.mk hcg0
  clear hrow0 hA hcg0
  obtain ⟨cs, vA, hb, hsz, hc0, hc1, hc2, hcc, hg, hlt, hN⟩ := h
  obtain ⟨Z, hz, hzs, hzc⟩ := zero56
  clear hzc
  have hi56 : (Try.prog.info? 56).map (·.size) = some 259 := by kernel_rfl
  have HBk := Aside0.mk hb
  have HIC := Aside0.mk (show (Try.prog.info? 56).map (·.size) = some cs.size by rw [hi56, hsz])
  have HZC := Aside0.mk (show Z.size = cs.size by rw [hzs, hsz])
  have h1c : cs.all (·.oneCell') = true := ones_of hb hsz hc0 hc1 hc2 hcc hN
  have hst : (storeCells ⟨w.heap.size, 0, none⟩ cs.toList).run Try.prog (w.alloc (.cells Z 56)) = .ok () (w.alloc (.cells cs 56)) := by
    have h1 := run_storeVar_row (P := Try.prog) (w.alloc (.cells Z 56)) w.heap.size 56 56 Z cs (heap_alloc_new w _) HIC.out HZC.out h1c
    rw [World.setRow_alloc_new] at h1
    have hs : cs.size = 259 := hsz
    obtain ⟨i, hq⟩ := info_of_underlying Try.underlying56
    have hi : i.size = cs.size := by have := HIC.out; rw [hq] at this; simpa using this
    simpa [storeVar, sizeOf, typeInfo, hq, Value.cells, hi] using h1
  clear h1c hi56
  refine callsIn_of_wp_marks Try.func21 rfl trivial ?_ rfl
  simp only [Try.ntmps21, List.size_toArray, List.length_cons, List.length_nil, Nat.reduceAdd, Nat.reduceSub, Array.replicate_succ, Array.replicate_zero, List.push_toArray, List.append_toArray, List.nil_append, List.cons_append]
  have HCS := Aside0.mk (And.intro hsz (And.intro hc1 (And.intro hc2 hcc)))
  have HGL := Aside0.mk (hlt g hg)
  clear hb hc0 hc1 hc2 hcc hlt hN
  gi_wp2_with (first
    | (refine ⟨trivial, ?_⟩; gi_at_call 25; refine (callsIn_wide.2 hn).mono ?_; rintro e w' ⟨rfl, rfl⟩)
    | (gi_at_call 25; refine (callsIn_wide.2 hn).mono ?_; rintro e w' ⟨rfl, rfl⟩)
    | (refine wideOp_of (by rfl) (wp_load_row 56 (.tmp 10) rfl g rfl 56 cs (0, 0) _ HBk.out Try.underlying56 rfl HIC.out ?_))
    | (gi_at_call 35; refine (from_in Fence.wide _ f35 rfl _ _ _).mono ?_; rintro e w' ⟨rfl, rfl⟩))
  clear hst
  have b0 := heap_alloc_new w (.cells (cs.setIfInBounds 0 (.slice none 0 0)) 56)
  have bb := Boxed.new (w.alloc (.cells (cs.setIfInBounds 0 (.slice none 0 0)) 56)) 76 (.pointer (some ⟨g, 0, none⟩))
  have bi := Boxed.new ((w.alloc (.cells (cs.setIfInBounds 0 (.slice none 0 0)) 56)).alloc (.cells #[.pointer (some ⟨g, 0, none⟩)] 76)) 3 (.int .i64 0)
  simp only [World.size_alloc] at bb bi
  replace bb := bb.alloc (.cells #[.int .i64 0] 3)
  replace b0 := blk_alloc (blk_alloc b0 (.cells #[.pointer (some ⟨g, 0, none⟩)] 76)) (.cells #[.int .i64 0] 3)
  have hB0 : Below w.heap.size w (((w.alloc (.cells (cs.setIfInBounds 0 (.slice none 0 0)) 56)).alloc (.cells #[.pointer (some ⟨g, 0, none⟩)] 76)).alloc (.cells #[.int .i64 0] 3)) := ((below_alloc (Below.refl _ w) _).alloc (by simp) _).alloc (by simp; omega) _
  have hsz0 : (((w.alloc (.cells (cs.setIfInBounds 0 (.slice none 0 0)) 56)).alloc (.cells #[.pointer (some ⟨g, 0, none⟩)] 76)).alloc (.cells #[.int .i64 0] 3)).heap.size = w.heap.size + 3 := by simp only [World.size_alloc]
  generalize hWB : (((w.alloc (.cells (cs.setIfInBounds 0 (.slice none 0 0)) 56)).alloc (.cells #[.pointer (some ⟨g, 0, none⟩)] 76)).alloc (.cells #[.int .i64 0] 3)) = WB at *
  clear hWB
  have hgl := HGL.out
  have hcgB : WB.cell? ⟨g, 0, none⟩ = some (.slice A n.all.length cap) := (hB0.cell (p := ⟨g, 0, none⟩) hgl).trans HCG.out
  have hrowB : 0 < n.all.length → RowAt WB WB.heap.size (fun k => k = w.heap.size) b n.all := fun hp => by
    have hr := HROW.out hp
    refine ⟨by have := hr.1; omega, fun e => by have := hr.1; omega, fun j hj => ?_⟩
    have hraw : rawAt WB b n.all j = rawAt w b n.all j := by
      unfold rawAt
      rw [hB0.cell (p := ⟨b, j * 3 + 2, none⟩) hr.1]
    rw [hraw, hB0.cell (p := ⟨b, j * 3, none⟩) hr.1, hB0.cell (p := ⟨b, j * 3 + 1, none⟩) hr.1, hB0.cell (p := ⟨b, j * 3 + 2, none⟩) hr.1]
    exact hr.2.2 j hj
  have HRB0 := Aside0.mk hrowB
  have HIB := Aside0.mk (HI.out.fr (Fr.of_below hB0 (fun _ => False)) (fun _ _ h => h))
  have HFPL := Aside0.mk HI.out.lts
  have HSZ := Aside0.mk hsz0
  have HBB := Aside0.mk hB0
  have hst := fromF_stops Fence.wide 7 f47 rfl (by omega) (w.heap.size + 1 + 1) (w.heap.size + 1) g b cap WB.heap.size (fun k => k = w.heap.size) WB n.all hl ⟨by omega, by omega⟩ ⟨by omega, by omega⟩ ⟨by omega, by omega⟩ hrowB (Nat.le_refl _) bi.cell bb.cell A HA.out hcgB
  have HL := Aside0.mk hl
  have HLN := Aside0.mk hlen
  clear hrowB hB0 hcgB hlen
  refine wpIn_rangeFunc_ownH rfl h1 (gf := 47) (lb := #[.pointer (some ⟨w.heap.size + 1 + 1, 0, none⟩), .pointer (some ⟨w.heap.size + 1, 0, none⟩)]) rfl f47 (enters_of Try.func47 (by kernel_rfl) rfl)
    hst Kq.t (Kq.b (Nat.le_refl _)) (Below.refl _ _) (fun _ => rfl)
    (CpI w WB cs n) (fun _ _ _ => False) (CpI.own w WB cs n) (fun c s X Y row hs hg hr => hs)
    ⟨_, b0, RowC.nil _ _, Fr.refl _ _⟩
    (fun x a' W => ∃ Bx, WB.heap.size ≤ Bx ∧ W.heap[Bx]? = some (.cells #[.int .i64 (rawAt WB b n.all x.val).f, .int .i64 (rawAt WB b n.all x.val).t, .slice (rawAt WB b n.all x.val).A (rawAt WB b n.all x.val).n (rawAt WB b n.all x.val).c] 33 (0, 0)) ∧ a' = { tmps := #[.pointer (some ⟨g, 0, none⟩), undef, .pointer none, .pointer (some ⟨w.heap.size, 0, none⟩), undef, .pointer (some ⟨Bx, 0, none⟩), .pointer (some ⟨g, 0, none⟩), .int .i64 n.nodes, .bool false, .pointer (some ⟨g, 0, none⟩), .pointer (some ⟨g, 0, none⟩), .agg cs, .pointer (some ⟨w.heap.size, 0, none⟩), .pointer (some ⟨w.heap.size, 0, none⟩), .pointer (some ⟨g, 0, none⟩), .pointer (some ⟨g, 0, none⟩), .pointer (some ⟨g, 0, none⟩), .func (.func 47) #[] #[.pointer (some ⟨w.heap.size + 1 + 1, 0, none⟩), .pointer (some ⟨w.heap.size + 1, 0, none⟩)], .int .i64 (x.val : Int), rawV (rawAt WB b n.all x.val), undef, undef, undef, undef, undef, undef, undef, undef, undef], defers := [] })
    ?hAx ?assign ?body ?done ?stop
  case hAx =>
    intro x a'
    exact Own.from (fun s X Y row hs hg hr => by obtain ⟨Bx, h1, h2, h3⟩ := hs; exact ⟨Bx, h1, blk_own (β := Unit) _ _ _ _ () X Y row h2 hg hr, h3⟩) _
  case assign =>
    rintro l pre x W K ⟨v, i1, i2, i3⟩ hK
    dsimp only [rawV]
    gi_wp2
    refine hK _ _ ((KeepsOthers.alloc _ _).from _) (Kq.below ((Below.refl WB.heap.size W).alloc i3.size _)) ⟨v, blk_alloc i1 _, i2.step (fun k c T fr _ hk => Below.heap_alloc W _ k (blk_lt hk)), i3.alloc _⟩ ⟨W.heap.size, i3.size, heap_alloc_new _ _, rfl⟩
  case body =>
    rintro l0 pre x a' W hl2 ⟨r, hr⟩ ⟨v0, hBK, hRC, hF⟩ ⟨Bx, hBx, bX, rfl⟩ hpl
    obtain ⟨j, hj⟩ := x
    obtain ⟨b', cq, A2, c2, e0, e1, e2, e3, hc2, hFb, _⟩ := HIB.out.elem j hj
    have hbb : b' = b := by
      have h3 := HA.out (by omega)
      have h4 := (HBB.out.cell (p := ⟨g, 0, none⟩) HGL.out).trans HCG.out
      rw [e0, h3] at h4
      injection h4 with h4
      injection h4 with h4
      injection h4 with h4
      injection h4
    subst hbb
    have hraw : rawAt WB b' n.all j = ⟨n.all[j].f0, n.all[j].f1, A2, n.all[j].f2.length, c2⟩ := by
      unfold rawAt
      rw [e3]
      unfold rawCell
      have hgd : n.all.getD j z33 = n.all[j] := by simp [hj]
      rw [hgd]
    dsimp only at bX ⊢
    rw [hraw] at bX ⊢
    have HGD := Aside0.mk (show n.all.getD j z33 = n.all[j] by simp [hj])
    have HLL := Aside0.mk (show n.all[j].f2.length < 140737488355328 by have := HLN.out _ (List.getElem_mem hj); omega)
    have hFW := Kd.F_step hFb (fun k hk hlt => hF.block k hlt (fun e => by have := HFPL.out k hk; omega))
    generalize n.all[j] = m at *
    obtain ⟨f, t, l⟩ := m
    dsimp only at bX hc2 HLL hFW ⊢
    have HC2 := Aside0.mk (Kd.F_now (Kd.F_drew hFW))
    have HZ0 := Aside0.mk (show W.drew.cell? ⟨w.heap.size, 0, none⟩ = some v0 ∧ W.drew.cell? ⟨Bx, 0, none⟩ = some (.int .i64 f) ∧ W.drew.cell? ⟨Bx, 1, none⟩ = some (.int .i64 t) ∧ W.drew.cell? ⟨Bx, 2, none⟩ = some (.slice A2 l.length c2) from ⟨(cells_at (blk_drew hBK) (by rw [Array.getElem?_setIfInBounds_self_of_lt (by have := HCS.out.1; omega)])).1, (cells_at (blk_drew bX) (j := 0) rfl).1, (cells_at (blk_drew bX) (j := 1) rfl).1, (cells_at (blk_drew bX) (j := 2) rfl).1⟩)
    have HRC := Aside0.mk (show RowC W.drew WB.heap.size v0 (pre.map fun x => n.all.getD x.val z33) from hRC.step (fun k c T fr _ hk => rfl))
    have HBK := Aside0.mk (blk_drew hBK)
    have HF1 := Aside0.mk hF.drew
    have HC0 := Aside0.mk (show ∀ v : Value, (cs.setIfInBounds 0 v)[0]? = some v from fun v => by rw [Array.getElem?_setIfInBounds_self_of_lt (by have := HCS.out.1; omega)])
    have HLX := Aside0.mk (show (pre.map fun x => n.all.getD x.val z33).length ≤ 1000000 by rw [List.length_map]; have := HL.out; omega)
    have HRB := Aside0.mk (show ∀ k, v0.ownBlock = some k → WB.heap.size ≤ k from by obtain ⟨rows, r1, r2, _⟩ := hRC; exact Kd.R_base r2)
    have HRL := Aside0.mk (show ∀ k, v0.ownBlock = some k → k < W.drew.heap.size from by obtain ⟨rows, r1, r2, _⟩ := hRC; exact Kd.R_lt r2)
    have HRT := Aside0.mk (show ∀ k, v0.ownBlock = some k → ∃ c, W.drew.heap[k]? = some (.cells c 33 (0, 0)) from by obtain ⟨rows, r1, r2, _⟩ := hRC; exact Kd.R_typed r2)
    have HKF := Aside0.mk ((KeepsOthers.drew W).from WB.heap.size)
    have HKQ := Aside0.mk (Kq.below (S := fun k => k = w.heap.size) (below_drew (Below.refl WB.heap.size W)))
    clear e0 e1 e2 e3 hFb hFW hRC hBK hF bX hraw hst
    gi_wp2_with fail
    refine startIn_ (m := 10) (S := fun w' => w'.cell? ⟨w.heap.size, 0, none⟩ = some v0 ∧ w'.cell? ⟨Bx, 0, none⟩ = some (.int .i64 f) ∧ w'.cell? ⟨Bx, 1, none⟩ = some (.int .i64 t) ∧ w'.cell? ⟨Bx, 2, none⟩ = some (.slice A2 l.length c2)) (ds := [6, 9]) #[false, false, false, false, false, false, false, false, false, false] (by kernel_rfl) rfl rfl HZ0.out (by kernel_rfl) (fun hHeld => ?_)
    refine with_tabW cpy.tab7 cpy.bits7 (fun HT_ HW_ => ?_)
    have HZ := Aside0.mk hHeld
    clear HZ0
    generalize W.drew = W1 at *
    -- 0: Op.fieldAddr
    refine pure_ (i := 0) (N := some 20) (v := ?_) (a' := ?_) #[true, false, false, false, false, false, false, false, false, false] rfl rfl (any_of HT_.out (by kernel_rfl)) (fun _ _ _ h => nomatch h.1) (Or.inl ⟨by rfl, ?_⟩) ?_ ?_
    rotate_left; (intro w'; go_simp; with_reducible rfl); rotate_left; (simp only [Act.put, List.setIfInBounds_toArray, List.set_cons_zero, List.set_cons_succ, i64_w, i32_w]; rfl)
    -- 1: Op.fieldAddr
    refine pure_ (i := 1) (N := some 21) (v := ?_) (a' := ?_) #[true, true, false, false, false, false, false, false, false, false] rfl rfl (any_of HT_.out (by kernel_rfl)) (fun _ _ _ h => nomatch h.1) (Or.inl ⟨by rfl, ?_⟩) ?_ ?_
    rotate_left; (intro w'; go_simp; with_reducible rfl); rotate_left; (simp only [Act.put, List.setIfInBounds_toArray, List.set_cons_zero, List.set_cons_succ, i64_w, i32_w]; rfl)
    -- 2: Op.load
    refine take_ (i := 2) (N := some 22) (v := ?_) (a' := ?_) #[true, true, true, false, false, false, false, false, false, false] rfl rfl (take_ofW HT_.out HW_.out (by kernel_rfl)) (fun _ _ _ h => nomatch h.1) (Or.inl ⟨by rfl, ?_⟩) hHeld ?_ ?_
    rotate_left; (rintro w' ⟨s0, s1, s2, s3⟩; go_simp; with_reducible rfl); rotate_left; (simp only [Act.put, List.setIfInBounds_toArray, List.set_cons_zero, List.set_cons_succ, i64_w, i32_w]; rfl)
    -- 3: Op.load
    refine take_ (i := 3) (N := some 23) (v := ?_) (a' := ?_) #[true, true, true, true, false, false, false, false, false, false] rfl rfl (take_ofW HT_.out HW_.out (by kernel_rfl)) (fun _ _ _ h => nomatch h.1) (Or.inl ⟨by rfl, ?_⟩) hHeld ?_ ?_
    rotate_left; (rintro w' ⟨s0, s1, s2, s3⟩; go_simp; with_reducible rfl); rotate_left; (simp only [Act.put, List.setIfInBounds_toArray, List.set_cons_zero, List.set_cons_succ, i64_w, i32_w]; rfl)
    -- 4: Op.call
    refine one_ (i := 4) (N := some 24) #[true, true, true, true, true, false, false, false, false, false] rfl rfl (one_of HT_.out (by kernel_rfl)) (by decide) (fun K hK => ?_)
    refine goes_ Try.func33 (by kernel_rfl) rfl #[.agg #[.int .i64 f, .int .i64 t, .slice A2 l.length c2]] (by rfl) rfl rfl (by (try simp only [List.map_toArray, List.map_cons, List.map_nil]); first | done | rfl) ?_
    refine (net_own.calls f t A2 c2 l f t l W1 HC2.out hc2 (by simp only [net_own.f, slices_Clone_byte_byte.f]; rw [if_pos HLL.out]; rfl)).mono ?_
    rintro e w2 ⟨vb, rfl, hR, hb2⟩
    have HR2 := Aside0.mk hR
    have HB2 := Aside0.mk hb2
    have hz := HZ.out
    refine ⟨_, rfl, ?_⟩
    refine hK.out _ _ ⟨pw_cell_below hb2 hz.1, pw_cell_below hb2 hz.2.1, pw_cell_below hb2 hz.2.2.1, pw_cell_below hb2 hz.2.2.2⟩ (fun hHeld => ?_)
    clear hR hb2 hz
    clear hK K
    refine norm_ (a' := ?_) ?_ ?_
    rotate_left; (show Act.put _ (some 24) _ = _; simp only [Act.put, List.setIfInBounds_toArray, List.set_cons_zero, List.set_cons_succ, i64_w, i32_w]; rfl)
    -- 5: Op.buildSlice
    refine one_ (i := 5) (N := some 25) #[true, true, true, true, true, true, false, false, false, false] rfl rfl (one_of HT_.out (by kernel_rfl)) (by decide) (fun K hK => ?_)
    refine value_ (w1 := w2.alloc (.cells #[.int .i64 f, .int .i64 t, vb] 33)) (v := .slice (some ⟨w2.heap.size, 0, none⟩) 1 1) (by rfl) rfl ?_ ?_
    · go_simp
    have hz := HZ.out
    have hb3 := below_alloc HB2.out (.cells #[.int .i64 f, .int .i64 t, vb] 33)
    refine hK.out _ _ ⟨pw_cell_below hb3 hz.1, pw_cell_below hb3 hz.2.1, pw_cell_below hb3 hz.2.2.1, pw_cell_below hb3 hz.2.2.2⟩ (fun hHeld => ?_)
    clear hz hb3
    clear hK K
    refine norm_ (a' := ?_) ?_ ?_
    rotate_left; (show Act.put _ (some 25) _ = _; simp only [Act.put, List.setIfInBounds_toArray, List.set_cons_zero, List.set_cons_succ, i64_w, i32_w]; rfl)
    -- 6: Op.call
    refine last_ (i := 6) (N := some 26) #[true, true, true, true, true, true, true, false, false, false] rfl rfl (one_of HT_.out (by kernel_rfl)) (by decide) (fun K hK => ?_)
    refine RowC.app_step (x := ⟨f, t, l⟩) (w0 := w2) (B := WB.heap.size) (HRC.out.step (fun k cs T fr _ hk => HB2.out.block k (blk_lt hk))) (by rfl) (.tmp 22) (.tmp 25) rfl rfl rfl rfl (R_own HR2.out (Nat.le_trans HF1.out.size (Nat.le_refl _))) (fun k hk e => by have h1 := Kd.R_base HR2.out k hk; have h2 := HRL.out k e; omega) (Below.refl _ _ |>.mono (Nat.le_trans HF1.out.size HB2.out.size)) (Nat.le_trans HF1.out.size HB2.out.size) HLX.out ?_
    intro A1 c1 w3 hrc hb3 hg3
    have HRC3 := Aside0.mk hrc
    have HG3 := Aside0.mk hg3
    have HB3 := Aside0.mk hb3
    have HBK3 := Aside0.mk ((hg3.block w.heap.size (Nat.lt_of_lt_of_le (blk_lt HBK.out) HB2.out.size) (fun e => by have := HRB.out _ e.symm; have := HSZ.out; omega)).trans (blk_below HBK.out HB2.out))
    clear hrc hg3 hb3 hHeld
    refine hK.out _ _ ?_
    clear hK K
    refine norm_ (a' := ?_) ?_ ?_
    rotate_left; (show Act.put _ (some 26) _ = _; simp only [Act.put, List.setIfInBounds_toArray, List.set_cons_zero, List.set_cons_succ, i64_w, i32_w]; rfl)
    -- 7: Op.fieldAddr
    refine pure_ (i := 7) (N := some 27) (v := ?_) (a' := ?_) #[true, true, true, true, true, true, true, true, false, false] rfl rfl (any_of HT_.out (by kernel_rfl)) (fun _ _ _ h => nomatch h.1) (Or.inl ⟨by rfl, ?_⟩) ?_ ?_
    rotate_left; (intro w'; go_simp; with_reducible rfl); rotate_left; (simp only [Act.put, List.setIfInBounds_toArray, List.set_cons_zero, List.set_cons_succ, i64_w, i32_w]; rfl)
    -- 8: Op.fieldAddr
    refine pure_ (i := 8) (N := some 28) (v := ?_) (a' := ?_) #[true, true, true, true, true, true, true, true, true, false] rfl rfl (any_of HT_.out (by kernel_rfl)) (fun _ _ _ h => nomatch h.1) (Or.inl ⟨by rfl, ?_⟩) ?_ ?_
    rotate_left; (intro w'; go_simp; with_reducible rfl); rotate_left; (simp only [Act.put, List.setIfInBounds_toArray, List.set_cons_zero, List.set_cons_succ, i64_w, i32_w]; rfl)
    -- 9: Op.store
    refine last_ (i := 9) (N := none) #[true, true, true, true, true, true, true, true, true, true] rfl rfl (one_of HT_.out (by kernel_rfl)) (by decide) (fun K hK => ?_)
    have hc3 := (cells_at HBK3.out (HC0.out v0)).1
    have hf3 := (cells_at HBK3.out (HC0.out v0)).2
    refine skip_ (w1 := ?_) (by rfl) rfl ?_ ?_
    rotate_left
    · go_simp
      rfl
    clear hc3 hf3
    refine hK.out _ _ ?_
    clear hK K
    refine done_ (done_of HT_.out (by kernel_rfl)) ?_
    have hrc := HRC3.out
    have hln : ((pre.map fun x => n.all.getD x.val z33) ++ [(⟨f, t, l⟩ : S33)]).length = pre.length + 1 := by simp
    rw [hln] at hrc
    have hne : ∀ k, v0.ownBlock = some k → k ≠ w.heap.size := fun k e => by have := HRB.out k e; have := HSZ.out; omega
    refine ⟨rfl, ⟨((HKF.out.trans ⟨HB2.out.size, fun k o _ hk _ => (HB2.out.block k (blk_lt hk)).trans hk⟩).trans ((KeepsOthers.of_grownBy HG3.out (fun k o e hk => by
        obtain ⟨c, hc⟩ := HRT.out k e
        rw [HB2.out.block k (blk_lt hc), hc] at hk
        cases hk
        rfl)).from _)).trans ((KeepsOthers.setCell _ _ _).from _), ?_, ?_⟩⟩
    · intro k hk hs
      have h1 := HKQ.out k hk hs
      have h2 := HB2.out.block k (Nat.lt_of_lt_of_le hk HF1.out.size)
      have h3 := HG3.out.block k (Nat.lt_of_lt_of_le hk (Nat.le_trans HF1.out.size HB2.out.size)) (fun e => by have := HRB.out k e.symm; omega)
      exact (((Below.heap_setCell _ ⟨w.heap.size, 0, none⟩ _ k hs).trans h3).trans h2).trans h1
    · refine ⟨.slice A1 (pre.length + 1) c1, ?_, ?_, ?_⟩
      · have := blk_set HBK3.out 0 (.slice A1 (pre.length + 1) c1)
        rw [this]
        simp
      · rw [List.map_append, List.map_cons, List.map_nil]
        dsimp only
        rw [HGD.out]
        exact hrc.step (fun k c T fr hB hk => Below.heap_setCell _ _ _ k (by have := HSZ.out; show k ≠ w.heap.size; omega))
      · exact ((HF1.out.trans (Fr.of_below HB2.out (fun _ => False)) (fun _ h _ => h.elim)).grown HG3.out (HB3.out.mono (Nat.zero_le _)) (fun k e hk => by have := HRB.out k e; omega)).setCell (fun _ => rfl) _
  case done =>
    rintro D ys W hD rfl ⟨v, i1, i2, i3⟩ hK
    clear hst
    have HI1 := Aside0.mk i1
    have HI2 := Aside0.mk i2
    have HI3 := Aside0.mk i3
    clear i1 i2 i3
    gi_wp2
    refine ⟨by simp, .inl ⟨_, _, rfl, run_takeDeferred hK, ?_⟩⟩
    refine ⟨.pointer (some ⟨w.heap.size, 0, none⟩), by simp [results, Try.results21, go_sem], ?_⟩
    have hg := grownBy_putObj' W D (.deferred none)
    have hmap : (List.finRange n.all.length).map (fun x => n.all.getD x.val z33) = n.all := by
      apply List.ext_getElem
      · simp
      · intro i h1 h2
        simp
    have h2 := HI2.out
    rw [hmap] at h2
    have h3 := h2.step (W' := W.putObj D (.deferred none)) (fun k c T fr hB hk => hg.block k (blk_lt hk) (fun e => by injection e with e; subst e; rw [hK] at hk; cases hk))
    have hcs := HCS.out
    have hsz := HSZ.out
    have hcb : (W.putObj D (.deferred none)).heap[w.heap.size]? = _ := (hg.block w.heap.size (blk_lt HI1.out) (fun e => by injection e with e; omega)).trans HI1.out
    refine ⟨w.heap.size, rfl, fun k => k = w.heap.size ∨ (WB.heap.size ≤ k ∧ k < (W.putObj D (.deferred none)).heap.size), ⟨_, v, hcb, by simpa using hcs.1, by rw [Array.getElem?_setIfInBounds_self_of_lt (by omega)], by rw [Array.getElem?_setIfInBounds_ne (by omega)]; exact hcs.2.1, by rw [Array.getElem?_setIfInBounds_ne (by omega)]; exact hcs.2.2.1, fun i hi => by rw [Array.getElem?_setIfInBounds_ne (by omega)]; exact hcs.2.2.2 i hi, .inl rfl, fun k hk => ?_, Kd.N_lower (Kd.N_mono (Kd.N_bound h3.N) (fun k hk => ⟨.inr ⟨hk.1, hk.2⟩, by have := hk.1; omega⟩)) (Nat.zero_le _)⟩, fun k hk => ?_, ?_⟩
    · rcases hk with rfl | h
      · exact blk_lt hcb
      · exact h.2
    · rcases hk with rfl | h
      · exact Nat.le_refl _
      · have := h.1; omega
    · exact (HBB.out.trans (HI3.out.below HBB.out.size (fun k e => by omega))).trans (belowK_b (w := w) (Nat.le_refl _) _ D _ _ (by omega) hK rfl rfl)
  case stop =>
    rintro D c pre W hD _ h
    exact h.elim
end Go.Proofs.Ytnaefndclalepaa.Net
