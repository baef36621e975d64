/- Find. -/
import Derived.Test.YtnaefndclalepaaIter
namespace Go.Proofs.Ytnaefndclalepaa.Net
set_option linter.unusedVariables false
set_option linter.unusedSimpArgs false
open Go.RowKit Go.Shelf Go.Proofs.YtnaefndclalepaaW.PrintWords Go.Proofs.YtnaefndclalepaaW.PrintLast Go.Proofs.YtnaefndclalepaaW.PrintMore Go.Proofs.Ytnaefndclalepaa.XN
attribute [local go_sem] Oper.semAt_some
/-- Is this one tt be found? -/
def findP (n : NetS) (tt : Int) (f t : Int) : Bool := t == tt && openB n f tt
def findO (n : NetS) (tt i : Int) : Option Nat := ((List.range (n.all.length - i.toNat)).find? fun j => findP n tt (n.all.getD (i.toNat + j) z33).f0 (n.all.getD (i.toNat + j) z33).f1).map (i.toNat + ·)
def findI (n : NetS) (tt i : Int) : Int := match findO n tt i with | some k => k | none => 0
def findB (n : NetS) (tt i : Int) : Bool := (findO n tt i).isSome
theorem rawAt_f (W : World) (b : Nat) (all : List S33) (j : Nat) : (rawAt W b all j).f = (all.getD j z33).f0 ∧ (rawAt W b all j).t = (all.getD j z33).f1 := by
  unfold rawAt rawCell
  split <;> exact ⟨rfl, rfl⟩
theorem IsNet.rowAt {W : World} {g : Nat} {fp : Nat → Prop} {n : NetS} (h : IsNet W g fp n) (n1 : Nat) (S : Nat → Prop) (hn : W.heap.size ≤ n1) (hS : ∀ k, fp k → ¬ S k) : ∃ A b cap, W.cell? ⟨g, 0, none⟩ = some (.slice A n.all.length cap) ∧ (0 < n.all.length → A = some ⟨b, 0, none⟩) ∧ (0 < n.all.length → RowAt W n1 S b n.all) := by
  by_cases h0 : 0 < n.all.length
  · obtain ⟨b, c, A2, c2, e0, _⟩ := h.elem 0 h0
    refine ⟨_, b, c, e0, fun _ => rfl, fun _ => ?_⟩
    have hb : fp b := by
      obtain ⟨cs, vA, hb, hsz, g0, h1, h2, hc, hg, hlt, hN⟩ := h
      have e : vA = .slice (some ⟨b, 0, none⟩) n.all.length c := by
        have := (cells_at hb g0).1
        rw [this] at e0
        injection e0
      rw [e] at hN
      exact (hN.1 b rfl).1
    refine ⟨Nat.lt_of_lt_of_le (h.lts b hb) hn, hS b hb, fun j hj => ?_⟩
    obtain ⟨b', c', A2', c2', e0', e1, e2, e3, _⟩ := h.elem j hj
    rw [e0] at e0'
    injection e0' with e0'
    injection e0' with e0' _ _
    injection e0' with e0'
    injection e0' with e0' _ _
    subst e0'
    have hr := rawAt_f W b n.all j
    have hg : n.all.getD j z33 = n.all[j] := by simp [hj]
    rw [hr.1, hr.2, hg]
    refine ⟨e1, e2, ?_⟩
    rw [e3]
    unfold rawAt
    rw [e3]
    rfl
  · obtain ⟨A, c, e0, _⟩ := h.open_
    exact ⟨A, 0, c, e0, fun h => absurd h h0, fun h => absurd h h0⟩
theorem results_bb {fn : Func} {p u : Tmp} (h : fn.results = #[.cell p 3, .cell u 4]) (tmps : Array Value) (w : World) (b c : Nat) (x y : Value) (hp : tmps.getD p undef = .pointer (some ⟨b, 0, none⟩)) (hu : tmps.getD u undef = .pointer (some ⟨c, 0, none⟩)) (h1 : w.cell? ⟨b, 0, none⟩ = some x) (h2 : w.cell? ⟨c, 0, none⟩ = some y) :
    (results fn tmps).run Try.prog w = .ok (.tuple #[x, y]) w := by
  have hp' : tmps[p]?.getD undef = .pointer (some ⟨b, 0, none⟩) := by simpa using hp
  have hu' : tmps[u]?.getD undef = .pointer (some ⟨c, 0, none⟩) := by simpa using hu
  simp [results, h, hp', hu', asAddr, go_sem, h1, h2]
set_option maxHeartbeats 2000000 in
set_option maxRecDepth 100000 in
theorem find_nil (tt i : Int) (w : World) : Calls Try.prog 24 #[.pointer none, .int .i64 tt, .int .i64 i] w fun e w' => e = .returned (.tuple #[.int .i64 0, .bool false]) ∧ Below w.heap.size w w' := by
  have HB := Aside0.mk ((((Below.refl w.heap.size w).alloc (Nat.le_refl _) (.cells #[.pointer none] 25)).alloc (by simp) (.cells #[.int .i64 tt] 3)).alloc (by simp; omega) (.cells #[.int .i64 0] 3) |>.alloc (by simp; omega) (.cells #[.bool false] 4))
  go_enter Try.func24, Try.ntmps24
  go_wp2
  have b6 := Boxed.new ((w.alloc (.cells #[.pointer none] 25)).alloc (.cells #[.int .i64 tt] 3)) 3 (.int .i64 0)
  have b7 := Boxed.new (((w.alloc (.cells #[.pointer none] 25)).alloc (.cells #[.int .i64 tt] 3)).alloc (.cells #[.int .i64 0] 3)) 4 (.bool false)
  simp only [World.size_alloc] at b6 b7
  exact bodyPost_ret (results_bb rfl _ _ (w.heap.size + 1 + 1) (w.heap.size + 1 + 1 + 1) (.int .i64 0) (.bool false) rfl rfl (b6.alloc _).cell b7.cell) rfl ⟨rfl, HB.out⟩
theorem blk_own {β : Type} (b : Nat) (cs : Array Value) (T : Nat) (fr : Nat × Nat) : Own (fun (_ : β) W => W.heap[b]? = some (.cells cs T fr)) := fun s X Y row hs hg hr =>
  (hg.block b (Array.getElem?_eq_some_iff.1 hs).1 (fun e => by
    obtain ⟨o, ho, hc⟩ := hr b e.symm
    rw [hs] at ho
    cases ho
    cases hc)).trans hs
def rawP (n : NetS) (tt : Int) (r : Raw) : Bool := findP n tt r.f r.t
set_option maxHeartbeats 4000000 in
set_option maxRecDepth 100000 in
theorem find_c (n : NetS) (g : Nat) (fp : Nat → Prop) (w : World) (h : IsNet w g fp n) (tt i : Int) (hm : n.nodes ≤ 15) (hl : n.all.length < 1000000) (b : Nat) (A : Option Addr) (cap : Nat) (hcg : w.cell? ⟨g, 0, none⟩ = some (.slice A n.all.length cap)) (hA : 0 < n.all.length → A = some ⟨b, 0, none⟩) (hrow : 0 < n.all.length → RowAt w w.heap.size (fun _ => False) b n.all) :
    Calls Try.prog 24 #[.pointer (some ⟨g, 0, none⟩), .int .i64 tt, .int .i64 i] w fun e w' => Below w.heap.size w w' ∧
      ((e = .returned (.tuple #[.int .i64 0, .bool false]) ∧ ∀ x ∈ fromSeq w b n.all i.toNat (n.all.length - i.toNat), rawP n tt x.2 = false) ∨
       ∃ k, k < n.all.length - i.toNat ∧ e = .returned (.tuple #[.int .i64 ((i.toNat + k : Nat) : Int), .bool true]) ∧ rawP n tt (rawAt w b n.all (i.toNat + k)) = true ∧ ∀ x ∈ fromSeq w b n.all i.toNat k, rawP n tt x.2 = false) := by
  refine (callsIn_wide (n := 8)).1 ?_
  have h1 : 1 ≤ 8 := by omega
  have f35 : Fence.wide.fn 35 := trivial
  have f47 : Fence.wide.fn 47 := trivial
  have f26 : Fence.wide.fn 26 := trivial
  have hop := fun W (hW : IsNet W g fp n) f => open_r n _ fp W (.inr ⟨g, rfl, hW⟩) hm f tt
  refine callsIn_of_wp_marks Try.func24 rfl trivial ?_ rfl
  simp only [Try.ntmps24, List.size_toArray, List.length_cons, List.length_nil, Nat.reduceAdd, Nat.reduceSub, Array.replicate_succ, Array.replicate_zero, List.push_toArray, List.append_toArray, List.nil_append, List.cons_append]
  gi_wp2_with (gi_at_call 35; refine (from_in Fence.wide _ f35 rfl _ _ _).mono ?_; rintro e w' ⟨rfl, rfl⟩)
  have b3 := Boxed.new w 25 (.pointer (some ⟨g, 0, none⟩))
  have b4 := Boxed.new (w.alloc (.cells #[.pointer (some ⟨g, 0, none⟩)] 25)) 3 (.int .i64 tt)
  have b6 := Boxed.new ((w.alloc (.cells #[.pointer (some ⟨g, 0, none⟩)] 25)).alloc (.cells #[.int .i64 tt] 3)) 3 (.int .i64 0)
  have b7 := Boxed.new (((w.alloc (.cells #[.pointer (some ⟨g, 0, none⟩)] 25)).alloc (.cells #[.int .i64 tt] 3)).alloc (.cells #[.int .i64 0] 3)) 4 (.bool false)
  have bb := Boxed.new ((((w.alloc (.cells #[.pointer (some ⟨g, 0, none⟩)] 25)).alloc (.cells #[.int .i64 tt] 3)).alloc (.cells #[.int .i64 0] 3)).alloc (.cells #[.bool false] 4)) 76 (.pointer (some ⟨g, 0, none⟩))
  have bi := Boxed.new (((((w.alloc (.cells #[.pointer (some ⟨g, 0, none⟩)] 25)).alloc (.cells #[.int .i64 tt] 3)).alloc (.cells #[.int .i64 0] 3)).alloc (.cells #[.bool false] 4)).alloc (.cells #[.pointer (some ⟨g, 0, none⟩)] 76)) 3 (.int .i64 i)
  simp only [World.size_alloc] at b3 b4 b6 b7 bb bi
  replace b3 := ((((b3.alloc (.cells #[.int .i64 tt] 3)).alloc (.cells #[.int .i64 0] 3)).alloc (.cells #[.bool false] 4)).alloc (.cells #[.pointer (some ⟨g, 0, none⟩)] 76)).alloc (.cells #[.int .i64 i] 3)
  replace b4 := (((b4.alloc (.cells #[.int .i64 0] 3)).alloc (.cells #[.bool false] 4)).alloc (.cells #[.pointer (some ⟨g, 0, none⟩)] 76)).alloc (.cells #[.int .i64 i] 3)
  replace b6 := ((b6.alloc (.cells #[.bool false] 4)).alloc (.cells #[.pointer (some ⟨g, 0, none⟩)] 76)).alloc (.cells #[.int .i64 i] 3)
  replace b7 := (b7.alloc (.cells #[.pointer (some ⟨g, 0, none⟩)] 76)).alloc (.cells #[.int .i64 i] 3)
  replace bb := bb.alloc (.cells #[.int .i64 i] 3)
  have hB0 : Below w.heap.size w ((((((w.alloc (.cells #[.pointer (some ⟨g, 0, none⟩)] 25)).alloc (.cells #[.int .i64 tt] 3)).alloc (.cells #[.int .i64 0] 3)).alloc (.cells #[.bool false] 4)).alloc (.cells #[.pointer (some ⟨g, 0, none⟩)] 76)).alloc (.cells #[.int .i64 i] 3)) :=
    (((((below_alloc (below_alloc (Below.refl _ w) _) _).alloc (by simp; omega) _).alloc (by simp; omega) _).alloc (by simp; omega) _).alloc (by simp; omega) _)
  have hsz : ((((((w.alloc (.cells #[.pointer (some ⟨g, 0, none⟩)] 25)).alloc (.cells #[.int .i64 tt] 3)).alloc (.cells #[.int .i64 0] 3)).alloc (.cells #[.bool false] 4)).alloc (.cells #[.pointer (some ⟨g, 0, none⟩)] 76)).alloc (.cells #[.int .i64 i] 3)).heap.size = w.heap.size + 6 := by simp only [World.size_alloc]
  generalize hWB : ((((((w.alloc (.cells #[.pointer (some ⟨g, 0, none⟩)] 25)).alloc (.cells #[.int .i64 tt] 3)).alloc (.cells #[.int .i64 0] 3)).alloc (.cells #[.bool false] 4)).alloc (.cells #[.pointer (some ⟨g, 0, none⟩)] 76)).alloc (.cells #[.int .i64 i] 3)) = WB at *
  clear hWB
  have hgl := h.lt
  have hcgB : WB.cell? ⟨g, 0, none⟩ = some (.slice A n.all.length cap) := (hB0.cell (p := ⟨g, 0, none⟩) hgl).trans hcg
  have hraw : 0 < n.all.length → ∀ j, rawAt WB b n.all j = rawAt w b n.all j := fun hp j => by
    unfold rawAt
    rw [hB0.cell (p := ⟨b, j * 3 + 2, none⟩) (hrow hp).1]
  have hseq : ∀ k, k ≤ n.all.length - i.toNat → fromSeq WB b n.all i.toNat k = fromSeq w b n.all i.toNat k := fun k hk => by
    unfold fromSeq
    apply List.map_congr_left
    intro j hj
    have := List.mem_range.1 hj
    rw [hraw (by omega)]
  have hrowB : 0 < n.all.length → RowAt WB WB.heap.size (fun _ => False) b n.all := fun hp => by
    have hr := hrow hp
    refine ⟨by have := hr.1; omega, fun h => h, fun j hj => ?_⟩
    rw [hraw hp j, hB0.cell (p := ⟨b, j * 3, none⟩) hr.1, hB0.cell (p := ⟨b, j * 3 + 1, none⟩) hr.1, hB0.cell (p := ⟨b, j * 3 + 2, none⟩) hr.1]
    exact hr.2.2 j hj
  have hIB : IsNet WB g fp n := h.fr (Fr.of_below hB0 (fun _ => False)) (fun _ _ h => h)
  clear hrow h hcg
  have hst := from_stops Fence.wide 7 f47 rfl (by omega) (w.heap.size + 1 + 1 + 1 + 1 + 1) (w.heap.size + 1 + 1 + 1 + 1) g b cap WB.heap.size (fun _ => False) WB n.all i hl ⟨by omega, fun h => h⟩ ⟨by omega, fun h => h⟩ ⟨by omega, fun h => h⟩ hrowB (Nat.le_refl _) bi.cell bb.cell A hA hcgB
  refine wpIn_rangeFunc_ownH rfl h1 (gf := 47) (lb := #[.pointer (some ⟨w.heap.size + 1 + 1 + 1 + 1 + 1, 0, none⟩), .pointer (some ⟨w.heap.size + 1 + 1 + 1 + 1, 0, none⟩)]) rfl f47 (enters_of Try.func47 (by kernel_rfl) rfl)
    hst Kq.t (Kq.b (Nat.le_refl _)) (Below.refl _ _) (fun _ => rfl)
    (fun pre W => (∀ x ∈ pre, rawP n tt x.2 = false) ∧ Below WB.heap.size WB W)
    (fun c pre W => (c = .ret ∧ ∃ ini last, pre = ini ++ [last] ∧ (∀ x ∈ ini, rawP n tt x.2 = false) ∧ rawP n tt last.2 = true ∧ Boxed W (w.heap.size + 1 + 1) 3 (.int .i64 (last.1 : Int)) ∧ Boxed W (w.heap.size + 1 + 1 + 1) 4 (.bool true)) ∧ Below w.heap.size w W)
    (OwnFrom.and (ownFrom_pure _ _) (ownFrom_below (Nat.le_refl _) (Nat.le_refl _)))
    (fun c => OwnFrom.and (Own.from (fun s X Y row hs hg hr => by obtain ⟨hc, ini, last, e1, e2, e3, e4, e5⟩ := hs; exact ⟨hc, ini, last, e1, e2, e3, boxed_own (β := Unit) _ 3 (fun _ => .int .i64 (last.1 : Int)) () X Y row e4 hg hr, boxed_own (β := Unit) _ 4 (fun _ => .bool true) () X Y row e5 hg hr⟩) _) (ownFrom_below (Nat.le_refl _) (by omega)))
    ⟨by simp, Below.refl _ _⟩
    (fun x a' W => ∃ Bx, WB.heap.size ≤ Bx ∧ W.heap[Bx]? = some (.cells #[.int .i64 x.2.f, .int .i64 x.2.t, .slice x.2.A x.2.n x.2.c] 33 (0, 0)) ∧ a' = { tmps := #[.pointer (some ⟨g, 0, none⟩), .int .i64 tt, .int .i64 i, .pointer (some ⟨w.heap.size, 0, none⟩), .pointer (some ⟨w.heap.size + 1, 0, none⟩), undef, .pointer (some ⟨w.heap.size + 1 + 1, 0, none⟩), .pointer (some ⟨w.heap.size + 1 + 1 + 1, 0, none⟩), .int .i64 (x.1 : Int), .pointer (some ⟨Bx, 0, none⟩), .pointer (some ⟨g, 0, none⟩), .bool false, .pointer (some ⟨g, 0, none⟩), .pointer (some ⟨g, 0, none⟩), .pointer (some ⟨g, 0, none⟩), .int .i64 i,
          .func (.func 47) #[] #[.pointer (some ⟨w.heap.size + 1 + 1 + 1 + 1 + 1, 0, none⟩), .pointer (some ⟨w.heap.size + 1 + 1 + 1 + 1, 0, none⟩)], .int .i64 (x.1 : Int), rawV x.2, undef, undef, undef, undef, undef, undef, undef, undef, undef, undef, undef, undef], defers := [] })
    ?hAx ?assign ?body ?done ?stop
  case hAx =>
    intro x a'
    exact Own.from (fun s X Y row hs hg hr => by obtain ⟨Bx, h1, h2, h3⟩ := hs; exact ⟨Bx, h1, blk_own (β := Unit) _ _ _ _ () X Y row h2 hg hr, h3⟩) _
  case assign =>
    rintro l pre x W K hi hK
    dsimp only [rawV]
    gi_wp2
    exact hK _ _ ((KeepsOthers.alloc _ _).from _) (Kq.below ((Below.refl WB.heap.size W).alloc hi.2.size _)) ⟨hi.1, hi.2.alloc hi.2.size _⟩ ⟨W.heap.size, hi.2.size, heap_alloc_new _ _, rfl⟩
  case body =>
    rintro l pre x a' W hl2 ⟨r, hr⟩ ⟨hp, hB⟩ ⟨Bx, hBx, bX, rfl⟩ hlen
    have hd : 1 ≤ 8 - 1 - 1 := by omega
    have y0 := (cells_at bX (j := 0) rfl).1
    have y1 := (cells_at bX (j := 1) rfl).1
    have z3 : W.cell? ⟨w.heap.size, 0, none⟩ = _ := (hB.cell (p := ⟨w.heap.size, 0, none⟩) (by show w.heap.size < _; omega)).trans b3.cell
    have z4 : W.cell? ⟨w.heap.size + 1, 0, none⟩ = _ := (hB.cell (p := ⟨w.heap.size + 1, 0, none⟩) (by show w.heap.size + 1 < _; omega)).trans b4.cell
    have z6 : Boxed W (w.heap.size + 1 + 1) 3 (.int .i64 0) := (hB.block _ (by omega)).trans b6
    have z7 : Boxed W (w.heap.size + 1 + 1 + 1) 4 (.bool false) := (hB.block _ (by omega)).trans b7
    have z6c := z6.cell
    have z6f := z6.frozen
    have z7c := (z7.other (B' := w.heap.size + 1 + 1) (by omega) (.int .i64 (x.1 : Int))).cell
    have z7f := (z7.other (B' := w.heap.size + 1 + 1) (by omega) (.int .i64 (x.1 : Int))).frozen
    have hOP := hop W (hIB.fr (Fr.of_below hB (fun _ => False)) (fun _ _ h => h)) x.2.f
    have hx : rawP n tt x.2 = (x.2.t == tt && openB n x.2.f tt) := rfl
    clear hop hst hseq hraw hrowB hcgB b3 b4 b6 b7 bb bi hA
    generalize openB n x.2.f tt = q at *
    by_cases ht : x.2.t = tt
    · have ht' : (x.2.t == tt) = true := by simpa using ht
      have HOP := Aside0.mk hOP
      clear hOP
      cases q
      · gi_wp2
        refine (CallsIn.inRound l (callsIn_wide.2 HOP.out)).mono ?_
        rintro e w' ⟨rfl, rfl⟩
        gi_wp2
        exact ⟨KeepsFrom.refl _ _, Kq.refl _ _ _, ⟨fun y hy => (List.mem_append.1 hy).elim (hp y) (fun e => by simp at e; subst e; rw [hx]; simp), hB⟩⟩
      · gi_wp2
        refine (CallsIn.inRound l (callsIn_wide.2 HOP.out)).mono ?_
        rintro e w' ⟨rfl, rfl⟩
        gi_wp2
        have b6' := z6.set (.int .i64 (x.1 : Int))
        exact ⟨((KeepsOthers.setCell _ _ _).trans (KeepsOthers.setCell _ _ _)).from _, ⟨rfl, pre, x, rfl, hp, by rw [hx, ht']; rfl, b6'.other (by omega) _, (z7.other (by omega) _).set _⟩, ((hB0.trans (hB.mono hB0.size)).setCell (p := ⟨w.heap.size + 1 + 1, 0, none⟩) (by show w.heap.size ≤ w.heap.size + 1 + 1; omega) _).setCell (p := ⟨w.heap.size + 1 + 1 + 1, 0, none⟩) (by show w.heap.size ≤ w.heap.size + 1 + 1 + 1; omega) _⟩
    · have ht' : (x.2.t == tt) = false := by simpa using ht
      clear hOP
      gi_wp2
      exact ⟨KeepsFrom.refl _ _, Kq.refl _ _ _, ⟨fun y hy => (List.mem_append.1 hy).elim (hp y) (fun e => by simp at e; subst e; rw [hx, ht']; rfl), hB⟩⟩
  case done =>
    rintro D ys W hD rfl ⟨hne, hB⟩ hK
    have z6 : Boxed W (w.heap.size + 1 + 1) 3 (.int .i64 0) := (hB.block _ (by omega)).trans b6
    have z7 : Boxed W (w.heap.size + 1 + 1 + 1) 4 (.bool false) := (hB.block _ (by omega)).trans b7
    have z6c := z6.cell
    have z6f := z6.frozen
    have z7' := z7.other (B' := w.heap.size + 1 + 1) (by omega) (.int .i64 0)
    have z7c := z7'.cell
    have z7f := z7'.frozen
    have hs := hseq _ (Nat.le_refl _)
    rw [hs] at hne
    clear hop hst hseq hraw hrowB hcgB b3 b4 b6 b7 bb bi hA
    gi_wp2
    have hK' := (KeepsOthers.setCell (W.setCell ⟨w.heap.size + 1 + 1, 0, none⟩ (.int .i64 0)) ⟨w.heap.size + 1 + 1 + 1, 0, none⟩ (.bool false)).same D _ ((KeepsOthers.setCell W ⟨w.heap.size + 1 + 1, 0, none⟩ (.int .i64 0)).same D _ hK rfl) rfl
    refine ⟨by simp, .inl ⟨_, _, rfl, run_takeDeferred hK', ?_⟩⟩
    have c6 := ((z6.set (.int .i64 0)).other (B' := w.heap.size + 1 + 1 + 1) (by omega) (.bool false)).kept (grownBy_putObj' _ D (.deferred none)) (by intro e; injection e; omega)
    have c7 := (z7'.set (.bool false)).kept (grownBy_putObj' _ D (.deferred none)) (by intro e; injection e; omega)
    refine ⟨_, results_bb rfl _ _ _ _ _ _ rfl rfl c6.cell c7.cell, ?_, .inl ⟨rfl, hne⟩⟩
    exact (((hB0.trans (hB.mono hB0.size)).setCell (p := ⟨w.heap.size + 1 + 1, 0, none⟩) (by show w.heap.size ≤ w.heap.size + 1 + 1; omega) _).setCell (p := ⟨w.heap.size + 1 + 1 + 1, 0, none⟩) (by show w.heap.size ≤ w.heap.size + 1 + 1 + 1; omega) _).trans (belowK_b (w := w) (Nat.le_refl _) _ D _ _ (by omega) hK' rfl rfl)
  case stop =>
    rintro D c pre W hD ⟨k, hk, rfl⟩ ⟨⟨rfl, ini, last, e1, e2, e3, e4, e5⟩, hB⟩ hK
    rw [hseq k hk] at e1
    obtain ⟨k', rfl⟩ : ∃ k', k = k' + 1 := by
      cases k with
      | zero => simp [fromSeq] at e1
      | succ k' => exact ⟨k', rfl⟩
    rw [fromSeq_succ] at e1
    obtain ⟨e6, e7⟩ := List.append_inj' e1 rfl
    rw [← e6] at e2
    have e8 : last = (i.toNat + k', rawAt w b n.all (i.toNat + k')) := by simpa using e7.symm
    rw [e8] at e3 e4
    clear hop hst hseq hraw hrowB hcgB b3 b4 b6 b7 bb bi hA
    gi_wp2
    refine ⟨by simp, .inl ⟨_, _, rfl, run_takeDeferred hK, ?_⟩⟩
    have c6 := e4.kept (grownBy_putObj' _ D (.deferred none)) (by intro e; injection e; omega)
    have c7 := e5.kept (grownBy_putObj' _ D (.deferred none)) (by intro e; injection e; omega)
    exact ⟨_, results_bb rfl _ _ _ _ _ _ rfl rfl c6.cell c7.cell, hB.trans (belowK_b (w := w) (Nat.le_refl _) _ D _ _ (by omega) hK rfl rfl), .inr ⟨k', by omega, by rw [show ((i.toNat + k' : Nat) : Int) = max i 0 + k' by omega], e3, fun a c hm => e2 (a, c) hm⟩⟩
theorem rawP_at (n : NetS) (tt : Int) (W : World) (b j : Nat) : rawP n tt (rawAt W b n.all j) = findP n tt (n.all.getD j z33).f0 (n.all.getD j z33).f1 := by
  unfold rawP
  rw [(rawAt_f W b n.all j).1, (rawAt_f W b n.all j).2]
theorem find_r (n : NetS) (p : Option Addr) (fp : Nat → Prop) (w : World) (h : Recv w p fp n) (tt i : Int) (hm : n.nodes ≤ 15) (hl : n.all.length < 1000000) :
    Calls Try.prog 24 #[.pointer p, .int .i64 tt, .int .i64 i] w fun e w' => e = .returned (.tuple #[.int .i64 (findI n tt i), .bool (findB n tt i)]) ∧ Below w.heap.size w w' := by
  rcases h with ⟨rfl, rfl⟩ | ⟨g, rfl, h⟩
  · have e1 : findO ⟨[], 0, 0, fun _ => false⟩ tt i = none := by simp [findO]
    have e2 : findI ⟨[], 0, 0, fun _ => false⟩ tt i = 0 := by unfold findI; rw [e1]
    have e3 : findB ⟨[], 0, 0, fun _ => false⟩ tt i = false := by unfold findB; rw [e1]; rfl
    rw [e2, e3]
    exact find_nil tt i w
  · obtain ⟨A, b, cap, e1, e2, e3⟩ := h.rowAt w.heap.size (fun _ => False) (Nat.le_refl _) (fun _ _ h => h)
    refine (find_c n g fp w h tt i hm hl b A cap e1 e2 e3).mono ?_
    rintro e w' ⟨hB, ⟨rfl, hn⟩ | ⟨k, hk, rfl, hp, hn⟩⟩
    · have hO : findO n tt i = none := by
        unfold findO
        rw [Option.map_eq_none_iff, List.find?_eq_none]
        intro j hj
        have := hn (i.toNat + j, rawAt w b n.all (i.toNat + j)) (by simp only [fromSeq, List.mem_map]; exact ⟨j, hj, rfl⟩)
        rw [rawP_at] at this
        rw [this]
        decide
      exact ⟨by unfold findI findB; rw [hO]; rfl, hB⟩
    · have hO : findO n tt i = some (i.toNat + k) := by
        unfold findO
        rw [rawP_at] at hp
        have : (List.range (n.all.length - i.toNat)).find? (fun j => findP n tt (n.all.getD (i.toNat + j) z33).f0 (n.all.getD (i.toNat + j) z33).f1) = some k := by
          rw [List.find?_range_eq_some]
          refine ⟨hp, List.mem_range.2 hk, fun j hj => ?_⟩
          have := hn (i.toNat + j, rawAt w b n.all (i.toNat + j)) (by simp only [fromSeq, List.mem_map, List.mem_range]; exact ⟨j, hj, rfl⟩)
          rw [rawP_at] at this
          rw [this]
          rfl
        rw [this]
        rfl
      exact ⟨by unfold findI findB; rw [hO]; rfl, hB⟩
end Go.Proofs.Ytnaefndclalepaa.Net
