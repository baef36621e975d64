/- A message is taken out. -/
import Derived.Test.YtnaefndclalepaaPut
import Derived.Laws.IdiomCopy
namespace Go.Proofs.Ytnaefndclalepaa.Net
set_option linter.unusedVariables false
set_option linter.unusedSimpArgs false
open Go.RowKit Go.Proofs.YtnaefndclalepaaW.PrintWords Go.Proofs.YtnaefndclalepaaW.PrintLast Go.Proofs.YtnaefndclalepaaW.PrintMore Go.Proofs.Ytnaefndclalepaa.XN
set_option maxHeartbeats 8000000 in
set_option maxRecDepth 100000 in
theorem clone_c (A0 : Option Addr) (c0 : Nat) (l0 : List S33) (w : World) (okp : Nat → Prop) (hr0 : Kd.F k33 w okp A0 l0.length l0) (hc0 : l0.length ≤ c0) (hokp : ∀ k, okp k → k < w.heap.size) (hlim : l0.length < 1000000) :
    Calls Try.prog 46 #[.slice A0 l0.length c0] w fun e w' => ∃ v0_ : Value, e = .returned (v0_) ∧ Kd.N k33 33 w' w.heap.size (fun k => okp k ∨ w.heap.size ≤ k) v0_ l0 ∧ Below w.heap.size w w' := by
  have heq := fun (W : World) (a : Option Addr) (n c : Nat) => Lib.run_eql_slice_nil (P := Try.prog) W 39 33 a n c 0 0 Try.underlying39
  have HR0 := Aside0.mk hr0
  have HLM := Aside0.mk hlim
  have HOK := Aside0.mk hokp
  clear hlim hokp
  have HB := Aside0.mk (Below.refl w.heap.size w)
  cases A0 with
  | none =>
    have hl : l0 = [] := by
      cases l0 with
      | nil => rfl
      | cons x l =>
        obtain ⟨ad, e, _⟩ := (Kd.F_now hr0).2.2 (by simp)
        cases e
    subst hl
    clear hr0 hc0
    go_enter Try.func46, Try.ntmps46
    go_wp2
    go_ret
    exact ⟨.slice none 0 0, rfl, Kd.N_nil _ _ _ _ _, HB.out⟩
  | some ad =>
    clear hr0
    have HC0 := Aside0.mk hc0
    clear hc0
    go_enter Try.func46, Try.ntmps46
    go_wp2_with (first | ((with_reducible refine gate_dst (N := 5) rfl ?_); refine Kd.N_lit k33 (w0 := w) w.heap.size 33 ?hg (N' := 5) ?hd (xs := ([] : List S33)) (inner := []) (ok := fun k => okp k ∨ w.heap.size ≤ k) (okp := fun _ => False) ?hr ?hp (fun _ hk => hk.elim) (.inr (Nat.le_refl _)) (Below.refl _ _) (Nat.le_refl _) (by simp) ?_; (case hd => rfl); (case hg => rfl); (case hr => first | (go_simp; done) | (go_simp; rfl)); (case hp => exact (Reps.none _ _)); intro v2 w2 ho2 hb hg_ hnew_; clear hg_; have HO2 := Aside0.mk ho2; have HB2 := Aside0.mk hb; have HNW := Aside0.mk hnew_; clear HB; clear hb ho2 hnew_) | ((with_reducible refine gate_builtin (b := .append) (xs := #[.tmp 5, .tmp 6]) rfl ?_); at_builtin; refine Kd.N_append_rows k33 (w0 := w) w.heap.size rfl (.tmp 5) (.tmp 6) 39 33 (.agg #[.int .i64 0, .int .i64 0, .slice none 0 0]) 40 rfl Try.underlying39 info33 rfl (by decide) (by omega) v2 ([] : List S33) l0 _ _ _ (fun k => okp k ∨ w.heap.size ≤ k) okp rfl rfl ?aO ?aR ?aK ?aF ?aB ?aS ?aL ?_; (case aR => exact Kd.F_below HR0.out HB2.out); (case aB => exact HB2.out); (case aK => exact (fun k hk => ⟨.inl hk, fun e => by obtain ⟨b, hb, hle⟩ := HNW.out; rw [hb] at e; injection e with e; have := HOK.out k hk; omega⟩)); (case aF => exact (fun k hk => .inr (Nat.le_trans (below_size HB2.out) hk))); (case aO => exact HO2.out); (case aS => exact (below_size HB2.out)); (case aL => have := HLM.out; simp; omega); intro v1 w1 ho hb hg hat; rw [List.nil_append] at ho; have HO := Aside0.mk ho; have HB1 := Aside0.mk hb; clear ho hb hg hat))
    go_ret
    exact ⟨v1, rfl, HO.out, HB1.out⟩

theorem zero33 (w : World) : (zeroValue 33).run Try.prog w = .ok (.agg #[.int .i64 0, .int .i64 0, .slice none 0 0]) w := by kernel_rfl
theorem zc33 : (Builtin.zeroCells (Value.agg #[.int .i64 0, .int .i64 0, .slice none 0 0]).cells 1).toList = [.int .i64 0, .int .i64 0, .slice none 0 0] := by kernel_rfl
/-- The place behind the last message is zeroed. -/
theorem clear_tail {W : World} {ok : Nat → Prop} {b c : Nat} {l : List S33} (h : Kd.N k33 33 W 0 ok (.slice (some ⟨b, 0, none⟩) l.length c) l) (hc : l.length + 1 ≤ c) (c2 : Nat) :
    ∃ w1, (∀ ty, (Builtin.clear_ #[39] ty #[.slice (some ⟨b, 3 * l.length, none⟩) 1 c2]).run Try.prog W = .ok (.tuple #[]) w1) ∧ Kd.N k33 33 w1 0 ok (.slice (some ⟨b, 0, none⟩) l.length c) l ∧ W.grownBy w1 (some b) := by
  obtain ⟨h0, rows, hl, ⟨h1, inner, hown, hr⟩, hf⟩ := h
  obtain ⟨hlen, hown2⟩ := hown
  rcases hown2 with ⟨hv, _⟩ | ⟨g', cap', cur, hv, hb, hh, hn, hcm, hcs, htake⟩
  · cases hv
  injection hv with ha _ hcc
  injection ha with ha
  injection ha with hg
  subst hg; subst hcc
  have hsz : (Kd.raw k33.sz).sz = 3 := rfl
  rw [hsz] at hlen hcs htake
  rw [hl] at hlen htake
  obtain ⟨vs, hvs⟩ : ∃ vs : List Value, vs = [.int .i64 0, .int .i64 0, .slice none 0 0] := ⟨_, rfl⟩
  have hvl : vs.length = 3 := by rw [hvs]; rfl
  have hone : ∀ u ∈ vs, u.oneCell' = true := by rw [hvs]; intro u hu; simp at hu; rcases hu with rfl | rfl | rfl <;> rfl
  have hfit : 3 * l.length + vs.length ≤ cur.size := by rw [hcs, hvl]; omega
  have hrun := run_storeCells_cells (P := Try.prog) b (3 * l.length) vs 0 W
    (fun j hj => by rw [Nat.add_zero, blk_cell hh]; rw [Array.getElem?_eq_getElem (by omega)]; rfl) (fun j _ => blk_frozen hh _) hone
  rw [Nat.add_zero] at hrun
  obtain ⟨cur', h3, h4, h5⟩ := setCells_row vs (3 * l.length) W cur hh hfit
  obtain ⟨s1, s2, s3, s4⟩ := setCells_same b vs (3 * l.length) W
  have hfar : ∀ k', k' ≠ b → (W.setCells b (3 * l.length) vs).heap[k']? = W.heap[k']? := fun k' hk' => setCells_far vs _ k' hk'
  have hG : W.grownBy (W.setCells b (3 * l.length) vs) (some b) := ⟨s1, s2, s3, by rw [s4]; exact Nat.le_refl _, fun k' _ hk' => hfar k' (fun he => hk' (by rw [he]))⟩
  refine ⟨W.setCells b (3 * l.length) vs, fun ty => ?_, ⟨h0, rows, hl, ⟨h1, inner, ⟨by rw [hl]; exact hlen, .inr ⟨b, c, cur', by rw [hl], hb, h3, by rw [hl]; omega, hcm, by rw [h4]; exact hcs, ?_⟩⟩, hr⟩, fun j x cc hx hc' => Kd.FK_step (hf j x cc hx hc') (fun k hk hlt => hG.block k hlt (fun e => hk.2 (by rw [e]; rfl)))⟩, hG⟩
  · have hz : (Builtin.zeroCells (Value.agg #[.int .i64 0, .int .i64 0, .slice none 0 0]).cells 1).toList = vs := by rw [hvs]; exact zc33
    simp [Builtin.clear_, run_underlying Try.underlying39, zero33, hz, hrun]
  · rw [hsz, hl, h5, ← htake]
    rw [show l.length * 3 = 3 * l.length by omega, List.append_assoc]
    exact List.take_left' (by rw [List.length_take]; simp; omega)
end Go.Proofs.Ytnaefndclalepaa.Net
