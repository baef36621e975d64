/- A message is delivered. -/
import Derived.Test.YtnaefndclalepaaAt
namespace Go.Proofs.Ytnaefndclalepaa.Net
set_option linter.unusedVariables false
set_option linter.unusedSimpArgs false
open Go.RowKit Go.Proofs.YtnaefndclalepaaW.PrintWords Go.Proofs.YtnaefndclalepaaW.PrintLast Go.Proofs.YtnaefndclalepaaW.PrintMore Go.Proofs.Ytnaefndclalepaa.XN

theorem Recv.fr {W W' : World} {p : Option Addr} {fp S : Nat → Prop} {n : NetS} (h : Recv W p fp n) (hf : Fr S W W') (hs : ∀ k, fp k → ¬ S k) : Recv W' p fp n := by
  rcases h with h | ⟨g, rfl, h⟩
  · exact .inl h
  · exact .inr ⟨g, rfl, h.fr hf hs⟩
theorem Recv.below {W W' : World} {p : Option Addr} {fp : Nat → Prop} {n : NetS} (h : Recv W p fp n) (hb : Below W.heap.size W W') : Recv W' p fp n := h.fr (Fr.of_below hb (fun _ => False)) (fun _ _ h => h)
theorem Recv.alloc {W : World} {p : Option Addr} {fp : Nat → Prop} {n : NetS} (h : Recv W p fp n) (o : Obj) : Recv (W.alloc o) p fp n := h.below (below_alloc (Below.refl _ _) o)
/-- What Deliver answers. -/
def dlvE (n : NetS) (i : Int) : Int := if hasB n i = true then (if openB n (atM n i).f0 (atM n i).f1 = true then 0 else 6) else 4
/-- A box that was zero is zeroed. -/
theorem dlv_end {w w1 w2 : World} {b : Nat} {v : Value} (h1 : Below w.heap.size w w1) (h2 : Below w1.heap.size w1 w2) : Below w.heap.size w w2 :=
  ⟨h2.os.trans h1.os, h2.tape.trans h1.tape, h2.output.trans h1.output, Nat.le_trans h1.size h2.size, fun k hk => (h2.block k (Nat.lt_of_lt_of_le hk h1.size)).trans (h1.block k hk)⟩
theorem box_put3 {W : World} {b T : Nat} {x y z : Value} (h : W.heap[b]? = some (.cells #[x, y, z] T (0, 0))) (va vb vc : Value) : (((W.setCell ⟨b, 0, none⟩ va).setCell ⟨b, 1, none⟩ vb).setCell ⟨b, 2, none⟩ vc).heap[b]? = some (.cells #[va, vb, vc] T (0, 0)) := by
  refine blk_put (cs := #[va, vb, z]) ?_ 2 _ rfl
  refine blk_put (cs := #[va, y, z]) ?_ 1 _ rfl
  exact blk_put (cs := #[x, y, z]) h 0 _ rfl
theorem put3_below {b c : Nat} {w w1 : World} (h : Below b w w1) (va vb vc : Value) (hc : b ≤ c := by exact Nat.le_refl _) : Below b w (((w1.setCell ⟨c, 0, none⟩ va).setCell ⟨c, 1, none⟩ vb).setCell ⟨c, 2, none⟩ vc) :=
  ((h.setCell (p := ⟨c, 0, none⟩) hc va).setCell (p := ⟨c, 1, none⟩) hc vb).setCell (p := ⟨c, 2, none⟩) hc vc
set_option maxHeartbeats 4000000 in
set_option maxRecDepth 100000 in
theorem dlv_none (n : NetS) (p : Option Addr) (fp : Nat → Prop) (w : World) (h : Recv w p fp n) (i : Int) (hlen : ∀ m, m ∈ n.all → m.f2.length < 1000000) (hh : hasB n i = false) :
    Calls Try.prog 12 #[.pointer p, .int .i64 i] w fun e w' => e = .returned (.tuple #[.agg #[.int .i64 0, .int .i64 0, .slice none 0 0], .int .i64 4]) ∧ Below w.heap.size w w' := by
  have hat := fun W (hW : Recv W p fp n) => at_r n p fp W hW i hlen
  have e1 : atM n i = z33 := by unfold atM; rw [hh]; rfl
  have e2 : atE n i = 4 := by unfold atE; rw [hh]; rfl
  rw [e1, e2] at hat
  have HAT := Aside0.mk hat
  have HR := Aside0.mk (h.alloc (.cells #[.int .i64 0, .int .i64 0, .slice none 0 0] 33))
  have HB := Aside0.mk (below_alloc (Below.refl w.heap.size w) (.cells #[.int .i64 0, .int .i64 0, .slice none 0 0] 33))
  have BK := Aside0.mk (heap_alloc_new w (.cells #[.int .i64 0, .int .i64 0, .slice none 0 0] 33))
  clear hat h hlen hh e1 e2
  go_enter Try.func12, Try.ntmps12
  go_wp2_with (first
    | (go_at_call 16; generalize (w.alloc (.cells #[.int .i64 0, .int .i64 0, .slice none 0 0] 33)) = w1 at *; refine (HAT.out _ HR.out).mono ?_; rintro e w2 ⟨vb, rfl, hR, hB⟩; obtain ⟨Ab, cb, rfl⟩ := Kd.R_slice hR; have BK2 := Aside0.mk (blk_alloc (blk_below BK.out hB) (.cells #[.int .i64 z33.f0, .int .i64 z33.f1, .slice Ab z33.f2.length cb] 33)); have HB2 := Aside0.mk (below_alloc hB (.cells #[.int .i64 z33.f0, .int .i64 z33.f1, .slice Ab z33.f2.length cb] 33)); clear hR hB; obtain ⟨y0, q0⟩ := cells_at BK2.out (j := 0) rfl; obtain ⟨y1, q1⟩ := cells_at BK2.out (j := 1) rfl; obtain ⟨y2, q2⟩ := cells_at BK2.out (j := 2) rfl))
  refine bodyPost_ret (results_ct rfl _ _ w.heap.size 33 #[.int .i64 0, .int .i64 0, .slice none 0 0] (0, 0) _ rfl (box_put3 BK2.out _ _ _) Try.underlying33 rfl (by kernel_rfl)) rfl ?_
  exact ⟨rfl, put3_below (dlv_end (b := 0) (v := undef) HB.out HB2.out) _ _ _⟩
set_option maxHeartbeats 4000000 in
set_option maxRecDepth 100000 in
theorem dlv_down (n : NetS) (p : Option Addr) (fp : Nat → Prop) (w : World) (h : Recv w p fp n) (i : Int) (hm : n.nodes ≤ 15) (hlen : ∀ m, m ∈ n.all → m.f2.length < 1000000) (hh : hasB n i = true) (ho : openB n (atM n i).f0 (atM n i).f1 = false) :
    Calls Try.prog 12 #[.pointer p, .int .i64 i] w fun e w' => e = .returned (.tuple #[.agg #[.int .i64 0, .int .i64 0, .slice none 0 0], .int .i64 6]) ∧ Below w.heap.size w w' := by
  have hat := fun W (hW : Recv W p fp n) => at_r n p fp W hW i hlen
  have e2 : atE n i = 0 := by unfold atE; rw [hh]; rfl
  rw [e2] at hat
  have hop := fun W (hW : Recv W p fp n) => open_r n p fp W hW hm (atM n i).f0 (atM n i).f1
  rw [ho] at hop
  generalize (atM n i).f0 = f at *
  generalize (atM n i).f1 = t at *
  generalize (atM n i).f2 = l at *
  have HAT := Aside0.mk hat
  have HOP := Aside0.mk hop
  have HR := Aside0.mk (h.alloc (.cells #[.int .i64 0, .int .i64 0, .slice none 0 0] 33))
  have HB := Aside0.mk (below_alloc (Below.refl w.heap.size w) (.cells #[.int .i64 0, .int .i64 0, .slice none 0 0] 33))
  have BK := Aside0.mk (heap_alloc_new w (.cells #[.int .i64 0, .int .i64 0, .slice none 0 0] 33))
  clear hat hop h hlen hh ho e2 hm
  go_enter Try.func12, Try.ntmps12
  go_wp2_with (first
    | (go_at_call 16; generalize (w.alloc (.cells #[.int .i64 0, .int .i64 0, .slice none 0 0] 33)) = w1 at *; refine (HAT.out _ HR.out).mono ?_; rintro e w2 ⟨vb, rfl, hR, hB⟩; obtain ⟨Ab, cb, rfl⟩ := Kd.R_slice hR; have BK2 := Aside0.mk (blk_alloc (blk_below BK.out hB) (.cells #[.int .i64 f, .int .i64 t, .slice Ab l.length cb] 33)); have HB2 := Aside0.mk (below_alloc hB (.cells #[.int .i64 f, .int .i64 t, .slice Ab l.length cb] 33)); have HR2 := Aside0.mk (HR.out.below HB2.out); clear hR hB; obtain ⟨y0, q0⟩ := cells_at BK2.out (j := 0) rfl; obtain ⟨y1, q1⟩ := cells_at BK2.out (j := 1) rfl; obtain ⟨y2, q2⟩ := cells_at BK2.out (j := 2) rfl)
    | (go_at_call 26; refine (HOP.out _ HR2.out).mono ?_; rintro e w3 ⟨rfl, rfl⟩))
  refine bodyPost_ret (results_ct rfl _ _ w.heap.size 33 #[.int .i64 0, .int .i64 0, .slice none 0 0] (0, 0) _ rfl (box_put3 BK2.out _ _ _) Try.underlying33 rfl (by kernel_rfl)) rfl ?_
  exact ⟨rfl, put3_below (dlv_end (b := 0) (v := undef) HB.out HB2.out) _ _ _⟩
theorem dlv_ok_mid {w w1 w2 w3 w4 : World} {g : Nat} {fp fp' : Nat → Prop} {n : NetS} {v : Value} {l : List Int} {cz cx : Array Value} (hfp : ∀ k, fp k → k < w.heap.size) (hB : Below w.heap.size w w1) (hlt : w.heap.size < w1.heap.size) (hR : Kd.R (Kd.int .u8) 5 w2 w1.heap.size (fun _ => True) v l) (hle : w1.heap.size ≤ w2.heap.size)
    {o : Obj} (h3 : w3 = w2.alloc o) (hF4 : Fr fp w3 w4) (hI4 : IsNet w4 g fp' n) (hs4 : ∀ k, fp' k → fp k ∨ w3.heap.size ≤ k) (hB2 : Below w1.heap.size w1 w3) (hK : w3.heap[w.heap.size]? = some (.cells cz 33 (0, 0))) (hX : w3.heap[w2.heap.size]? = some (.cells cx 33 (0, 0))) :
    w4.heap[w.heap.size]? = some (.cells cz 33 (0, 0)) ∧ w4.heap[w2.heap.size]? = some (.cells cx 33 (0, 0)) ∧ ∀ va vb vc, ∃ fp' : Nat → Prop, IsNet (((w4.setCell ⟨w.heap.size, 0, none⟩ va).setCell ⟨w.heap.size, 1, none⟩ vb).setCell ⟨w.heap.size, 2, none⟩ vc) g fp' n ∧ (∀ k, fp' k → fp k ∨ w.heap.size ≤ k) ∧
      Fr fp w (((w4.setCell ⟨w.heap.size, 0, none⟩ va).setCell ⟨w.heap.size, 1, none⟩ vb).setCell ⟨w.heap.size, 2, none⟩ vc) ∧ Kd.R (Kd.int .u8) 5 (((w4.setCell ⟨w.heap.size, 0, none⟩ va).setCell ⟨w.heap.size, 1, none⟩ vb).setCell ⟨w.heap.size, 2, none⟩ vc) w.heap.size (fun k => ¬ fp' k) v l := by
  have hs3 : w3.heap.size = w2.heap.size + 1 := by rw [h3]; simp
  refine ⟨(hF4.block _ (by omega) (fun h => by have := hfp _ h; omega)).trans hK, (hF4.block _ (by omega) (fun h => by have := hfp _ h; omega)).trans hX, fun va vb vc => ?_⟩
  have hF : Fr fp w w4 := ((Fr.of_below hB fp).trans (Fr.of_below hB2 fp) (fun _ h _ => h)).trans hF4 (fun _ h _ => h)
  have hne : ∀ k, fp' k → ¬ k = w.heap.size := fun k hk e => by
    rcases hs4 k hk with h | h
    · have := hfp k h; omega
    · omega
  have hx : Fr (fun k => k = w.heap.size) w4 (((w4.setCell ⟨w.heap.size, 0, none⟩ va).setCell ⟨w.heap.size, 1, none⟩ vb).setCell ⟨w.heap.size, 2, none⟩ vc) :=
    (((Fr.refl (fun k => k = w.heap.size) _).setCell (p := ⟨w.heap.size, 0, none⟩) (fun _ => rfl) _).setCell (p := ⟨w.heap.size, 1, none⟩) (fun _ => rfl) _).setCell (p := ⟨w.heap.size, 2, none⟩) (fun _ => rfl) _
  refine ⟨fp', hI4.fr hx hne, fun k hk => (hs4 k hk).imp id (fun h => by omega), hF.trans hx (fun k e hk => by omega), ?_⟩
  have h1 : Kd.R (Kd.int .u8) 5 w3 w1.heap.size (fun _ => True) v l := by rw [h3]; exact Kd.R_alloc hR o
  have h2 := Kd.R_step (Kd.R_bound h1) (w1 := w4) (fun k hk hlt => hF4.block k hlt (fun h => by have := hfp k h; have := hk.2.1; omega))
  have h4 := Kd.R_step h2 (fun k hk hlt => hx.block k hlt (fun e => by have := hk.2.1; omega))
  refine Kd.R_mono (Kd.R_lower h4 (by omega)) (fun k hk h => ?_)
  have h5 := hk.2.1; have h6 := hk.2.2.1
  rcases hs4 k h with h7 | h7
  · have := hfp k h7; omega
  · omega
set_option maxHeartbeats 4000000 in
set_option maxRecDepth 100000 in
theorem dlv_ok (n : NetS) (g : Nat) (fp : Nat → Prop) (w : World) (h : IsNet w g fp n) (i : Nat) (hm : n.nodes ≤ 15) (hlen : ∀ m, m ∈ n.all → m.f2.length < 1000000) (hl : n.all.length < 1000000) (hi : i < n.all.length) (ho : openB n (atM n i).f0 (atM n i).f1 = true) :
    Calls Try.prog 12 #[.pointer (some ⟨g, 0, none⟩), .int .i64 i] w fun e w' => ∃ vb, e = .returned (.tuple #[.agg #[.int .i64 (atM n i).f0, .int .i64 (atM n i).f1, vb], .int .i64 0]) ∧
      ∃ fp' : Nat → Prop, IsNet w' g fp' { n with all := n.all.eraseIdx i } ∧ (∀ k, fp' k → fp k ∨ w.heap.size ≤ k) ∧ Fr fp w w' ∧ Kd.R (Kd.int .u8) 5 w' w.heap.size (fun k => ¬ fp' k) vb (atM n i).f2 := by
  have hat := fun W (hW : Recv W (some ⟨g, 0, none⟩) fp n) => at_r n _ fp W hW i hlen
  have e2 : atE n i = 0 := by unfold atE hasB; simp [hi]
  rw [e2] at hat
  have hop := fun W (hW : Recv W (some ⟨g, 0, none⟩) fp n) => open_r n _ fp W hW hm (atM n i).f0 (atM n i).f1
  rw [ho] at hop
  have htk := fun W (hW : IsNet W g fp n) => take_c n g fp W hW i hi hl
  generalize (atM n i).f0 = f at *
  generalize (atM n i).f1 = t at *
  generalize (atM n i).f2 = l at *
  have HAT := Aside0.mk hat
  have HOP := Aside0.mk hop
  have HTK := Aside0.mk htk
  have HFP := Aside0.mk h.lts
  have I0 := Aside0.mk (h.fr ((Fr.refl (fun _ => False) w).alloc (.cells #[.int .i64 0, .int .i64 0, .slice none 0 0] 33)) (fun _ _ h => h))
  have HB := Aside0.mk (below_alloc (Below.refl w.heap.size w) (.cells #[.int .i64 0, .int .i64 0, .slice none 0 0] 33))
  have BK := Aside0.mk (heap_alloc_new w (.cells #[.int .i64 0, .int .i64 0, .slice none 0 0] 33))
  clear hat hop htk h hlen ho e2 hm hl
  go_enter Try.func12, Try.ntmps12
  go_wp2_with (first
    | (go_at_call 16; generalize (w.alloc (.cells #[.int .i64 0, .int .i64 0, .slice none 0 0] 33)) = w1 at *; refine (HAT.out _ (.inr ⟨g, rfl, I0.out⟩)).mono ?_; rintro e w2 ⟨vb, rfl, hR, hB⟩; obtain ⟨Ab, cb, rfl⟩ := Kd.R_slice hR; have BK2 := Aside0.mk (blk_alloc (blk_below BK.out hB) (.cells #[.int .i64 f, .int .i64 t, .slice Ab l.length cb] 33)); have HB2 := Aside0.mk (below_alloc hB (.cells #[.int .i64 f, .int .i64 t, .slice Ab l.length cb] 33)); have I2 := Aside0.mk (I0.out.fr (Fr.of_below HB2.out (fun _ => False)) (fun _ _ h => h)); have HX2 := Aside0.mk (And.intro hR (And.intro hB.size (heap_alloc_new w2 (.cells #[.int .i64 f, .int .i64 t, .slice Ab l.length cb] 33)))); clear hR hB)
    | (go_at_call 26; refine (HOP.out _ (.inr ⟨g, rfl, I2.out⟩)).mono ?_; rintro e w3 ⟨rfl, rfl⟩)
    | (go_at_call 30; go_loud (refine (HTK.out _ I2.out).mono ?_; rintro e w4 ⟨⟨v4, rfl⟩, ⟨fp', hI4, hs4⟩, hF4⟩; have HE := Aside0.mk (dlv_ok_mid HFP.out HB.out (blk_lt BK.out) HX2.out.1 HX2.out.2.1 rfl hF4 hI4 hs4 HB2.out BK2.out HX2.out.2.2); clear hF4 hI4 hs4; have BK4 := Aside0.mk HE.out.1; have BX4 := Aside0.mk HE.out.2.1; obtain ⟨x0, _⟩ := cells_at BX4.out (j := 0) rfl; obtain ⟨x1, _⟩ := cells_at BX4.out (j := 1) rfl; obtain ⟨x2, _⟩ := cells_at BX4.out (j := 2) rfl; obtain ⟨y0, q0⟩ := cells_at BK4.out (j := 0) rfl; obtain ⟨y1, q1⟩ := cells_at BK4.out (j := 1) rfl; obtain ⟨y2, q2⟩ := cells_at BK4.out (j := 2) rfl)))
  refine bodyPost_ret (results_ct rfl _ _ w.heap.size 33 #[.int .i64 f, .int .i64 t, .slice Ab l.length cb] (0, 0) _ rfl (box_put3 BK4.out _ _ _) Try.underlying33 rfl (by kernel_rfl)) rfl ?_
  exact ⟨_, rfl, HE.out.2.2 _ _ _⟩
/-- What Deliver gives, and leaves. -/
def dlvM (n : NetS) (i : Int) : S33 := if dlvE n i = 0 then atM n i else z33
def dlvN (n : NetS) (i : Int) : NetS := if dlvE n i = 0 then { n with all := n.all.eraseIdx i.toNat } else n
theorem hasB_spec {n : NetS} {i : Int} (h : hasB n i = true) : ∃ k : Nat, i = k ∧ k < n.all.length := by
  simp [hasB] at h
  exact ⟨i.toNat, by omega, by omega⟩
theorem Recv.some_ {W : World} {p : Option Addr} {fp : Nat → Prop} {n : NetS} (h : Recv W p fp n) {i : Int} (hh : hasB n i = true) : ∃ g, p = some ⟨g, 0, none⟩ ∧ IsNet W g fp n := by
  obtain ⟨k, _, hk⟩ := hasB_spec hh
  rcases h with ⟨rfl, rfl⟩ | ⟨g, rfl, h⟩
  · simp at hk
  · exact ⟨g, rfl, h⟩
theorem dlv_r (n : NetS) (p : Option Addr) (fp : Nat → Prop) (w : World) (h : Recv w p fp n) (i : Int) (hm : n.nodes ≤ 15) (hlen : ∀ m, m ∈ n.all → m.f2.length < 1000000) (hl : n.all.length < 1000000) :
    Calls Try.prog 12 #[.pointer p, .int .i64 i] w fun e w' => ∃ vb, e = .returned (.tuple #[.agg #[.int .i64 (dlvM n i).f0, .int .i64 (dlvM n i).f1, vb], .int .i64 (dlvE n i)]) ∧
      ∃ fp' : Nat → Prop, Recv w' p fp' (dlvN n i) ∧ (∀ k, fp' k → fp k ∨ w.heap.size ≤ k) ∧ Fr fp w w' ∧ Kd.R (Kd.int .u8) 5 w' w.heap.size (fun k => ¬ fp' k) vb (dlvM n i).f2 := by
  by_cases hh : hasB n i = true
  · by_cases ho : openB n (atM n i).f0 (atM n i).f1 = true
    · have hE : dlvE n i = 0 := by unfold dlvE; rw [if_pos hh, if_pos ho]
      unfold dlvM dlvN
      rw [hE, if_pos rfl, if_pos rfl]
      obtain ⟨g, rfl, hI⟩ := h.some_ hh
      obtain ⟨k, rfl, hk⟩ := hasB_spec hh
      refine (dlv_ok n g fp w hI k hm hlen hl hk ho).mono ?_
      rintro e w' ⟨vb, rfl, fp', h1, h2, h3, h4⟩
      exact ⟨vb, rfl, fp', .inr ⟨g, rfl, h1⟩, h2, h3, h4⟩
    · have hE : dlvE n i = 6 := by unfold dlvE; rw [if_pos hh, if_neg ho]
      unfold dlvM dlvN
      rw [hE, if_neg (by decide), if_neg (by decide)]
      refine (dlv_down n p fp w h i hm hlen hh (Bool.eq_false_iff.2 ho)).mono ?_
      rintro e w' ⟨rfl, h1⟩
      exact ⟨_, rfl, fp, h.below h1, fun k hk => .inl hk, Fr.of_below h1 fp, Kd.R_nil _ _ _ _ _⟩
  · have hE : dlvE n i = 4 := by unfold dlvE; rw [if_neg hh]
    unfold dlvM dlvN
    rw [hE, if_neg (by decide), if_neg (by decide)]
    refine (dlv_none n p fp w h i hlen (Bool.eq_false_iff.2 hh)).mono ?_
    rintro e w' ⟨rfl, h1⟩
    exact ⟨_, rfl, fp, h.below h1, fun k hk => .inl hk, Fr.of_below h1 fp, Kd.R_nil _ _ _ _ _⟩
/-- What Drop answers, and leaves. -/
def dropE (n : NetS) (i : Int) : Int := if hasB n i = true then 0 else 4
def dropN (n : NetS) (i : Int) : NetS := if hasB n i = true then { n with all := n.all.eraseIdx i.toNat } else n
set_option maxHeartbeats 4000000 in
set_option maxRecDepth 100000 in
theorem drop_r (n : NetS) (p : Option Addr) (fp : Nat → Prop) (w : World) (h : Recv w p fp n) (i : Int) (hl : n.all.length < 1000000) :
    Calls Try.prog 15 #[.pointer p, .int .i64 i] w fun e w' => e = E (dropE n i) ∧ ∃ fp' : Nat → Prop, Recv w' p fp' (dropN n i) ∧ (∀ k, fp' k → fp k ∨ w.heap.size ≤ k) ∧ Fr fp w w' := by
  by_cases hh : hasB n i = true
  · unfold dropE dropN
    rw [if_pos hh, if_pos hh]
    obtain ⟨g, rfl, hI⟩ := h.some_ hh
    obtain ⟨k, rfl, hk⟩ := hasB_spec hh
    have h1 := has_c n g fp w hI k
    rw [hh] at h1
    have H1 := Aside0.mk h1
    have H2 := Aside0.mk (take_c n g fp w hI k hk hl)
    clear h1 h hI hh
    go_enter Try.func15, Try.ntmps15
    go_wp2_with (first
      | (go_at_call 32; refine H1.out.mono ?_; rintro e w' ⟨rfl, rfl⟩)
      | (go_at_call 30; refine H2.out.mono ?_; rintro e w4 ⟨⟨v4, rfl⟩, ⟨fp', hI4, hs4⟩, hF4⟩; have HX := Aside0.mk (And.intro hI4 (And.intro hs4 hF4)); clear hI4 hs4 hF4))
    go_ret
    exact ⟨rfl, fp', .inr ⟨g, rfl, HX.out.1⟩, HX.out.2.1, HX.out.2.2⟩
  · unfold dropE dropN
    rw [if_neg hh, if_neg hh]
    rcases h with ⟨rfl, rfl⟩ | ⟨g, rfl, hI⟩
    · go_enter Try.func15, Try.ntmps15
      go_wp2
      go_ret
      exact ⟨rfl, fp, .inl ⟨rfl, rfl⟩, fun k hk => .inl hk, Fr.refl _ _⟩
    · have h1 := has_c n g fp w hI i
      rw [Bool.eq_false_iff.2 hh] at h1
      have H1 := Aside0.mk h1
      have HI := Aside0.mk hI
      clear h1 hI hh
      go_enter Try.func15, Try.ntmps15
      go_wp2_with (first
        | (go_at_call 32; refine H1.out.mono ?_; rintro e w' ⟨rfl, rfl⟩))
      go_ret
      exact ⟨rfl, fp, .inr ⟨g, rfl, HI.out⟩, fun k hk => .inl hk, Fr.refl _ _⟩
end Go.Proofs.Ytnaefndclalepaa.Net
