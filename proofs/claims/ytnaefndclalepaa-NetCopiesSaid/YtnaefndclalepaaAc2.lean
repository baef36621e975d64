/- An act: Send, At, Deliver. -/
import Derived.Test.YtnaefndclalepaaAct
namespace Go.Proofs.Ytnaefndclalepaa.Net
set_option linter.unusedVariables false
set_option linter.unusedSimpArgs false
open Go.RowKit Go.Shelf Go.Proofs.YtnaefndclalepaaW.PrintWords Go.Proofs.YtnaefndclalepaaW.PrintLast Go.Proofs.YtnaefndclalepaaW.PrintMore Go.Proofs.Ytnaefndclalepaa.XN
def ac2.T4 : Bool × List (List Nat × List Nat) := (true, [([], []), ([], []), ([1], [1]), ([], []), ([3], [3]), ([], []), ([0, 2, 4, 5], [0, 2, 4, 5]), ([], []), ([], []), ([8], [8]), ([], []), ([10], [10]), ([], []), ([12], [12]), ([7, 9, 11, 13, 6], [7, 9, 11, 13]), ([6, 14], [6, 14]), ([15, 14, 0, 1, 2, 3, 4, 5, 6, 7, 8, 9, 10, 11, 12, 13, 14, 15], [15])])
def ac2.B4 : List Nat := [0, 0, 2, 0, 8, 0, 63, 0, 0, 256, 0, 1024, 0, 4096, 16383, 32767, 65535]
theorem ac2.tab4 : rtab .any (opsOf Try.f22 4) = ac2.T4 := by kernel_rfl
theorem ac2.bits4 : waitsOk ac2.T4.2 ac2.B4 = true := by kernel_rfl
theorem Keeps.set_far {Q B : Nat → Prop} {W W' : World} (h : Keeps Q W W') (hd : ∀ k, Q k → ¬ B k) {a : Addr} (ha : B a.block) (u : Value) : Keeps Q W (W'.setCell a u) :=
  ⟨Nat.le_trans h.1 (Below.setCell (Below.refl 0 W') (p := a) (Nat.zero_le _) u).size, fun k hk => (Below.heap_setCell W' a u k (fun e => hd k hk (e ▸ ha))).trans (h.2 k hk)⟩

set_option maxHeartbeats 8000000 in
set_option maxRecDepth 100000 in
theorem act0_c {w W : World} {p : Option Addr} {n : NetS} {g : Nat} {m : RefS} {fp0 fr0 Q okx : Nat → Prop} {K : Nat} (h : J w W p n g m fp0 fr0 Q (fun _ => False)) (hR : Rel n m K) (hK : K < 9000) (d1 d2 d3 : Int) (A4 : Option Addr) (c4 : Nat) (x4 : List Int) (hF : Kd.F (Kd.int .u8) W okx A4 x4.length x4) (hok : ∀ k, okx k → Q k) (hc4 : x4.length ≤ c4) (hx4 : x4.length ≤ maxLen) (hx5 : x4.length ≤ 140737488355328) :
    Calls Try.prog 22 #[.pointer p, .pointer (some ⟨g, 0, none⟩), .agg #[.int .i64 0, .int .i64 d1, .int .i64 d2, .int .i64 d3, .slice A4 x4.length c4]] W fun e W' => e = .returned (.bool true) ∧ J w W' p (sendN n d1 d2 x4) g (rsendN m d1 d2 x4) fp0 fr0 Q (fun _ => False) ∧ Keeps Q W W' := by
  have HQL := Aside0.mk (act_size h)
  have HJ0 := Aside0.mk (h.alloc (.cells #[.int .i64 0, .int .i64 d1, .int .i64 d2, .int .i64 d3, .slice A4 x4.length c4] 41))
  have HX0 := Aside0.mk (heap_alloc_new W (.cells #[.int .i64 0, .int .i64 d1, .int .i64 d2, .int .i64 d3, .slice A4 x4.length c4] 41))
  have HKP0 := Aside0.mk (show Keeps Q W (W.alloc (.cells #[.int .i64 0, .int .i64 d1, .int .i64 d2, .int .i64 d3, .slice A4 x4.length c4] 41)) from ⟨by simp, fun k hk => Below.heap_alloc W _ k (HQL.out k hk)⟩)
  have HFx := Aside0.mk (Kd.F_alloc (Kd.F_bound hF) (.cells #[.int .i64 0, .int .i64 d1, .int .i64 d2, .int .i64 d3, .slice A4 x4.length c4] 41))
  have HOKX := Aside0.mk hok
  have HS := Aside0.mk (hR.sendE_ d1 d2 x4)
  have HBG := Aside0.mk (show m.Bag.length ≤ 1000000 from Nat.le_trans hR.bag (by decide))
  have HL3 := Aside0.mk (show (([] : List Int).length + x4.length) * 1 ≤ 140737488355328 by simp; omega)
  clear h hR hF hok
  go_enter Try.func22, Try.ntmps22
  have HSZ0 := Aside0.mk (show W.heap.size + 1 = (W.alloc (.cells #[.int .i64 0, .int .i64 d1, .int .i64 d2, .int .i64 d3, .slice A4 x4.length c4] 41)).heap.size by simp)
  have HBW := Aside0.mk (Below.refl (W.alloc (.cells #[.int .i64 0, .int .i64 d1, .int .i64 d2, .int .i64 d3, .slice A4 x4.length c4] 41)).heap.size (W.alloc (.cells #[.int .i64 0, .int .i64 d1, .int .i64 d2, .int .i64 d3, .slice A4 x4.length c4] 41)))
  go_wp2_with (first
    | ((with_reducible refine gate_dst (N := 24) rfl ?_); refine fresh_lit (Kd.int .u8) 5 (w := (W.alloc (.cells #[.int .i64 0, .int .i64 d1, .int .i64 d2, .int .i64 d3, .slice A4 x4.length c4] 41))) (okp := (fun k => k < (W.alloc (.cells #[.int .i64 0, .int .i64 d1, .int .i64 d2, .int .i64 d3, .slice A4 x4.length c4] 41)).heap.size)) ?hg (N' := 24) ?hd ?hr HBW.out ?_; (case hd => rfl); (case hg => rfl); (case hr => first | (go_simp; done) | (go_simp; rfl)); intro v0 w0 hf; have HF0 := Aside0.mk hf; have z4 := pw_cell_below hf.2 (cells_at HX0.out (j := 4) rfl).1; clear hf HBW)
    | ((with_reducible refine gate_builtin (b := .append) (xs := #[.tmp 24, .tmp 26]) rfl ?_); at_builtin; refine fresh_rows HF0.out rfl (.tmp 24) (.tmp 26) 24 _ 1 rfl Try.underlying24 info5r rfl (by decide) (by decide) rfl rfl (Kd.F_mono (Kd.F_bound HFx.out) (fun k hk => hk.2)) (fun k hk => hk) HL3.out ?_; intro v1 w1 hf; rw [List.nil_append] at hf; obtain ⟨Ab, cb, rfl⟩ := hf.slice; have HF1 := Aside0.mk hf; have HX1 := Aside0.mk (blk_below HX0.out hf.2); clear hf HF0 z4; obtain ⟨z0, _⟩ := cells_at HX1.out (j := 0) rfl; obtain ⟨z1, _⟩ := cells_at HX1.out (j := 1) rfl; obtain ⟨z2, _⟩ := cells_at HX1.out (j := 2) rfl; obtain ⟨z4, _⟩ := cells_at HX1.out (j := 4) rfl))
  clear z0 z1 z2 z4
  refine start_ (n := 17) (S := fun w' => w'.cell? ⟨W.heap.size, 0, none⟩ = some (.int .i64 0) ∧ w'.cell? ⟨W.heap.size, 1, none⟩ = some (.int .i64 d1) ∧ w'.cell? ⟨W.heap.size, 2, none⟩ = some (.int .i64 d2) ∧ w'.cell? ⟨W.heap.size, 3, none⟩ = some (.int .i64 d3) ∧ w'.cell? ⟨W.heap.size, 4, none⟩ = some (.slice A4 x4.length c4)) (ds := []) #[false, false, false, false, false, false, false, false, false, false, false, false, false, false, false, false, false] (by kernel_rfl) rfl rfl ⟨(cells_at (blk_drew HX1.out) (j := 0) rfl).1, (cells_at (blk_drew HX1.out) (j := 1) rfl).1, (cells_at (blk_drew HX1.out) (j := 2) rfl).1, (cells_at (blk_drew HX1.out) (j := 3) rfl).1, (cells_at (blk_drew HX1.out) (j := 4) rfl).1⟩ (fun hHeld => ?_)
  refine with_tabW ac2.tab4 ac2.bits4 (fun HT_ HW_ => ?_)
  have HJ := Aside0.mk ((HJ0.out.own HF1.out.2 (B' := fun k => k = W.heap.size ∨ (W.heap.size + 1 ≤ k ∧ k < w1.heap.size)) (fun k hk => by
    rcases hk with h | h
    · exact .inl (.inr h)
    · exact .inr (by have := HSZ0.out; exact ⟨by omega, h.2⟩))).drew)
  have HX := Aside0.mk (blk_drew HX1.out)
  have HKP := Aside0.mk (show Keeps Q W w1.drew from ⟨Nat.le_trans HKP0.out.1 HF1.out.2.size, fun k hk => (HF1.out.2.block k (Nat.lt_of_lt_of_le (HQL.out k hk) HKP0.out.1)).trans (HKP0.out.2 k hk)⟩)
  have HBY := Aside0.mk (show BytesOf w1.drew Ab x4.length (fun k => k = W.heap.size ∨ (W.heap.size + 1 ≤ k ∧ k < w1.heap.size)) W.heap.size from ((N_bytes HF1.out.1 W.heap.size (by have := HSZ0.out; omega)).mono (fun k hk => .inr (by have := HSZ0.out; omega))))
  have HFb := Aside0.mk (Kd.F_drew (Kd.N_F HF1.out.1))
  have HCB := Aside0.mk (Kd.N_reads' HF1.out.1).2.1
  have HFX := Aside0.mk (Kd.F_drew (Kd.F_below HFx.out HF1.out.2))
  have hBX : (fun k => k = W.heap.size ∨ (W.heap.size + 1 ≤ k ∧ k < w1.heap.size)) W.heap.size := .inl rfl
  have HQB := Aside0.mk (show ∀ k, Q k → ¬ (fun k => k = W.heap.size ∨ (W.heap.size + 1 ≤ k ∧ k < w1.heap.size)) k from fun k hk hb => by
    have := HQL.out k hk
    rcases hb with h | h <;> omega)
  obtain ⟨se, hse⟩ : ∃ se, rsendE m d1 d2 x4 = se := ⟨_, rfl⟩
  have hn := fun (W' : World) {B : Nat → Prop} (hj : J w W' p n g m fp0 fr0 Q B) {A : Option Addr} {c : Nat} (hC : Kd.C (Kd.int .u8) W' A x4.length x4) (hc : x4.length ≤ c) => hj.send_ d1 d2 A c x4 hC hc
  have hm := fun (W' : World) (n2 : NetS) {B : Nat → Prop} (hj : J w W' p n2 g m fp0 fr0 Q B) (hC : Kd.C (Kd.int .u8) W' A4 x4.length x4) => hj.rsend_ HBG.out d1 d2 A4 c4 x4 hC hc4
  rw [HS.out, hse] at hn
  rw [hse] at hm
  have HN := Aside0.mk @hn
  have HM := Aside0.mk @hm
  clear HJ0 HX0 HX1 HKP0 HF1 HFx hn hm hse HS
  obtain ⟨BB, hBB⟩ : ∃ BB : Nat → Prop, BB = (fun k => k = W.heap.size ∨ (W.heap.size + 1 ≤ k ∧ k < w1.heap.size)) := ⟨_, rfl⟩
  rw [← hBB] at HJ hBX HBY HQB
  clear hBB
  generalize w1.drew = w2 at *
  refine pure_ (i := 0) (N := some 28) (v := ?_) (a' := ?_) #[true, false, false, false, false, false, false, false, false, false, false, false, false, false, false, false, false] rfl rfl (any_of HT_.out (by kernel_rfl)) (fun _ _ _ h => h) (Or.inl ⟨by rfl, ?_⟩) ?_ ?_
  rotate_left; (intro w'; go_simp; with_reducible rfl); rotate_left; (simp only [Act.put, List.setIfInBounds_toArray, List.set_cons_zero, List.set_cons_succ, i64_w, i32_w]; rfl)
  refine pure_ (i := 1) (N := some 29) (v := ?_) (a' := ?_) #[true, true, false, false, false, false, false, false, false, false, false, false, false, false, false, false, false] rfl rfl (any_of HT_.out (by kernel_rfl)) (fun _ _ _ h => h) (Or.inl ⟨by rfl, ?_⟩) ?_ ?_
  rotate_left; (intro w'; go_simp; with_reducible rfl); rotate_left; (simp only [Act.put, List.setIfInBounds_toArray, List.set_cons_zero, List.set_cons_succ, i64_w, i32_w]; rfl)
  refine pure_ (i := 3) (N := some 31) (v := ?_) (a' := ?_) #[true, true, false, true, false, false, false, false, false, false, false, false, false, false, false, false, false] rfl rfl (any_of HT_.out (by kernel_rfl)) (fun _ _ _ h => h) (Or.inl ⟨by rfl, ?_⟩) ?_ ?_
  rotate_left; (intro w'; go_simp; with_reducible rfl); rotate_left; (simp only [Act.put, List.setIfInBounds_toArray, List.set_cons_zero, List.set_cons_succ, i64_w, i32_w]; rfl)
  refine pure_ (i := 5) (N := some 33) (v := ?_) (a' := ?_) #[true, true, false, true, false, true, false, false, false, false, false, false, false, false, false, false, false] rfl rfl (any_of HT_.out (by kernel_rfl)) (fun _ _ _ h => h) (Or.inl ⟨by rfl, ?_⟩) ?_ ?_
  rotate_left; (intro w'; go_simp; with_reducible rfl); rotate_left; (simp only [Act.put, List.setIfInBounds_toArray, List.set_cons_zero, List.set_cons_succ, i64_w, i32_w]; rfl)
  refine pure_ (i := 7) (N := some 35) (v := ?_) (a' := ?_) #[true, true, false, true, false, true, false, true, false, false, false, false, false, false, false, false, false] rfl rfl (any_of HT_.out (by kernel_rfl)) (fun _ _ _ h => h) (Or.inl ⟨by rfl, ?_⟩) ?_ ?_
  rotate_left; (intro w'; go_simp; with_reducible rfl); rotate_left; (simp only [Act.put, List.setIfInBounds_toArray, List.set_cons_zero, List.set_cons_succ, i64_w, i32_w]; rfl)
  refine pure_ (i := 8) (N := some 36) (v := ?_) (a' := ?_) #[true, true, false, true, false, true, false, true, true, false, false, false, false, false, false, false, false] rfl rfl (any_of HT_.out (by kernel_rfl)) (fun _ _ _ h => h) (Or.inl ⟨by rfl, ?_⟩) ?_ ?_
  rotate_left; (intro w'; go_simp; with_reducible rfl); rotate_left; (simp only [Act.put, List.setIfInBounds_toArray, List.set_cons_zero, List.set_cons_succ, i64_w, i32_w]; rfl)
  refine pure_ (i := 10) (N := some 38) (v := ?_) (a' := ?_) #[true, true, false, true, false, true, false, true, true, false, true, false, false, false, false, false, false] rfl rfl (any_of HT_.out (by kernel_rfl)) (fun _ _ _ h => h) (Or.inl ⟨by rfl, ?_⟩) ?_ ?_
  rotate_left; (intro w'; go_simp; with_reducible rfl); rotate_left; (simp only [Act.put, List.setIfInBounds_toArray, List.set_cons_zero, List.set_cons_succ, i64_w, i32_w]; rfl)
  refine pure_ (i := 12) (N := some 40) (v := ?_) (a' := ?_) #[true, true, false, true, false, true, false, true, true, false, true, false, true, false, false, false, false] rfl rfl (any_of HT_.out (by kernel_rfl)) (fun _ _ _ h => h) (Or.inl ⟨by rfl, ?_⟩) ?_ ?_
  rotate_left; (intro w'; go_simp; with_reducible rfl); rotate_left; (simp only [Act.put, List.setIfInBounds_toArray, List.set_cons_zero, List.set_cons_succ, i64_w, i32_w]; rfl)
  refine take_ (i := 2) (N := some 30) (v := ?_) (a' := ?_) #[true, true, true, true, false, true, false, true, true, false, true, false, true, false, false, false, false] rfl rfl (take_ofW HT_.out HW_.out (by kernel_rfl)) (fun _ _ _ h => h) (Or.inl ⟨by rfl, ?_⟩) hHeld ?_ ?_
  rotate_left; (rintro w' ⟨s0, s1, s2, s3, s4⟩; go_simp; with_reducible rfl); rotate_left; (simp only [Act.put, List.setIfInBounds_toArray, List.set_cons_zero, List.set_cons_succ, i64_w, i32_w]; rfl)
  refine take_ (i := 4) (N := some 32) (v := ?_) (a' := ?_) #[true, true, true, true, true, true, false, true, true, false, true, false, true, false, false, false, false] rfl rfl (take_ofW HT_.out HW_.out (by kernel_rfl)) (fun _ _ _ h => h) (Or.inl ⟨by rfl, ?_⟩) hHeld ?_ ?_
  rotate_left; (rintro w' ⟨s0, s1, s2, s3, s4⟩; go_simp; with_reducible rfl); rotate_left; (simp only [Act.put, List.setIfInBounds_toArray, List.set_cons_zero, List.set_cons_succ, i64_w, i32_w]; rfl)
  refine take_ (i := 9) (N := some 37) (v := ?_) (a' := ?_) #[true, true, true, true, true, true, false, true, true, true, true, false, true, false, false, false, false] rfl rfl (take_ofW HT_.out HW_.out (by kernel_rfl)) (fun _ _ _ h => h) (Or.inl ⟨by rfl, ?_⟩) hHeld ?_ ?_
  rotate_left; (rintro w' ⟨s0, s1, s2, s3, s4⟩; go_simp; with_reducible rfl); rotate_left; (simp only [Act.put, List.setIfInBounds_toArray, List.set_cons_zero, List.set_cons_succ, i64_w, i32_w]; rfl)
  refine take_ (i := 11) (N := some 39) (v := ?_) (a' := ?_) #[true, true, true, true, true, true, false, true, true, true, true, true, true, false, false, false, false] rfl rfl (take_ofW HT_.out HW_.out (by kernel_rfl)) (fun _ _ _ h => h) (Or.inl ⟨by rfl, ?_⟩) hHeld ?_ ?_
  rotate_left; (rintro w' ⟨s0, s1, s2, s3, s4⟩; go_simp; with_reducible rfl); rotate_left; (simp only [Act.put, List.setIfInBounds_toArray, List.set_cons_zero, List.set_cons_succ, i64_w, i32_w]; rfl)
  refine take_ (i := 13) (N := some 41) (v := ?_) (a' := ?_) #[true, true, true, true, true, true, false, true, true, true, true, true, true, true, false, false, false] rfl rfl (take_ofW HT_.out HW_.out (by kernel_rfl)) (fun _ _ _ h => h) (Or.inl ⟨by rfl, ?_⟩) hHeld ?_ ?_
  rotate_left; (rintro w' ⟨s0, s1, s2, s3, s4⟩; go_simp; with_reducible rfl); rotate_left; (simp only [Act.put, List.setIfInBounds_toArray, List.set_cons_zero, List.set_cons_succ, i64_w, i32_w]; rfl)
  refine one_ (i := 6) (N := some 34) #[true, true, true, true, true, true, true, true, true, true, true, true, true, true, false, false, false] rfl rfl (one_of HT_.out (by kernel_rfl)) (by decide) (fun K hK => ?_)
  refine goes_ Try.func10 (by kernel_rfl) rfl #[.pointer p, .int .i64 d1, .int .i64 d2, .slice Ab x4.length cb] (by rfl) rfl rfl (by (try simp only [List.map_toArray, List.map_cons, List.map_nil]); first | done | rfl) ?_
  refine (HN.out _ HJ.out (Kd.F_now HFb.out) HCB.out).mono ?_
  rintro e w2 ⟨rfl, hj, hk⟩
  have HJ2 := Aside0.mk hj
  have HX2 := Aside0.mk ((hk.2 _ (.inr hBX)).trans HX.out)
  have HKP2 := Aside0.mk (HKP.out.trans (hk.mono (fun k h => .inl h)))
  have HBY2 := Aside0.mk (HBY.out.past (fun k hb => hk.2 k (.inr hb)))
  have HFx2 := Aside0.mk (Kd.F_step HFX.out (fun k h _ => hk.2 k (.inl (HOKX.out k h.1))))
  clear HJ HX HKP HBY HFX HFb hj hk
  have HJ := HJ2
  have HX := HX2
  have HKP := HKP2
  have HBY := HBY2
  have HFX := HFx2
  clear HJ2 HX2 HKP2 HBY2 HFx2
  refine ⟨_, rfl, ?_⟩
  refine hK.out _ _ ⟨(cells_at HX.out (j := 0) rfl).1, (cells_at HX.out (j := 1) rfl).1, (cells_at HX.out (j := 2) rfl).1, (cells_at HX.out (j := 3) rfl).1, (cells_at HX.out (j := 4) rfl).1⟩ (fun hHeld => ?_)
  clear hK K
  refine norm_ (a' := ?_) ?_ ?_
  rotate_left; (show Act.put _ (some 34) _ = _; simp only [Act.put, List.setIfInBounds_toArray, List.set_cons_zero, List.set_cons_succ, i64_w, i32_w]; rfl)
  refine one_ (i := 14) (N := some 42) #[true, true, true, true, true, true, true, true, true, true, true, true, true, true, true, false, false] rfl rfl (one_of HT_.out (by kernel_rfl)) (by decide) (fun K hK => ?_)
  refine goes_ Try.func36 (by kernel_rfl) rfl #[.pointer (some ⟨g, 0, none⟩), .int .i64 d1, .int .i64 d2, .slice A4 x4.length c4] (by rfl) rfl rfl (by (try simp only [List.map_toArray, List.map_cons, List.map_nil]); first | done | rfl) ?_
  refine (HM.out _ _ HJ.out (Kd.F_now HFX.out)).mono ?_
  rintro e w2 ⟨rfl, hj, hk⟩
  have HJ2 := Aside0.mk hj
  have HX2 := Aside0.mk ((hk.2 _ (.inr hBX)).trans HX.out)
  have HKP2 := Aside0.mk (HKP.out.trans (hk.mono (fun k h => .inl h)))
  have HBY2 := Aside0.mk (HBY.out.past (fun k hb => hk.2 k (.inr hb)))
  clear HJ HX HKP HBY HFX hj hk
  have HJ := HJ2
  have HX := HX2
  have HKP := HKP2
  have HBY := HBY2
  clear HJ2 HX2 HKP2 HBY2
  refine ⟨_, rfl, ?_⟩
  refine hK.out _ _ ⟨(cells_at HX.out (j := 0) rfl).1, (cells_at HX.out (j := 1) rfl).1, (cells_at HX.out (j := 2) rfl).1, (cells_at HX.out (j := 3) rfl).1, (cells_at HX.out (j := 4) rfl).1⟩ (fun hHeld => ?_)
  clear hK K
  refine norm_ (a' := ?_) ?_ ?_
  rotate_left; (show Act.put _ (some 42) _ = _; simp only [Act.put, List.setIfInBounds_toArray, List.set_cons_zero, List.set_cons_succ, i64_w, i32_w]; rfl)
  refine pure_ (i := 15) (N := some 43) (v := ?_) (a' := ?_) #[true, true, true, true, true, true, true, true, true, true, true, true, true, true, true, true, false] rfl rfl (any_of HT_.out (by kernel_rfl)) (fun _ _ _ h => h) (Or.inl ⟨by rfl, ?_⟩) ?_ ?_
  rotate_left; (intro w'; go_simp; with_reducible rfl); rotate_left; (simp only [Act.put, List.setIfInBounds_toArray, List.set_cons_zero, List.set_cons_succ, i64_w, i32_w]; rfl)
  refine pure_ (i := 16) (N := some 8) (v := ?_) (a' := ?_) #[true, true, true, true, true, true, true, true, true, true, true, true, true, true, true, true, true] rfl rfl (any_of HT_.out (by kernel_rfl)) (fun _ _ _ h => h) (Or.inl ⟨by rfl, ?_⟩) ?_ ?_
  rotate_left; (intro w'; go_simp; with_reducible rfl); rotate_left; (simp only [Act.put, List.setIfInBounds_toArray, List.set_cons_zero, List.set_cons_succ, i64_w, i32_w]; rfl)
  refine done_ (done_of HT_.out (by kernel_rfl)) ?_
  go_wp2
  go_loopg [9] x4.length (fun gk v9 Wc => ∃ i : Nat, v9 = .int .i64 i ∧ i + gk = x4.length ∧ Aside0 (J w Wc p (sendN n d1 d2 x4) g (rsendN m d1 d2 x4) fp0 fr0 Q BB) ∧ Aside0 (BytesOf Wc Ab x4.length BB W.heap.size) ∧ Aside0 (Keeps Q W Wc))
  case atStart => exact ⟨0, rfl, by omega, HJ, HBY, HKP⟩
  case round =>
    clear HJ HBY HKP
    obtain ⟨i, rfl, hig, HJ, HBY, HKP⟩ := hrel
    by_cases hlt : i < x4.length
    · obtain ⟨gb, cs, rfl, hgB, _, hblk, hcs⟩ := HBY.out (by omega)
      obtain ⟨v, hv⟩ := hcs i hlt
      have hc := cells_at hblk hv
      obtain ⟨y0, y1⟩ := hc
      have hlt' : (i : Int) < (x4.length : Int) := by omega
      have hq : wrap64 ((i : Int) + 1) = (i : Int) + 1 := by unfold maxLen at hx4; unfold wrap64; omega
      have HC := Aside0.mk (And.intro hgB (And.intro hblk hcs))
      clear hblk hcs hv
      obtain ⟨k1, rfl⟩ : ∃ k1, gk = k1 + 1 := ⟨gk - 1, by omega⟩
      go_wp2
      go_roundg k1
      case measure => omega
      case rel => exact ⟨i + 1, rfl, by omega, ⟨HJ.out.set HC.out.1 _⟩, ⟨HBY.out.set i _⟩, ⟨HKP.out.set_far HQB.out HC.out.1 _⟩⟩
    · obtain rfl : i = x4.length := by omega
      have hd : decide ((x4.length : Int) < (x4.length : Int)) = false := by simp
      go_wp2
      go_ret
      exact ⟨rfl, HJ.out.weak (fun k hk => .inl hk) (fun k hk => hk.elim), HKP.out⟩

theorem wrap_small {i k : Nat} (h : i < k) (hk : k ≤ 16384) : wrap64 ((i : Int) + 1) = (i : Int) + 1 := by unfold wrap64; omega
theorem same_self (a b : Int) (l : List Int) : scrivenerref05_Same.f a b l a b l = some true := by
  unfold scrivenerref05_Same.f
  rw [if_pos rfl, if_pos rfl]
  simp

set_option maxHeartbeats 8000000 in
set_option maxRecDepth 100000 in
theorem act8_c {w W : World} {p : Option Addr} {n : NetS} {g : Nat} {m : RefS} {fp0 fr0 Q okx : Nat → Prop} {K : Nat} (h : J w W p n g m fp0 fr0 Q (fun _ => False)) (hR : Rel n m K) (hK : K < 9000) (d1 d2 d3 : Int) (A4 : Option Addr) (c4 : Nat) (x4 : List Int) (hF : Kd.F (Kd.int .u8) W okx A4 x4.length x4) (hok : ∀ k, okx k → Q k) (hc4 : x4.length ≤ c4) :
    Calls Try.prog 22 #[.pointer p, .pointer (some ⟨g, 0, none⟩), .agg #[.int .i64 8, .int .i64 d1, .int .i64 d2, .int .i64 d3, .slice A4 x4.length c4]] W fun e W' => e = .returned (.bool true) ∧ J w W' p (n) g (m) fp0 fr0 Q (fun _ => False) ∧ Keeps Q W W' := by
  have HQL := Aside0.mk (act_size h)
  have HJ := Aside0.mk (h.alloc (.cells #[.int .i64 8, .int .i64 d1, .int .i64 d2, .int .i64 d3, .slice A4 x4.length c4] 41))
  have HX := Aside0.mk (heap_alloc_new W (.cells #[.int .i64 8, .int .i64 d1, .int .i64 d2, .int .i64 d3, .slice A4 x4.length c4] 41))
  have HKP := Aside0.mk (show Keeps Q W (W.alloc (.cells #[.int .i64 8, .int .i64 d1, .int .i64 d2, .int .i64 d3, .slice A4 x4.length c4] 41)) from ⟨by simp, fun k hk => Below.heap_alloc W _ k (HQL.out k hk)⟩)
  have hBX : (fun k => (fun _ : Nat => False) k ∨ k = W.heap.size) W.heap.size := .inr rfl
  have HQD := Aside0.mk (show ∀ k, Q k → ¬ (fun k => (fun _ : Nat => False) k ∨ k = W.heap.size) k from fun k hk hb => by
    have := HQL.out k hk
    rcases hb with h | h
    · exact h
    · omega)
  obtain ⟨B0, hB0⟩ : ∃ B0 : Nat → Prop, B0 = fun k => (fun _ : Nat => False) k ∨ k = W.heap.size := ⟨_, rfl⟩
  rw [← hB0] at HJ hBX HQD
  clear hB0
  have HBG := Aside0.mk (show m.Bag.length ≤ 1000000 from Nat.le_trans hR.bag (by decide))
  obtain ⟨M, hM1, hM2⟩ : ∃ M, atM n d3 = M ∧ ratM m d3 = M := ⟨_, rfl, (hR.atM_ d3).symm⟩
  obtain ⟨e1, he1, he2⟩ : ∃ e1, atE n d3 = e1 ∧ ratE m d3 = e1 := ⟨_, rfl, (hR.atE_ d3).symm⟩
  have hlen : M.f2.length ≤ 16384 := hM1 ▸ hR.good.at d3
  have hat := fun (W' : World) {B : Nat → Prop} (hj : J w W' p n g m fp0 fr0 Q B) => hj.at_ d3
  have hrat := fun (W' : World) (n2 : NetS) {B : Nat → Prop} (hj : J w W' p n2 g m fp0 fr0 Q B) => hj.rat_ d3
  rw [hM1, he1] at hat
  rw [hM2, he2] at hrat
  have HAT := Aside0.mk @hat
  have HRAT := Aside0.mk @hrat
  have HLEN := Aside0.mk hlen

  clear h hR hF hok hat hrat hM1 hM2 he1 he2 hlen
  go_enter Try.func22, Try.ntmps22
  go_wp2_with (first
    | (go_at_call 16; refine (HAT.out _ HJ.out).mono ?_; rintro e w2 ⟨A, c, rfl, q, hRr, hc, hqb, hj, hk⟩; obtain ⟨B1, hj1, hd1, hsub1, hnew1⟩ := hj.allocD (disj_more HQD.out HJ.out.lt (fun k h => Or.imp id (hqb k) h)) (.cells #[.int .i64 M.f0, .int .i64 M.f1, .slice A M.f2.length c] 33); have HJ2 := Aside0.mk hj1; have HQD2 := Aside0.mk hd1; have HBq := Aside0.mk (fun k h => hsub1 k (.inr h)); have hBX2 := hsub1 _ (.inl hBX); have HBA := Aside0.mk hnew1; have HX2 := Aside0.mk (blk_alloc ((hk.2 _ (.inr hBX)).trans HX.out) (.cells #[.int .i64 M.f0, .int .i64 M.f1, .slice A M.f2.length c] 33)); have HKP2 := Aside0.mk ((HKP.out.trans (hk.mono (fun k h => .inl h))).trans (Keeps.alloc _ _ (.cells #[.int .i64 M.f0, .int .i64 M.f1, .slice A M.f2.length c] 33) (act_size hj))); have HA := Aside0.mk (heap_alloc_new w2 (.cells #[.int .i64 M.f0, .int .i64 M.f1, .slice A M.f2.length c] 33)); have HRr := Aside0.mk (Kd.R_alloc (Kd.R_bound hRr) (.cells #[.int .i64 M.f0, .int .i64 M.f1, .slice A M.f2.length c] 33)); clear hRr hj hk hqb hBX hnew1 hd1 hj1 hsub1; have hBX := hBX2; clear hBX2; clear HX; have HX := HX2; clear HX2; clear HKP; have HKP := HKP2; clear HKP2; clear HQD; have HQD := HQD2; clear HQD2; clear HJ; have HJ := HJ2; clear HJ2; obtain ⟨z0, _⟩ := cells_at HX.out (j := 0) rfl; obtain ⟨z3, _⟩ := cells_at HX.out (j := 3) rfl)
    | (go_at_call 37; refine (HRAT.out _ _ HJ.out).mono ?_; rintro e w3 ⟨A', c', rfl, hc', ⟨ok, hF', hok'⟩, hb⟩; obtain ⟨B2, hj2, hd2, hsub2, hnew2⟩ := (HJ.out.past hb).allocD HQD.out (.cells #[.int .i64 M.f0, .int .i64 M.f1, .slice A' M.f2.length c'] 33); have HJ2 := Aside0.mk hj2; have HQD2 := Aside0.mk hd2; have HBq2 := Aside0.mk (fun k h => hsub2 k (HBq.out k h)); have HBA2 := Aside0.mk (hsub2 _ HBA.out); have HBB := Aside0.mk hnew2; have hBX2 := hsub2 _ hBX; clear hBX hj2 hd2 hsub2 hnew2; have hBX := hBX2; clear hBX2; have HX2 := Aside0.mk (blk_alloc (blk_below HX.out hb) (.cells #[.int .i64 M.f0, .int .i64 M.f1, .slice A' M.f2.length c'] 33)); have HKP2 := Aside0.mk (HKP.out.trans (Keeps.trans ⟨hb.size, fun k hk => hb.block k (act_size HJ.out k hk)⟩ (Keeps.alloc _ _ (.cells #[.int .i64 M.f0, .int .i64 M.f1, .slice A' M.f2.length c'] 33) (act_size (HJ.out.past hb))))); have HA2 := Aside0.mk (blk_alloc (blk_below HA.out hb) (.cells #[.int .i64 M.f0, .int .i64 M.f1, .slice A' M.f2.length c'] 33)); have HBb := Aside0.mk (heap_alloc_new w3 (.cells #[.int .i64 M.f0, .int .i64 M.f1, .slice A' M.f2.length c'] 33)); have HRr2 := Aside0.mk (Kd.R_alloc (Kd.R_below HRr.out hb) (.cells #[.int .i64 M.f0, .int .i64 M.f1, .slice A' M.f2.length c'] 33)); have HFb := Aside0.mk (Kd.F_alloc hF' (.cells #[.int .i64 M.f0, .int .i64 M.f1, .slice A' M.f2.length c'] 33)); clear hF' hb; clear HX; have HX := HX2; clear HX2; clear HKP; have HKP := HKP2; clear HKP2; clear HA; have HA := HA2; clear HA2; clear HRr; have HRr := HRr2; clear HRr2; clear HQD; have HQD := HQD2; clear HQD2; clear HBq; have HBq := HBq2; clear HBq2; clear HBA; have HBA := HBA2; clear HBA2; clear HJ z0 z3; have HJ := HJ2; clear HJ2; obtain ⟨z0, _⟩ := cells_at HX.out (j := 0) rfl; obtain ⟨z3, _⟩ := cells_at HX.out (j := 3) rfl; obtain ⟨a0, _⟩ := cells_at HA.out (j := 0) rfl; obtain ⟨a1, _⟩ := cells_at HA.out (j := 1) rfl; obtain ⟨a2, _⟩ := cells_at HA.out (j := 2) rfl)
    | (go_at_call 31; refine (scrivenerref05_Same.calls M.f0 M.f1 A c M.f2 M.f0 M.f1 A' c' M.f2 true _ (Kd.R_reads' HRr.out).2.2 hc (Kd.F_now HFb.out) hc' (same_self _ _ _)).mono ?_; rintro e w9 ⟨rfl, hb⟩; have HJ2 := Aside0.mk (HJ.out.past hb); have HA2 := Aside0.mk (blk_below HA.out hb); have HKP2 := Aside0.mk (HKP.out.trans ⟨hb.size, fun k hk => hb.block k (act_size HJ.out k hk)⟩); have HRr2 := Aside0.mk (Kd.R_below HRr.out hb); clear hb HFb HBb HX; clear HKP; have HKP := HKP2; clear HKP2; clear HA; have HA := HA2; clear HA2; clear HRr; have HRr := HRr2; clear HRr2; clear HJ; have HJ := HJ2; clear HJ2))
  have HFIN : Aside0 (∃ BB : Nat → Prop, J w w9 p n g m fp0 fr0 Q BB ∧ BytesOf w9 A M.f2.length BB w2.heap.size ∧ BB w2.heap.size ∧ ∀ k, Q k → ¬ BB k) := ⟨_, HJ.out, (R_bytes HRr.out w2.heap.size (fun k hk => by have := hk.2.2.1; omega)).mono (fun k hk => HBq.out k hk.1), HBA.out, HQD.out⟩
  clear HJ
  generalize w2.heap.size = ba at *
  obtain ⟨BB, hBB⟩ : ∃ BB : Nat → Prop, J w w9 p (n) g (m) fp0 fr0 Q BB ∧ BytesOf w9 A M.f2.length BB ba ∧ BB ba ∧ ∀ k, Q k → ¬ BB k := HFIN.out
  have HJ := Aside0.mk hBB.1
  have HBY := Aside0.mk hBB.2.1
  have HBA := Aside0.mk hBB.2.2.1
  have HQB := Aside0.mk hBB.2.2.2
  clear hBB HFIN
  go_loopg [15] M.f2.length (fun gk v15 Wc => ∃ i : Nat, v15 = .int .i64 i ∧ i + gk = M.f2.length ∧ Aside0 (J w Wc p (n) g (m) fp0 fr0 Q BB) ∧ Aside0 (BytesOf Wc A M.f2.length BB ba) ∧ Aside0 (Wc.heap[ba]? = some (.cells #[.int .i64 M.f0, .int .i64 M.f1, .slice A M.f2.length c] 33 (0, 0))) ∧ Aside0 (Keeps Q W Wc))
  case atStart => exact ⟨0, rfl, by omega, HJ, HBY, HA, HKP⟩
  case round =>
    clear HJ HBY HKP HA
    obtain ⟨i, rfl, hig, HJ, HBY, HA, HKP⟩ := hrel
    obtain ⟨a2, _⟩ := cells_at HA.out (j := 2) rfl
    by_cases hlt : i < M.f2.length
    · obtain ⟨gb, cs, rfl, hgB, hne, hblk, hcs⟩ := HBY.out (by omega)
      obtain ⟨v, hv⟩ := hcs i hlt
      obtain ⟨y0, y1⟩ := cells_at hblk hv
      have hlt' : (i : Int) < (M.f2.length : Int) := by omega
      have hq : wrap64 ((i : Int) + 1) = (i : Int) + 1 := wrap_small hlt HLEN.out
      have HQW := Aside0.mk hq
      have HC := Aside0.mk (And.intro hgB (And.intro hblk hne))
      clear hblk hcs hv
      obtain ⟨k1, rfl⟩ : ∃ k1, gk = k1 + 1 := ⟨gk - 1, by omega⟩
      have HIG := Aside0.mk (show (i + 1) + k1 = M.f2.length by rw [Nat.add_assoc, Nat.add_comm 1 k1]; exact hig)
      clear hig
      go_wp2
      go_roundg k1
      case measure => exact Nat.lt_succ_self _
      case rel => exact ⟨i + 1, by first | rfl | (rw [HQW.out]; rfl), HIG.out, ⟨HJ.out.set HC.out.1 _⟩, ⟨HBY.out.set i _⟩, ⟨blk_far HA.out (fun e => HC.out.2.2 e.symm) _⟩, ⟨HKP.out.set_far HQB.out HC.out.1 _⟩⟩
    · have hi : i = M.f2.length := by omega
      subst hi
      have hd : decide ((M.f2.length : Int) < (M.f2.length : Int)) = false := by simp
      go_wp2
      go_ret
      exact ⟨rfl, HJ.out.weak (fun k hk => .inl hk) (fun k hk => hk.elim), HKP.out⟩

set_option maxHeartbeats 8000000 in
set_option maxRecDepth 100000 in
theorem act1_c {w W : World} {p : Option Addr} {n : NetS} {g : Nat} {m : RefS} {fp0 fr0 Q okx : Nat → Prop} {K : Nat} (h : J w W p n g m fp0 fr0 Q (fun _ => False)) (hR : Rel n m K) (hK : K < 9000) (d1 d2 d3 : Int) (A4 : Option Addr) (c4 : Nat) (x4 : List Int) (hF : Kd.F (Kd.int .u8) W okx A4 x4.length x4) (hok : ∀ k, okx k → Q k) (hc4 : x4.length ≤ c4) :
    Calls Try.prog 22 #[.pointer p, .pointer (some ⟨g, 0, none⟩), .agg #[.int .i64 1, .int .i64 d1, .int .i64 d2, .int .i64 d3, .slice A4 x4.length c4]] W fun e W' => e = .returned (.bool true) ∧ J w W' p (dlvN n d3) g (rdlvN m d3) fp0 fr0 Q (fun _ => False) ∧ Keeps Q W W' := by
  have HQL := Aside0.mk (act_size h)
  have HJ := Aside0.mk (h.alloc (.cells #[.int .i64 1, .int .i64 d1, .int .i64 d2, .int .i64 d3, .slice A4 x4.length c4] 41))
  have HX := Aside0.mk (heap_alloc_new W (.cells #[.int .i64 1, .int .i64 d1, .int .i64 d2, .int .i64 d3, .slice A4 x4.length c4] 41))
  have HKP := Aside0.mk (show Keeps Q W (W.alloc (.cells #[.int .i64 1, .int .i64 d1, .int .i64 d2, .int .i64 d3, .slice A4 x4.length c4] 41)) from ⟨by simp, fun k hk => Below.heap_alloc W _ k (HQL.out k hk)⟩)
  have hBX : (fun k => (fun _ : Nat => False) k ∨ k = W.heap.size) W.heap.size := .inr rfl
  have HQD := Aside0.mk (show ∀ k, Q k → ¬ (fun k => (fun _ : Nat => False) k ∨ k = W.heap.size) k from fun k hk hb => by
    have := HQL.out k hk
    rcases hb with h | h
    · exact h
    · omega)
  obtain ⟨B0, hB0⟩ : ∃ B0 : Nat → Prop, B0 = fun k => (fun _ : Nat => False) k ∨ k = W.heap.size := ⟨_, rfl⟩
  rw [← hB0] at HJ hBX HQD
  clear hB0
  have HBG := Aside0.mk (show m.Bag.length ≤ 1000000 from Nat.le_trans hR.bag (by decide))
  obtain ⟨M, hM1, hM2⟩ : ∃ M, atM n d3 = M ∧ ratM m d3 = M := ⟨_, rfl, (hR.atM_ d3).symm⟩
  obtain ⟨e1, he1, he2⟩ : ∃ e1, atE n d3 = e1 ∧ ratE m d3 = e1 := ⟨_, rfl, (hR.atE_ d3).symm⟩
  have hlen : M.f2.length ≤ 16384 := hM1 ▸ hR.good.at d3
  have hat := fun (W' : World) {B : Nat → Prop} (hj : J w W' p n g m fp0 fr0 Q B) => hj.at_ d3
  have hrat := fun (W' : World) (n2 : NetS) {B : Nat → Prop} (hj : J w W' p n2 g m fp0 fr0 Q B) => hj.rat_ d3
  rw [hM1, he1] at hat
  rw [hM2, he2] at hrat
  have HAT := Aside0.mk @hat
  have HRAT := Aside0.mk @hrat
  have HLEN := Aside0.mk hlen

  obtain ⟨M2, hM3, hM4⟩ : ∃ M2, dlvM n d3 = M2 ∧ rdlvM m d3 = M2 := ⟨_, rfl, (hR.dlvM_ d3).symm⟩
  obtain ⟨e2, he3, he4⟩ : ∃ e2, dlvE n d3 = e2 ∧ rdlvE m d3 = e2 := ⟨_, rfl, (hR.dlvE_ d3).symm⟩
  have hlen2 : M2.f2.length ≤ 16384 := by
    rw [← hM3]
    unfold dlvM
    split
    · exact hR.good.at d3
    · exact Nat.zero_le _
  have hdlv := fun (W' : World) {B : Nat → Prop} (hj : J w W' p n g m fp0 fr0 Q B) => hj.dlv_ d3
  have hrdlv := fun (W' : World) (n2 : NetS) {B : Nat → Prop} (hj : J w W' p n2 g m fp0 fr0 Q B) => hj.rdlv_ HBG.out d3
  rw [hM3, he3] at hdlv
  rw [hM4, he4] at hrdlv
  have HDLV := Aside0.mk @hdlv
  have HRDLV := Aside0.mk @hrdlv
  clear HLEN
  have HLEN := Aside0.mk hlen2
  clear h hR hF hok hat hrat hdlv hrdlv hM1 hM2 hM3 hM4 he1 he2 he3 he4 hlen hlen2
  go_enter Try.func22, Try.ntmps22
  go_wp2_with (first
    | (go_at_call 16; refine (HAT.out _ HJ.out).mono ?_; rintro e w2 ⟨A, c, rfl, q, hRr, hc, hqb, hj, hk⟩; obtain ⟨B1, hj1, hd1, hsub1, hnew1⟩ := hj.allocD (disj_more HQD.out HJ.out.lt (fun k h => Or.imp id (hqb k) h)) (.cells #[.int .i64 M.f0, .int .i64 M.f1, .slice A M.f2.length c] 33); have HJ2 := Aside0.mk hj1; have HQD2 := Aside0.mk hd1; have HBq := Aside0.mk (fun k h => hsub1 k (.inr h)); have hBX2 := hsub1 _ (.inl hBX); have HBA := Aside0.mk hnew1; have HX2 := Aside0.mk (blk_alloc ((hk.2 _ (.inr hBX)).trans HX.out) (.cells #[.int .i64 M.f0, .int .i64 M.f1, .slice A M.f2.length c] 33)); have HKP2 := Aside0.mk ((HKP.out.trans (hk.mono (fun k h => .inl h))).trans (Keeps.alloc _ _ (.cells #[.int .i64 M.f0, .int .i64 M.f1, .slice A M.f2.length c] 33) (act_size hj))); have HA := Aside0.mk (heap_alloc_new w2 (.cells #[.int .i64 M.f0, .int .i64 M.f1, .slice A M.f2.length c] 33)); have HRr := Aside0.mk (Kd.R_alloc (Kd.R_bound hRr) (.cells #[.int .i64 M.f0, .int .i64 M.f1, .slice A M.f2.length c] 33)); clear hRr hj hk hqb hBX hnew1 hd1 hj1 hsub1; have hBX := hBX2; clear hBX2; clear HX; have HX := HX2; clear HX2; clear HKP; have HKP := HKP2; clear HKP2; clear HQD; have HQD := HQD2; clear HQD2; clear HJ; have HJ := HJ2; clear HJ2; obtain ⟨z0, _⟩ := cells_at HX.out (j := 0) rfl; obtain ⟨z3, _⟩ := cells_at HX.out (j := 3) rfl)
    | (go_at_call 37; refine (HRAT.out _ _ HJ.out).mono ?_; rintro e w3 ⟨A', c', rfl, hc', ⟨ok, hF', hok'⟩, hb⟩; obtain ⟨B2, hj2, hd2, hsub2, hnew2⟩ := (HJ.out.past hb).allocD HQD.out (.cells #[.int .i64 M.f0, .int .i64 M.f1, .slice A' M.f2.length c'] 33); have HJ2 := Aside0.mk hj2; have HQD2 := Aside0.mk hd2; have HBq2 := Aside0.mk (fun k h => hsub2 k (HBq.out k h)); have HBA2 := Aside0.mk (hsub2 _ HBA.out); have HBB := Aside0.mk hnew2; have hBX2 := hsub2 _ hBX; clear hBX hj2 hd2 hsub2 hnew2; have hBX := hBX2; clear hBX2; have HX2 := Aside0.mk (blk_alloc (blk_below HX.out hb) (.cells #[.int .i64 M.f0, .int .i64 M.f1, .slice A' M.f2.length c'] 33)); have HKP2 := Aside0.mk (HKP.out.trans (Keeps.trans ⟨hb.size, fun k hk => hb.block k (act_size HJ.out k hk)⟩ (Keeps.alloc _ _ (.cells #[.int .i64 M.f0, .int .i64 M.f1, .slice A' M.f2.length c'] 33) (act_size (HJ.out.past hb))))); have HA0 := Aside0.mk (blk_below HA.out hb); have HA2 := Aside0.mk (blk_alloc (blk_below HA.out hb) (.cells #[.int .i64 M.f0, .int .i64 M.f1, .slice A' M.f2.length c'] 33)); have HBb := Aside0.mk (heap_alloc_new w3 (.cells #[.int .i64 M.f0, .int .i64 M.f1, .slice A' M.f2.length c'] 33)); have HRr2 := Aside0.mk (Kd.R_alloc (Kd.R_below HRr.out hb) (.cells #[.int .i64 M.f0, .int .i64 M.f1, .slice A' M.f2.length c'] 33)); have HFb := Aside0.mk (Kd.F_alloc hF' (.cells #[.int .i64 M.f0, .int .i64 M.f1, .slice A' M.f2.length c'] 33)); clear hF' hb; clear HX; have HX := HX2; clear HX2; clear HKP; have HKP := HKP2; clear HKP2; clear HA; have HA := HA2; clear HA2; clear HRr; have HRr := HRr2; clear HRr2; clear HQD; have HQD := HQD2; clear HQD2; clear HBq; have HBq := HBq2; clear HBq2; clear HBA; have HBA := HBA2; clear HBA2; have HNB := Aside0.mk (show w3.heap.size ≠ w2.heap.size from fun e => by have h1 := blk_lt HA0.out; omega); clear HJ z0 z3 HA0; have HJ := HJ2; clear HJ2; obtain ⟨z0, _⟩ := cells_at HX.out (j := 0) rfl; obtain ⟨z3, _⟩ := cells_at HX.out (j := 3) rfl; obtain ⟨a0, _⟩ := cells_at HA.out (j := 0) rfl; obtain ⟨a1, _⟩ := cells_at HA.out (j := 1) rfl; obtain ⟨a2, _⟩ := cells_at HA.out (j := 2) rfl)
    | (go_at_call 12; refine (HDLV.out _ HJ.out).mono ?_; rintro e w4 ⟨A2, c2, rfl, q2, hRr2, hc2, hqb2, hj, hk⟩; have hA4 := (hk.2 _ (.inr HBA.out)).trans HA.out; have hb4 := (hk.2 _ (.inr HBB.out)).trans HBb.out; have hx4 := (hk.2 _ (.inr hBX)).trans HX.out; have hn1 := blk_lt HA.out; have hn2 := blk_lt HBb.out; have F4 := put3_fr (w4 := w4) (b := w2.heap.size) (.int .i64 M2.f0) (.int .i64 M2.f1) (.slice A2 M2.f2.length c2); have hnx : W.heap.size ≠ w2.heap.size := blk_ne hx4 hA4 (by decide); have hnb : w3.heap.size ≠ w2.heap.size := HNB.out; have HA2 := Aside0.mk (box_put3 hA4 (.int .i64 M2.f0) (.int .i64 M2.f1) (.slice A2 M2.f2.length c2)); have HX2 := Aside0.mk ((F4.block _ (blk_lt hx4) hnx).trans hx4); have HBb2 := Aside0.mk ((F4.block _ (blk_lt hb4) hnb).trans hb4); have HJ2 := Aside0.mk (((hj.set (a := ⟨w2.heap.size, 0, none⟩) (.inl HBA.out) (.int .i64 M2.f0)).set (a := ⟨w2.heap.size, 1, none⟩) (.inl HBA.out) (.int .i64 M2.f1)).set (a := ⟨w2.heap.size, 2, none⟩) (.inl HBA.out) (.slice A2 M2.f2.length c2)); have HKP2 := Aside0.mk ((((HKP.out.trans (hk.mono (fun k h => .inl h))).set_far HQD.out (a := ⟨w2.heap.size, 0, none⟩) HBA.out (.int .i64 M2.f0)).set_far HQD.out (a := ⟨w2.heap.size, 1, none⟩) HBA.out (.int .i64 M2.f1)).set_far HQD.out (a := ⟨w2.heap.size, 2, none⟩) HBA.out (.slice A2 M2.f2.length c2)); have HRr2 := Aside0.mk (Kd.R_step (Kd.R_bound hRr2) (fun k hk hlt => F4.block k hlt (fun e => by have := hk.2.1; omega))); have HQD2 := Aside0.mk (disj_more HQD.out HJ.out.lt (fun k h => Or.imp id (hqb2 k) h)); have y0 := (cells_at hA4 (j := 0) rfl).1; have x0 := (cells_at hA4 (j := 0) rfl).2; have y1 := (cells_at hA4 (j := 1) rfl).1; have x1 := (cells_at hA4 (j := 1) rfl).2; have y2 := (cells_at hA4 (j := 2) rfl).1; have x2 := (cells_at hA4 (j := 2) rfl).2; have HLT := Aside0.mk (And.intro hn1 hn2); clear z0 z3 a0 a1 a2; obtain ⟨z3, _⟩ := cells_at HX2.out (j := 3) rfl; clear hRr2 hqb2 hj hk hA4 hb4 hx4 hn1 hn2 F4 hnx hnb HX HKP HA HJ HRr HQD HBb HBq; have HX := HX2; have HKP := HKP2; have HA := HA2; have HJ := HJ2; have HRr := HRr2; have HQD := HQD2; have HBb := HBb2; clear HX2 HKP2 HA2 HJ2 HRr2 HQD2 HBb2)
    | (go_at_call 38; refine (HRDLV.out _ _ HJ.out).mono ?_; rintro e w5 ⟨A3, c3, rfl, hc3, ⟨ok3, hF3, hok3⟩, hj, hk⟩; clear y0 y1 y2 x0 x1 x2 z3; have hA5 := (hk.2 _ (.inr (.inl HBA.out))).trans HA.out; have hb5 := (hk.2 _ (.inr (.inl HBB.out))).trans HBb.out; have F5 := put3_fr (w4 := w5) (b := w3.heap.size) (.int .i64 M2.f0) (.int .i64 M2.f1) (.slice A3 M2.f2.length c3); have HA2 := Aside0.mk ((F5.block _ (blk_lt hA5) (fun e => HNB.out e.symm)).trans hA5); have HB2 := Aside0.mk (box_put3 hb5 (.int .i64 M2.f0) (.int .i64 M2.f1) (.slice A3 M2.f2.length c3)); have HJ2 := Aside0.mk (((hj.set (a := ⟨w3.heap.size, 0, none⟩) (.inl HBB.out) (.int .i64 M2.f0)).set (a := ⟨w3.heap.size, 1, none⟩) (.inl HBB.out) (.int .i64 M2.f1)).set (a := ⟨w3.heap.size, 2, none⟩) (.inl HBB.out) (.slice A3 M2.f2.length c3)); have HKP2 := Aside0.mk ((((HKP.out.trans (hk.mono (fun k h => .inl h))).set_far HQD.out (a := ⟨w3.heap.size, 0, none⟩) (.inl HBB.out) (.int .i64 M2.f0)).set_far HQD.out (a := ⟨w3.heap.size, 1, none⟩) (.inl HBB.out) (.int .i64 M2.f1)).set_far HQD.out (a := ⟨w3.heap.size, 2, none⟩) (.inl HBB.out) (.slice A3 M2.f2.length c3)); have HRr2 := Aside0.mk (Kd.R_step (Kd.R_step HRr.out (fun k h hlt => hk.2 k (.inr (.inr h.1)))) (fun k h hlt => F5.block k hlt (fun e => by have := h.2.1; have := HLT.out; omega))); have HFb2 := Aside0.mk (Kd.F_step hF3 (fun k h hlt => F5.block k hlt (fun e => (hok3 k h).1 (e ▸ .inl HBB.out)))); have y0 := (cells_at hb5 (j := 0) rfl).1; have x0 := (cells_at hb5 (j := 0) rfl).2; have y1 := (cells_at hb5 (j := 1) rfl).1; have x1 := (cells_at hb5 (j := 1) rfl).2; have y2 := (cells_at hb5 (j := 2) rfl).1; have x2 := (cells_at hb5 (j := 2) rfl).2; obtain ⟨a0, _⟩ := cells_at HA2.out (j := 0) rfl; obtain ⟨a1, _⟩ := cells_at HA2.out (j := 1) rfl; obtain ⟨a2, _⟩ := cells_at HA2.out (j := 2) rfl; obtain ⟨b0, _⟩ := cells_at HB2.out (j := 0) rfl; obtain ⟨b1, _⟩ := cells_at HB2.out (j := 1) rfl; obtain ⟨b2, _⟩ := cells_at HB2.out (j := 2) rfl; clear hj hk hA5 hb5 F5 HKP HA HJ HRr HBb HX HFb hok3 hF3; have HKP := HKP2; have HA := HA2; have HJ := HJ2; have HRr := HRr2; have HFb := HFb2; have HBb := HB2; have HX := HB2; clear HKP2 HA2 HJ2 HRr2 HFb2 HB2)
    | (go_at_call 31; refine (scrivenerref05_Same.calls M2.f0 M2.f1 A2 c2 M2.f2 M2.f0 M2.f1 A3 c3 M2.f2 true _ (Kd.R_reads' HRr.out).2.2 hc2 (Kd.F_now HFb.out) hc3 (same_self _ _ _)).mono ?_; rintro e w9 ⟨rfl, hb⟩; have HJ2 := Aside0.mk (HJ.out.past hb); have HA2 := Aside0.mk (blk_below HA.out hb); have HKP2 := Aside0.mk (HKP.out.trans ⟨hb.size, fun k hk => hb.block k (act_size HJ.out k hk)⟩); have HRr2 := Aside0.mk (Kd.R_below HRr.out hb); clear hb HFb HBb HX; clear HKP; have HKP := HKP2; clear HKP2; clear HA; have HA := HA2; clear HA2; clear HRr; have HRr := HRr2; clear HRr2; clear HJ; have HJ := HJ2; clear HJ2))
  have HFIN : Aside0 (∃ BB : Nat → Prop, J w w9 p (dlvN n d3) g (rdlvN m d3) fp0 fr0 Q BB ∧ BytesOf w9 A2 M2.f2.length BB w2.heap.size ∧ BB w2.heap.size ∧ ∀ k, Q k → ¬ BB k) := ⟨_, HJ.out, (R_bytes HRr.out w2.heap.size (fun k hk => by have := hk.2.1; have := HLT.out; omega)).mono (fun k hk => .inr hk.1), .inl HBA.out, HQD.out⟩
  clear HJ
  generalize w2.heap.size = ba at *
  obtain ⟨BB, hBB⟩ : ∃ BB : Nat → Prop, J w w9 p (dlvN n d3) g (rdlvN m d3) fp0 fr0 Q BB ∧ BytesOf w9 A2 M2.f2.length BB ba ∧ BB ba ∧ ∀ k, Q k → ¬ BB k := HFIN.out
  have HJ := Aside0.mk hBB.1
  have HBY := Aside0.mk hBB.2.1
  have HBA := Aside0.mk hBB.2.2.1
  have HQB := Aside0.mk hBB.2.2.2
  clear hBB HFIN
  go_loopg [15] M2.f2.length (fun gk v15 Wc => ∃ i : Nat, v15 = .int .i64 i ∧ i + gk = M2.f2.length ∧ Aside0 (J w Wc p (dlvN n d3) g (rdlvN m d3) fp0 fr0 Q BB) ∧ Aside0 (BytesOf Wc A2 M2.f2.length BB ba) ∧ Aside0 (Wc.heap[ba]? = some (.cells #[.int .i64 M2.f0, .int .i64 M2.f1, .slice A2 M2.f2.length c2] 33 (0, 0))) ∧ Aside0 (Keeps Q W Wc))
  case atStart => exact ⟨0, rfl, by omega, HJ, HBY, HA, HKP⟩
  case round =>
    clear HJ HBY HKP HA
    obtain ⟨i, rfl, hig, HJ, HBY, HA, HKP⟩ := hrel
    obtain ⟨a2, _⟩ := cells_at HA.out (j := 2) rfl
    by_cases hlt : i < M2.f2.length
    · obtain ⟨gb, cs, rfl, hgB, hne, hblk, hcs⟩ := HBY.out (by omega)
      obtain ⟨v, hv⟩ := hcs i hlt
      obtain ⟨y0, y1⟩ := cells_at hblk hv
      have hlt' : (i : Int) < (M2.f2.length : Int) := by omega
      have hq : wrap64 ((i : Int) + 1) = (i : Int) + 1 := wrap_small hlt HLEN.out
      have HQW := Aside0.mk hq
      have HC := Aside0.mk (And.intro hgB (And.intro hblk hne))
      clear hblk hcs hv
      obtain ⟨k1, rfl⟩ : ∃ k1, gk = k1 + 1 := ⟨gk - 1, by omega⟩
      have HIG := Aside0.mk (show (i + 1) + k1 = M2.f2.length by rw [Nat.add_assoc, Nat.add_comm 1 k1]; exact hig)
      clear hig
      go_wp2
      go_roundg k1
      case measure => exact Nat.lt_succ_self _
      case rel => exact ⟨i + 1, by first | rfl | (rw [HQW.out]; rfl), HIG.out, ⟨HJ.out.set HC.out.1 _⟩, ⟨HBY.out.set i _⟩, ⟨blk_far HA.out (fun e => HC.out.2.2 e.symm) _⟩, ⟨HKP.out.set_far HQB.out HC.out.1 _⟩⟩
    · have hi : i = M2.f2.length := by omega
      subst hi
      have hd : decide ((M2.f2.length : Int) < (M2.f2.length : Int)) = false := by simp
      go_wp2
      go_ret
      exact ⟨rfl, HJ.out.weak (fun k hk => .inl hk) (fun k hk => hk.elim), HKP.out⟩
end Go.Proofs.Ytnaefndclalepaa.Net
