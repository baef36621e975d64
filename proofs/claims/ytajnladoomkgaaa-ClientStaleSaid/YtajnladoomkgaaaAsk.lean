/- The work's state in memory; asking. -/
import Derived.Test.YtajnladoomkgaaaWit
import Derived.Deep.QuietTactic
import Derived.BigQuiet
namespace Go.Proofs.Ytajnladoomkgaaa.Cli
set_option linter.unusedVariables false
set_option linter.unusedSimpArgs false
open RowOf Go.RowKit Go.Proofs.YtajnladoomkgaaaW.PrintWords Go.Proofs.YtajnladoomkgaaaW.PrintLast Go.Proofs.YtajnladoomkgaaaW.PrintMore Go.Proofs.Ytajnladoomkgaaa.XC

/-- w' is w, but for what the blocks in S hold, and for new blocks. -/
structure Fr (S : Nat → Prop) (w w' : World) : Prop where
  os : w'.os = w.os
  tape : w'.tape = w.tape
  output : w'.output = w.output
  size : w.heap.size ≤ w'.heap.size
  block : ∀ k, k < w.heap.size → ¬ S k → w'.heap[k]? = w.heap[k]?
namespace Fr
variable {S S2 : Nat → Prop} {w w1 w2 : World}
theorem refl (S : Nat → Prop) (w : World) : Fr S w w := ⟨rfl, rfl, rfl, Nat.le_refl _, fun _ _ _ => rfl⟩
theorem of_below (h : Below w.heap.size w w1) (S : Nat → Prop) : Fr S w w1 := ⟨h.os, h.tape, h.output, h.size, fun k hk _ => h.block k hk⟩
theorem trans (h : Fr S w w1) (h2 : Fr S2 w1 w2) (hs : ∀ k, S2 k → k < w.heap.size → S k) : Fr S w w2 :=
  ⟨h2.os.trans h.os, h2.tape.trans h.tape, h2.output.trans h.output, Nat.le_trans h.size h2.size, fun k hk hn => (h2.block k (Nat.lt_of_lt_of_le hk h.size) (fun h' => hn (hs k h' hk))).trans (h.block k hk hn)⟩
theorem then_ (h : Fr S w w1) (h2 : Fr S w1 w2) : Fr S w w2 := h.trans h2 (fun _ h _ => h)
theorem mono (h : Fr S w w1) (hs : ∀ k, S k → S2 k) : Fr S2 w w1 := ⟨h.os, h.tape, h.output, h.size, fun k hk hn => h.block k hk (fun h' => hn (hs k h'))⟩
theorem below {b : Nat} (h : Fr S w w1) (hb : b ≤ w.heap.size) (hs : ∀ k, S k → b ≤ k) : Below b w w1 := ⟨h.os, h.tape, h.output, h.size, fun k hk => h.block k (Nat.lt_of_lt_of_le hk hb) (fun h' => by have := hs k h'; omega)⟩
theorem alloc (h : Fr S w w1) (o : Obj) : Fr S w (w1.alloc o) := h.trans (of_below (below_alloc (Below.refl _ _) o) (fun _ => False)) (fun _ h _ => h.elim)
theorem drewN (h : Fr S w w1) (m : Nat) : Fr S w (w1.drewN m) := ⟨h.os, h.tape, h.output, h.size, h.block⟩
theorem drew (h : Fr S w w1) : Fr S w w1.drew := ⟨h.os, h.tape, h.output, h.size, h.block⟩
theorem setCell (h : Fr S w w1) {p : Addr} (hp : p.block < w.heap.size → S p.block) (u : Value) : Fr S w (w1.setCell p u) := by
  refine h.trans (S2 := fun k => k = p.block) (w2 := w1.setCell p u) ⟨?_, ?_, ?_, ?_, fun k _ hk => Below.heap_setCell w1 p u k hk⟩ (fun k e hk => by subst e; exact hp hk)
  all_goals (have hb := Below.setCell (Below.refl 0 w1) (p := p) (Nat.zero_le _) u)
  · exact hb.os
  · exact hb.tape
  · exact hb.output
  · exact hb.size
theorem grown {row : Option Nat} (h : Fr S w w1) (hg : w1.grownBy w2 row) (hb : Below 0 w1 w2) (hr : ∀ k, row = some k → k < w.heap.size → S k) : Fr S w w2 := by
  refine h.trans (S2 := fun k => row = some k) ⟨hb.os, hb.tape, hb.output, hb.size, fun k hk hn => hg.block k hk (fun e => hn e.symm)⟩ hr
end Fr
/-- Work at block g: a client, the time, what is sent; what it leads to is new since base. -/
def IsWk (W : World) (base g : Nat) (c : CliS) (now : Int) (s : List S48) : Prop :=
  ∃ A1 k1 A2 k2 A3 k3, W.heap[g]? = some (.cells (rW_ c A1 k1 A2 k2 now (.slice A3 s.length k3)) 66 (0, 0)) ∧ c.Br.length ≤ k1 ∧ Kd.F (Kd.int .i64) W (fun k => base ≤ k ∧ k ≠ g) A1 c.Br.length c.Br ∧ c.Call.f8.length ≤ k2 ∧ Kd.F (Kd.int .u8) W (fun k => base ≤ k ∧ k ≠ g) A2 c.Call.f8.length c.Call.f8 ∧ s.length ≤ k3 ∧ Kd.F k48 W (fun k => base ≤ k ∧ k ≠ g) A3 s.length s ∧ base ≤ g ∧ (s = [] → A3 = none ∧ k3 = 0)
theorem IsWk.fr {W W' : World} {base g : Nat} {c : CliS} {now : Int} {s : List S48} (h : IsWk W base g c now s) {S : Nat → Prop} (hf : Fr S W W') (hs : ∀ k, S k → k < base) : IsWk W' base g c now s := by
  obtain ⟨A1, k1, A2, k2, A3, k3, hb, l1, f1, l2, f2, l3, f3, hg, hn⟩ := h
  have hk : ∀ k, base ≤ k ∧ k ≠ g → k < W.heap.size → W'.heap[k]? = W.heap[k]? := fun k hk hlt => hf.block k hlt (fun h' => by have := hs k h'; omega)
  exact ⟨A1, k1, A2, k2, A3, k3, (hf.block g (blk_lt hb) (fun h' => by have := hs g h'; omega)).trans hb, l1, Kd.F_step f1 hk, l2, Kd.F_step f2 hk, l3, Kd.F_step f3 hk, hg, hn⟩
theorem IsWk.below {W W' : World} {base g : Nat} {c : CliS} {now : Int} {s : List S48} (h : IsWk W base g c now s) (hb : Below W.heap.size W W') : IsWk W' base g c now s := h.fr (Fr.of_below hb (fun _ => False)) (fun _ h => h.elim)
theorem IsWk.lt {W : World} {base g : Nat} {c : CliS} {now : Int} {s : List S48} (h : IsWk W base g c now s) : g < W.heap.size := by
  obtain ⟨A1, k1, A2, k2, A3, k3, hb, _⟩ := h
  exact blk_lt hb
theorem IsWk.ge {W : World} {base g : Nat} {c : CliS} {now : Int} {s : List S48} (h : IsWk W base g c now s) : base ≤ g := by
  obtain ⟨A1, k1, A2, k2, A3, k3, hb, l1, f1, l2, f2, l3, f3, hg, hn⟩ := h
  exact hg
def askC (c : CliS) (now : Int) : CliS × List S48 := if 0 ≤ c.At ∧ c.At < c.Br.length then ({ c with Since := now }, [⟨rd c.Br c.At, c.Call⟩]) else ({ c with At := 0 }, [])
theorem info48 : (Try.prog.info? 48).map (fun i => (i.zero, i.size, i.bytes)) = some (some (.agg #[.int .i64 0, .int .i64 0, .int .u64 0, .int .u64 0, .int .i64 0, .int .i64 0, .int .i64 0, .int .u64 0, .int .u64 0, .slice none 0 0]), 10, 96) := by kernel_rfl
def ask.T3 : Bool × List (List Nat × List Nat) := (true, [([], []), ([], []), ([1], [1]), ([2], [2]), ([3], [3]), ([], []), ([5], [5]), ([6], [6]), ([7], [7]), ([8], [8]), ([], []), ([10], [10]), ([11], [11]), ([12], [12]), ([13], [13]), ([9, 14], [9, 14]), ([15], [15]), ([], []), ([17], [17]), ([18], [18]), ([19], [19]), ([20], [20]), ([21], [21]), ([16, 22], [16, 22]), ([23], [23]), ([4, 24, 22], [4, 24]), ([0, 0, 1, 2, 3, 4, 5, 6, 7, 8, 9, 10, 11, 12, 13, 14, 15, 16, 17, 18, 19, 20, 21, 22, 23, 24, 25], [0]), ([26, 0, 1, 2, 3, 4, 5, 6, 7, 8, 9, 10, 11, 12, 13, 14, 15, 16, 17, 18, 19, 20, 21, 22, 23, 24, 25], [26]), ([27, 25, 25, 0, 1, 2, 3, 4, 5, 6, 7, 8, 9, 10, 11, 12, 13, 14, 15, 16, 17, 18, 19, 20, 21, 22, 23, 24, 25], [25, 27])])
def ask.B3 : List Nat := [0, 0, 2, 6, 14, 0, 32, 96, 224, 480, 0, 1024, 3072, 7168, 15360, 32736, 65504, 0, 131072, 393216, 917504, 1966080, 4063232, 8388576, 16777184, 33554430, 67108863, 134217727, 268435455]
theorem ask.tab3 : rtab .any (opsOf Try.f25 3) = ask.T3 := by kernel_rfl
theorem ask.bits3 : waitsOk ask.T3.2 ask.B3 = true := by kernel_rfl
set_option maxHeartbeats 8000000 in
set_option maxRecDepth 100000 in
theorem ask_no (c : CliS) (base g : Nat) (now : Int) (w : World) (h : IsWk w base g c now []) (hat : ¬ (0 ≤ c.At ∧ c.At < c.Br.length)) :
    Calls Try.prog 25 #[.pointer (some ⟨g, 0, none⟩)] w fun e w' => e = .returned (.tuple #[]) ∧ IsWk w' base g { c with At := 0 } now [] ∧ Fr (fun k => k = g) w w' := by
  obtain ⟨A1, k1, A2, k2, A3, k3, hb, l1, f1, l2, f2, l3, f3, hg, hn⟩ := h
  have BK := Aside0.mk hb
  have HL1 := Aside0.mk l1
  have HL2 := Aside0.mk l2
  have HL3 := Aside0.mk l3
  have HF1 := Aside0.mk f1
  have HF2 := Aside0.mk f2
  have HF3 := Aside0.mk f3
  have HG := Aside0.mk hg
  have HNN := Aside0.mk hn
  have g3 : w.cell? ⟨g, 3, none⟩ = some (.slice A1 c.Br.length k1) := (cells_at BK.out rfl).1
  have g14 : w.cell? ⟨g, 14, none⟩ = some (.int .i64 c.At) := (cells_at BK.out rfl).1
  have hz14 := blk_frozen BK.out 14
  clear hb l1 f1 l2 f2 l3 f3 hg hn
  have HFIN : Aside0 (∀ (m : Nat), IsWk ((w.drewN m).setCell ⟨g, 14, none⟩ (.int .i64 0)) base g { c with At := 0 } now [] ∧ Fr (fun k => k = g) w ((w.drewN m).setCell ⟨g, 14, none⟩ (.int .i64 0))) := Aside0.mk fun m => by
    have bq := blk_set (blk_drewN BK.out m) 14 (.int .i64 0)
    simp only [List.setIfInBounds_toArray, List.set_cons_zero, List.set_cons_succ] at bq
    have hfr : Fr (fun k => k = g) w ((w.drewN m).setCell ⟨g, 14, none⟩ (.int .i64 0)) := ((Fr.refl (fun k => k = g) w).drewN m).setCell (p := ⟨g, 14, none⟩) (S := fun k => k = g) (fun _ => rfl) _
    have hk : ∀ k, base ≤ k ∧ k ≠ g → k < w.heap.size → ((w.drewN m).setCell ⟨g, 14, none⟩ (.int .i64 0)).heap[k]? = w.heap[k]? := fun k hk hlt => hfr.block k hlt hk.2
    exact ⟨⟨A1, k1, A2, k2, A3, k3, bq, HL1.out, Kd.F_step HF1.out hk, HL2.out, Kd.F_step HF2.out hk, HL3.out, Kd.F_step HF3.out hk, HG.out, HNN.out⟩, hfr⟩
  generalize c.At = at_ at g14 hat
  generalize c.Br.length = n at g3 hat
  by_cases h0 : at_ < 0
  · have e0 : decide (at_ < 0) = true := by simpa using h0
    go_enter Try.func25, Try.ntmps25
    go_wp2
    go_quiet (fail)
    go_wp2
    refine bodyPost_ret (results_none rfl _ _ _) rfl ?_
    exact ⟨rfl, HFIN.out _⟩
  · have e0 : decide (at_ < 0) = false := by simpa using h0
    have e1 : decide ((n : Int) ≤ at_) = true := by simp; omega
    go_enter Try.func25, Try.ntmps25
    go_wp2
    go_quiet (fail)
    go_wp2
    refine bodyPost_ret (results_none rfl _ _ _) rfl ?_
    exact ⟨rfl, HFIN.out _⟩
set_option maxHeartbeats 8000000 in
set_option maxRecDepth 100000 in
theorem ask_ok (c : CliS) (base g : Nat) (now : Int) (w : World) (h : IsWk w base g c now []) (hat : 0 ≤ c.At ∧ c.At < c.Br.length) (hbig : c.Br.length < 1000000) (hb2 : c.Call.f8.length ≤ 140737488351232) :
    Calls Try.prog 25 #[.pointer (some ⟨g, 0, none⟩)] w fun e w' => e = .returned (.tuple #[]) ∧ IsWk w' base g { c with Since := now } now [⟨rd c.Br c.At, c.Call⟩] ∧ Fr (fun k => k = g) w w' := by
  obtain ⟨A1, k1, A2, k2, A3, k3, hb, l1, f1, l2, f2, l3, f3, hg, hn⟩ := h
  have BK := Aside0.mk hb
  have HL1 := Aside0.mk l1
  have HL2 := Aside0.mk l2
  have HL3 := Aside0.mk l3
  have HF10 := Aside0.mk f1
  have HF20 := Aside0.mk f2
  have HF3 := Aside0.mk f3
  have HG := Aside0.mk hg
  have HNN := Aside0.mk hn
  have HA0 := Aside0.mk hat.1
  have HA1 := Aside0.mk hat.2
  have HOWN := Aside0.mk (show client_own.f c.Call.f0 c.Call.f1 c.Call.f2 c.Call.f3 c.Call.f4 c.Call.f5 c.Call.f6 c.Call.f7 c.Call.f8 = some (c.Call.f0, c.Call.f1, c.Call.f2, c.Call.f3, c.Call.f4, c.Call.f5, c.Call.f6, c.Call.f7, c.Call.f8) by unfold client_own.f slices_Clone_byte_byte.f; rw [if_pos (by omega)]; rfl)
  obtain ⟨rfl, rfl⟩ := hn rfl
  have g3 : w.cell? ⟨g, 3, none⟩ = some (.slice A1 c.Br.length k1) := (cells_at BK.out rfl).1
  have g14 : w.cell? ⟨g, 14, none⟩ = some (.int .i64 c.At) := (cells_at BK.out rfl).1
  have g16 : w.cell? ⟨g, 16, none⟩ = some (.int .u64 c.Since) := (cells_at BK.out rfl).1
  have g17 : w.cell? ⟨g, 17, none⟩ = some (.int .u64 now) := (cells_at BK.out rfl).1
  have hz14 := blk_frozen BK.out 16
  obtain ⟨ad, eA, hcA⟩ := (Kd.F_now f1).2.2 (by omega)
  subst eA
  clear hcA
  clear hb l1 f1 l2 f2 l3 f3 hg hn
  have hn : c.Br.length < 1000000 := hbig
  have e0 : decide (c.At < 0) = false := by simp; omega
  have e1 : decide ((c.Br.length : Int) ≤ c.At) = false := by simp; omega
  clear hat hb2
  go_enter Try.func25, Try.ntmps25
  go_wp2
  go_quiet (fail)
  go_wp2
  have HLT0 := blk_lt BK.out
  have bq := blk_set (blk_drewN BK.out nq) 16 (.int .u64 now)
  simp only [List.setIfInBounds_toArray, List.set_cons_zero, List.set_cons_succ] at bq
  have BK1 := Aside0.mk (show _ = some (Obj.cells #[.int .i64 c.Id, .int .u64 c.Inc, .int .u64 c.N, .slice (some ad) c.Br.length k1, .int .i64 c.Busy, .int .i64 c.Call.f0, .int .u64 c.Call.f1, .int .u64 c.Call.f2, .int .i64 c.Call.f3, .int .i64 c.Call.f4, .int .i64 c.Call.f5, .int .u64 c.Call.f6, .int .u64 c.Call.f7, .slice A2 c.Call.f8.length k2, .int .i64 c.At, .int .u64 c.Born, .int .u64 now, .int .u64 now, .slice none 0 0] 66 (0, 0)) from bq)
  have HFR1 := Aside0.mk (Fr.setCell ((Fr.refl (fun k => k = g) w).drewN nq) (p := ⟨g, 16, none⟩) (fun _ => rfl) (.int .u64 now))
  have HF11 := Aside0.mk (Kd.F_step HF10.out (fun k hk hlt => HFR1.out.block k hlt hk.2))
  have HF21 := Aside0.mk (Kd.F_step HF20.out (fun k hk hlt => HFR1.out.block k hlt hk.2))
  clear bq BK HF10 HF20 g3 g14 g16 g17 hz14 HF3
  generalize (w.drewN nq).setCell _ _ = w1 at BK1 HFR1 HF11 HF21 ⊢
  have HLT := Aside0.mk HLT0
  have HPOS := Aside0.mk (show 0 < c.Br.length by have := HA1.out; have := HA0.out; omega)
  have d3 : w1.cell? ⟨g, 3, none⟩ = some (.slice (some ad) c.Br.length k1) := (cells_at BK1.out rfl).1
  have d5 : w1.cell? ⟨g, 5, none⟩ = some (.int .i64 c.Call.f0) := (cells_at BK1.out rfl).1
  have d6 : w1.cell? ⟨g, 6, none⟩ = some (.int .u64 c.Call.f1) := (cells_at BK1.out rfl).1
  have d7 : w1.cell? ⟨g, 7, none⟩ = some (.int .u64 c.Call.f2) := (cells_at BK1.out rfl).1
  have d8 : w1.cell? ⟨g, 8, none⟩ = some (.int .i64 c.Call.f3) := (cells_at BK1.out rfl).1
  have d9 : w1.cell? ⟨g, 9, none⟩ = some (.int .i64 c.Call.f4) := (cells_at BK1.out rfl).1
  have d10 : w1.cell? ⟨g, 10, none⟩ = some (.int .i64 c.Call.f5) := (cells_at BK1.out rfl).1
  have d11 : w1.cell? ⟨g, 11, none⟩ = some (.int .u64 c.Call.f6) := (cells_at BK1.out rfl).1
  have d12 : w1.cell? ⟨g, 12, none⟩ = some (.int .u64 c.Call.f7) := (cells_at BK1.out rfl).1
  have d13 : w1.cell? ⟨g, 13, none⟩ = some (.slice A2 c.Call.f8.length k2) := (cells_at BK1.out rfl).1
  have d14 : w1.cell? ⟨g, 14, none⟩ = some (.int .i64 c.At) := (cells_at BK1.out rfl).1
  have d18 : w1.cell? ⟨g, 18, none⟩ = some (.slice none 0 0) := (cells_at BK1.out rfl).1
  have d99 : w1.cell? (ad.add c.At.toNat) = some (.int .i64 (rd c.Br c.At)) := Kd.foot_int (Kd.F_now HF11.out) c.At HA0.out HA1.out
  have ha0 := HA0.out
  have ha1 := HA1.out
  refine start_ (n := 29) (S := fun w' => w'.cell? ⟨g, 3, none⟩ = some (.slice (some ad) c.Br.length k1) ∧ w'.cell? ⟨g, 5, none⟩ = some (.int .i64 c.Call.f0) ∧ w'.cell? ⟨g, 6, none⟩ = some (.int .u64 c.Call.f1) ∧ w'.cell? ⟨g, 7, none⟩ = some (.int .u64 c.Call.f2) ∧ w'.cell? ⟨g, 8, none⟩ = some (.int .i64 c.Call.f3) ∧ w'.cell? ⟨g, 9, none⟩ = some (.int .i64 c.Call.f4) ∧ w'.cell? ⟨g, 10, none⟩ = some (.int .i64 c.Call.f5) ∧ w'.cell? ⟨g, 11, none⟩ = some (.int .u64 c.Call.f6) ∧ w'.cell? ⟨g, 12, none⟩ = some (.int .u64 c.Call.f7) ∧ w'.cell? ⟨g, 13, none⟩ = some (.slice A2 c.Call.f8.length k2) ∧ w'.cell? ⟨g, 14, none⟩ = some (.int .i64 c.At) ∧ w'.cell? ⟨g, 18, none⟩ = some (.slice none 0 0) ∧ w'.cell? (ad.add c.At.toNat) = some (.int .i64 (rd c.Br c.At))) (ds := [25, 28]) #[false, false, false, false, false, false, false, false, false, false, false, false, false, false, false, false, false, false, false, false, false, false, false, false, false, false, false, false, false] (by kernel_rfl) rfl rfl ⟨d3, d5, d6, d7, d8, d9, d10, d11, d12, d13, d14, d18, d99⟩ (fun hHeld => ?_)
  refine with_tabW ask.tab3 ask.bits3 (fun HT_ HW_ => ?_)
  have BK2 := Aside0.mk (blk_drew BK1.out)
  have HFR2 := Aside0.mk HFR1.out.drew
  have HF1 := Aside0.mk (Kd.F_drew HF11.out)
  have HF2 := Aside0.mk (Kd.F_drew HF21.out)
  clear BK1 HFR1 HF11 HF21 d3 d5 d6 d7 d8 d9 d10 d11 d12 d13 d14 d18 d99
  generalize w1.drew = w2 at BK2 HFR2 HF1 HF2 hHeld ⊢
  have HFR2s := Aside0.mk HFR2.out.size
  -- 0: Op.move
  refine pure_ (i := 0) (N := some 34) (v := ?_) (a' := ?_) #[true, false, false, false, false, false, false, false, false, false, false, false, false, false, false, false, false, false, false, false, false, false, false, false, false, false, false, false, false] rfl rfl (any_of HT_.out (by kernel_rfl)) (fun _ _ _ h => h) (Or.inl ⟨by rfl, ?_⟩) ?_ ?_
  rotate_left; (intro w'; go_simp; with_reducible rfl); rotate_left; (simp only [Act.put, List.setIfInBounds_toArray, List.set_cons_zero, List.set_cons_succ, i64_w, i32_w]; rfl)
  -- 1: Op.move
  refine pure_ (i := 1) (N := some 35) (v := ?_) (a' := ?_) #[true, true, false, false, false, false, false, false, false, false, false, false, false, false, false, false, false, false, false, false, false, false, false, false, false, false, false, false, false] rfl rfl (any_of HT_.out (by kernel_rfl)) (fun _ _ _ h => h) (Or.inl ⟨by rfl, ?_⟩) ?_ ?_
  rotate_left; (intro w'; go_simp; with_reducible rfl); rotate_left; (simp only [Act.put, List.setIfInBounds_toArray, List.set_cons_zero, List.set_cons_succ, i64_w, i32_w]; rfl)
  -- 2: Op.nilCheck
  refine pure_ (i := 2) (N := some 36) (v := ?_) (a' := ?_) #[true, true, true, false, false, false, false, false, false, false, false, false, false, false, false, false, false, false, false, false, false, false, false, false, false, false, false, false, false] rfl rfl (any_of HT_.out (by kernel_rfl)) (fun _ _ _ h => h) (Or.inl ⟨by rfl, ?_⟩) ?_ ?_
  rotate_left; (intro w'; go_simp; with_reducible rfl); rotate_left; (simp only [Act.put, List.setIfInBounds_toArray, List.set_cons_zero, List.set_cons_succ, i64_w, i32_w]; rfl)
  -- 3: Op.fieldAddr
  refine pure_ (i := 3) (N := some 37) (v := ?_) (a' := ?_) #[true, true, true, true, false, false, false, false, false, false, false, false, false, false, false, false, false, false, false, false, false, false, false, false, false, false, false, false, false] rfl rfl (any_of HT_.out (by kernel_rfl)) (fun _ _ _ h => h) (Or.inl ⟨by rfl, ?_⟩) ?_ ?_
  rotate_left; (intro w'; go_simp; with_reducible rfl); rotate_left; (simp only [Act.put, List.setIfInBounds_toArray, List.set_cons_zero, List.set_cons_succ, i64_w, i32_w]; rfl)
  -- 5: Op.move
  refine pure_ (i := 5) (N := some 39) (v := ?_) (a' := ?_) #[true, true, true, true, false, true, false, false, false, false, false, false, false, false, false, false, false, false, false, false, false, false, false, false, false, false, false, false, false] rfl rfl (any_of HT_.out (by kernel_rfl)) (fun _ _ _ h => h) (Or.inl ⟨by rfl, ?_⟩) ?_ ?_
  rotate_left; (intro w'; go_simp; with_reducible rfl); rotate_left; (simp only [Act.put, List.setIfInBounds_toArray, List.set_cons_zero, List.set_cons_succ, i64_w, i32_w]; rfl)
  -- 6: Op.nilCheck
  refine pure_ (i := 6) (N := some 40) (v := ?_) (a' := ?_) #[true, true, true, true, false, true, true, false, false, false, false, false, false, false, false, false, false, false, false, false, false, false, false, false, false, false, false, false, false] rfl rfl (any_of HT_.out (by kernel_rfl)) (fun _ _ _ h => h) (Or.inl ⟨by rfl, ?_⟩) ?_ ?_
  rotate_left; (intro w'; go_simp; with_reducible rfl); rotate_left; (simp only [Act.put, List.setIfInBounds_toArray, List.set_cons_zero, List.set_cons_succ, i64_w, i32_w]; rfl)
  -- 7: Op.fieldAddr
  refine pure_ (i := 7) (N := some 41) (v := ?_) (a' := ?_) #[true, true, true, true, false, true, true, true, false, false, false, false, false, false, false, false, false, false, false, false, false, false, false, false, false, false, false, false, false] rfl rfl (any_of HT_.out (by kernel_rfl)) (fun _ _ _ h => h) (Or.inl ⟨by rfl, ?_⟩) ?_ ?_
  rotate_left; (intro w'; go_simp; with_reducible rfl); rotate_left; (simp only [Act.put, List.setIfInBounds_toArray, List.set_cons_zero, List.set_cons_succ, i64_w, i32_w]; rfl)
  -- 8: Op.fieldAddr
  refine pure_ (i := 8) (N := some 42) (v := ?_) (a' := ?_) #[true, true, true, true, false, true, true, true, true, false, false, false, false, false, false, false, false, false, false, false, false, false, false, false, false, false, false, false, false] rfl rfl (any_of HT_.out (by kernel_rfl)) (fun _ _ _ h => h) (Or.inl ⟨by rfl, ?_⟩) ?_ ?_
  rotate_left; (intro w'; go_simp; with_reducible rfl); rotate_left; (simp only [Act.put, List.setIfInBounds_toArray, List.set_cons_zero, List.set_cons_succ, i64_w, i32_w]; rfl)
  -- 10: Op.move
  refine pure_ (i := 10) (N := some 44) (v := ?_) (a' := ?_) #[true, true, true, true, false, true, true, true, true, false, true, false, false, false, false, false, false, false, false, false, false, false, false, false, false, false, false, false, false] rfl rfl (any_of HT_.out (by kernel_rfl)) (fun _ _ _ h => h) (Or.inl ⟨by rfl, ?_⟩) ?_ ?_
  rotate_left; (intro w'; go_simp; with_reducible rfl); rotate_left; (simp only [Act.put, List.setIfInBounds_toArray, List.set_cons_zero, List.set_cons_succ, i64_w, i32_w]; rfl)
  -- 11: Op.nilCheck
  refine pure_ (i := 11) (N := some 45) (v := ?_) (a' := ?_) #[true, true, true, true, false, true, true, true, true, false, true, true, false, false, false, false, false, false, false, false, false, false, false, false, false, false, false, false, false] rfl rfl (any_of HT_.out (by kernel_rfl)) (fun _ _ _ h => h) (Or.inl ⟨by rfl, ?_⟩) ?_ ?_
  rotate_left; (intro w'; go_simp; with_reducible rfl); rotate_left; (simp only [Act.put, List.setIfInBounds_toArray, List.set_cons_zero, List.set_cons_succ, i64_w, i32_w]; rfl)
  -- 12: Op.fieldAddr
  refine pure_ (i := 12) (N := some 46) (v := ?_) (a' := ?_) #[true, true, true, true, false, true, true, true, true, false, true, true, true, false, false, false, false, false, false, false, false, false, false, false, false, false, false, false, false] rfl rfl (any_of HT_.out (by kernel_rfl)) (fun _ _ _ h => h) (Or.inl ⟨by rfl, ?_⟩) ?_ ?_
  rotate_left; (intro w'; go_simp; with_reducible rfl); rotate_left; (simp only [Act.put, List.setIfInBounds_toArray, List.set_cons_zero, List.set_cons_succ, i64_w, i32_w]; rfl)
  -- 13: Op.fieldAddr
  refine pure_ (i := 13) (N := some 47) (v := ?_) (a' := ?_) #[true, true, true, true, false, true, true, true, true, false, true, true, true, true, false, false, false, false, false, false, false, false, false, false, false, false, false, false, false] rfl rfl (any_of HT_.out (by kernel_rfl)) (fun _ _ _ h => h) (Or.inl ⟨by rfl, ?_⟩) ?_ ?_
  rotate_left; (intro w'; go_simp; with_reducible rfl); rotate_left; (simp only [Act.put, List.setIfInBounds_toArray, List.set_cons_zero, List.set_cons_succ, i64_w, i32_w]; rfl)
  -- 17: Op.move
  refine pure_ (i := 17) (N := some 51) (v := ?_) (a' := ?_) #[true, true, true, true, false, true, true, true, true, false, true, true, true, true, false, false, false, true, false, false, false, false, false, false, false, false, false, false, false] rfl rfl (any_of HT_.out (by kernel_rfl)) (fun _ _ _ h => h) (Or.inl ⟨by rfl, ?_⟩) ?_ ?_
  rotate_left; (intro w'; go_simp; with_reducible rfl); rotate_left; (simp only [Act.put, List.setIfInBounds_toArray, List.set_cons_zero, List.set_cons_succ, i64_w, i32_w]; rfl)
  -- 18: Op.nilCheck
  refine pure_ (i := 18) (N := some 52) (v := ?_) (a' := ?_) #[true, true, true, true, false, true, true, true, true, false, true, true, true, true, false, false, false, true, true, false, false, false, false, false, false, false, false, false, false] rfl rfl (any_of HT_.out (by kernel_rfl)) (fun _ _ _ h => h) (Or.inl ⟨by rfl, ?_⟩) ?_ ?_
  rotate_left; (intro w'; go_simp; with_reducible rfl); rotate_left; (simp only [Act.put, List.setIfInBounds_toArray, List.set_cons_zero, List.set_cons_succ, i64_w, i32_w]; rfl)
  -- 19: Op.fieldAddr
  refine pure_ (i := 19) (N := some 53) (v := ?_) (a' := ?_) #[true, true, true, true, false, true, true, true, true, false, true, true, true, true, false, false, false, true, true, true, false, false, false, false, false, false, false, false, false] rfl rfl (any_of HT_.out (by kernel_rfl)) (fun _ _ _ h => h) (Or.inl ⟨by rfl, ?_⟩) ?_ ?_
  rotate_left; (intro w'; go_simp; with_reducible rfl); rotate_left; (simp only [Act.put, List.setIfInBounds_toArray, List.set_cons_zero, List.set_cons_succ, i64_w, i32_w]; rfl)
  -- 20: Op.fieldAddr
  refine pure_ (i := 20) (N := some 54) (v := ?_) (a' := ?_) #[true, true, true, true, false, true, true, true, true, false, true, true, true, true, false, false, false, true, true, true, true, false, false, false, false, false, false, false, false] rfl rfl (any_of HT_.out (by kernel_rfl)) (fun _ _ _ h => h) (Or.inl ⟨by rfl, ?_⟩) ?_ ?_
  rotate_left; (intro w'; go_simp; with_reducible rfl); rotate_left; (simp only [Act.put, List.setIfInBounds_toArray, List.set_cons_zero, List.set_cons_succ, i64_w, i32_w]; rfl)
  -- 4: Op.load
  refine take_ (i := 4) (N := some 38) (v := ?_) (a' := ?_) #[true, true, true, true, true, true, true, true, true, false, true, true, true, true, false, false, false, true, true, true, true, false, false, false, false, false, false, false, false] rfl rfl (take_ofW HT_.out HW_.out (by kernel_rfl)) (fun _ _ _ h => h) (Or.inl ⟨by rfl, ?_⟩) hHeld ?_ ?_
  rotate_left; (rintro w' ⟨s0, s1, s2, s3, s4, s5, s6, s7, s8, s9, s10, s11, s12⟩; go_simp; with_reducible rfl); rotate_left; (simp only [Act.put, List.setIfInBounds_toArray, List.set_cons_zero, List.set_cons_succ, i64_w, i32_w]; rfl)
  -- 9: Op.load
  refine take_ (i := 9) (N := some 43) (v := ?_) (a' := ?_) #[true, true, true, true, true, true, true, true, true, true, true, true, true, true, false, false, false, true, true, true, true, false, false, false, false, false, false, false, false] rfl rfl (take_ofW HT_.out HW_.out (by kernel_rfl)) (fun _ _ _ h => h) (Or.inl ⟨by rfl, ?_⟩) hHeld ?_ ?_
  rotate_left; (rintro w' ⟨s0, s1, s2, s3, s4, s5, s6, s7, s8, s9, s10, s11, s12⟩; go_simp; with_reducible rfl); rotate_left; (simp only [Act.put, List.setIfInBounds_toArray, List.set_cons_zero, List.set_cons_succ, i64_w, i32_w]; rfl)
  -- 14: Op.load
  refine take_ (i := 14) (N := some 48) (v := ?_) (a' := ?_) #[true, true, true, true, true, true, true, true, true, true, true, true, true, true, true, false, false, true, true, true, true, false, false, false, false, false, false, false, false] rfl rfl (take_ofW HT_.out HW_.out (by kernel_rfl)) (fun _ _ _ h => h) (Or.inl ⟨by rfl, ?_⟩) hHeld ?_ ?_
  rotate_left; (rintro w' ⟨s0, s1, s2, s3, s4, s5, s6, s7, s8, s9, s10, s11, s12⟩; go_simp; with_reducible rfl); rotate_left; (simp only [Act.put, List.setIfInBounds_toArray, List.set_cons_zero, List.set_cons_succ, i64_w, i32_w]; rfl)
  -- 15: Op.indexAddr
  refine pure_ (i := 15) (N := some 49) (v := ?_) (a' := ?_) #[true, true, true, true, true, true, true, true, true, true, true, true, true, true, true, true, false, true, true, true, true, false, false, false, false, false, false, false, false] rfl rfl (any_of HT_.out (by kernel_rfl)) (fun _ _ _ h => h) (Or.inl ⟨by rfl, ?_⟩) ?_ ?_
  rotate_left; (intro w'; go_simp; with_reducible rfl); rotate_left; (simp only [Act.put, List.setIfInBounds_toArray, List.set_cons_zero, List.set_cons_succ, i64_w, i32_w]; rfl)
  -- 16: Op.load
  refine take_ (i := 16) (N := some 50) (v := ?_) (a' := ?_) #[true, true, true, true, true, true, true, true, true, true, true, true, true, true, true, true, true, true, true, true, true, false, false, false, false, false, false, false, false] rfl rfl (take_ofW HT_.out HW_.out (by kernel_rfl)) (fun _ _ _ h => h) (Or.inl ⟨by rfl, ?_⟩) hHeld ?_ ?_
  rotate_left; (rintro w' ⟨s0, s1, s2, s3, s4, s5, s6, s7, s8, s9, s10, s11, s12⟩; go_simp; with_reducible rfl); rotate_left; (simp only [Act.put, List.setIfInBounds_toArray, List.set_cons_zero, List.set_cons_succ, i64_w, i32_w]; rfl)
  -- 21: Op.load
  refine take_ (i := 21) (N := some 55) (v := ?_) (a' := ?_) #[true, true, true, true, true, true, true, true, true, true, true, true, true, true, true, true, true, true, true, true, true, true, false, false, false, false, false, false, false] rfl rfl (take_ofW HT_.out HW_.out (by kernel_rfl)) (fun _ _ _ h => h) (Or.inl ⟨by rfl, ?_⟩) hHeld ?_ ?_
  rotate_left; (rintro w' ⟨s0, s1, s2, s3, s4, s5, s6, s7, s8, s9, s10, s11, s12⟩; go_simp; with_reducible rfl); rotate_left; (simp only [Act.put, List.setIfInBounds_toArray, List.set_cons_zero, List.set_cons_succ, i64_w, i32_w]; rfl)
  -- 22: Op.call
  refine one_ (i := 22) (N := some 56) #[true, true, true, true, true, true, true, true, true, true, true, true, true, true, true, true, true, true, true, true, true, true, true, false, false, false, false, false, false] rfl rfl (one_of HT_.out (by kernel_rfl)) (by decide) (fun K hK => ?_)
  refine goes_ Try.func24 (by kernel_rfl) rfl #[.agg (rK_ c.Call A2 k2)] (by rfl) rfl rfl (by (try simp only [List.map_toArray, List.map_cons, List.map_nil]); first | done | rfl) ?_
  refine (client_own.calls c.Call.f0 c.Call.f1 c.Call.f2 c.Call.f3 c.Call.f4 c.Call.f5 c.Call.f6 c.Call.f7 A2 k2 c.Call.f8 c.Call.f0 c.Call.f1 c.Call.f2 c.Call.f3 c.Call.f4 c.Call.f5 c.Call.f6 c.Call.f7 c.Call.f8 _ (Kd.F_now HF2.out) HL2.out HOWN.out).mono ?_
  rintro e w3 ⟨v3, rfl, hR3, hB3⟩
  obtain ⟨A4, k4, rfl, hl4, hF4⟩ := R_F0 hR3
  refine ⟨_, rfl, ?_⟩
  have BK3 := Aside0.mk (blk_below BK2.out hB3)
  have HF4 := Aside0.mk hF4
  have HF13 := Aside0.mk (Kd.F_below HF1.out hB3)
  have HF23 := Aside0.mk (Kd.F_below HF2.out hB3)
  have HL4 := Aside0.mk hl4
  have HFR3 := Aside0.mk (HFR2.out.then_ (Fr.of_below hB3 _))
  have HSZ := Aside0.mk hB3.size
  clear hR3 hB3 hHeld hF4 hl4 BK2 HF1 HF2 HFR2
  have d3 : w3.cell? ⟨g, 3, none⟩ = some (.slice (some ad) c.Br.length k1) := (cells_at BK3.out rfl).1
  have d5 : w3.cell? ⟨g, 5, none⟩ = some (.int .i64 c.Call.f0) := (cells_at BK3.out rfl).1
  have d6 : w3.cell? ⟨g, 6, none⟩ = some (.int .u64 c.Call.f1) := (cells_at BK3.out rfl).1
  have d7 : w3.cell? ⟨g, 7, none⟩ = some (.int .u64 c.Call.f2) := (cells_at BK3.out rfl).1
  have d8 : w3.cell? ⟨g, 8, none⟩ = some (.int .i64 c.Call.f3) := (cells_at BK3.out rfl).1
  have d9 : w3.cell? ⟨g, 9, none⟩ = some (.int .i64 c.Call.f4) := (cells_at BK3.out rfl).1
  have d10 : w3.cell? ⟨g, 10, none⟩ = some (.int .i64 c.Call.f5) := (cells_at BK3.out rfl).1
  have d11 : w3.cell? ⟨g, 11, none⟩ = some (.int .u64 c.Call.f6) := (cells_at BK3.out rfl).1
  have d12 : w3.cell? ⟨g, 12, none⟩ = some (.int .u64 c.Call.f7) := (cells_at BK3.out rfl).1
  have d13 : w3.cell? ⟨g, 13, none⟩ = some (.slice A2 c.Call.f8.length k2) := (cells_at BK3.out rfl).1
  have d14 : w3.cell? ⟨g, 14, none⟩ = some (.int .i64 c.At) := (cells_at BK3.out rfl).1
  have d18 : w3.cell? ⟨g, 18, none⟩ = some (.slice none 0 0) := (cells_at BK3.out rfl).1
  have d99 : w3.cell? (ad.add c.At.toNat) = some (.int .i64 (rd c.Br c.At)) := Kd.foot_int (Kd.F_now HF13.out) c.At HA0.out HA1.out
  refine hK.out _ _ ⟨d3, d5, d6, d7, d8, d9, d10, d11, d12, d13, d14, d18, d99⟩ (fun hHeld => ?_)
  clear d3 d5 d6 d7 d8 d9 d10 d11 d12 d13 d14 d18 d99
  clear hK K
  refine norm_ (a' := ?_) ?_ ?_
  rotate_left; (show Act.put _ (some 56) _ = _; simp only [Act.put, List.setIfInBounds_toArray, List.set_cons_zero, List.set_cons_succ, i64_w, i32_w]; rfl)
  -- 23: Op.build
  refine pure_ (i := 23) (N := some 57) (v := ?_) (a' := ?_) #[true, true, true, true, true, true, true, true, true, true, true, true, true, true, true, true, true, true, true, true, true, true, true, true, false, false, false, false, false] rfl rfl (any_of HT_.out (by kernel_rfl)) (fun _ _ _ h => h) (Or.inl ⟨by rfl, ?_⟩) ?_ ?_
  rotate_left; (intro w'; go_simp; with_reducible rfl); rotate_left; (simp only [Act.put, List.setIfInBounds_toArray, List.set_cons_zero, List.set_cons_succ, i64_w, i32_w]; rfl)
  -- 24: Op.buildSlice
  refine one_ (i := 24) (N := some 58) #[true, true, true, true, true, true, true, true, true, true, true, true, true, true, true, true, true, true, true, true, true, true, true, true, true, false, false, false, false] rfl rfl (one_of HT_.out (by kernel_rfl)) (by decide) (fun K hK => ?_)
  refine value_ (w1 := w3.alloc (.cells #[.int .i64 (rd c.Br c.At), .int .i64 c.Call.f0, .int .u64 c.Call.f1, .int .u64 c.Call.f2, .int .i64 c.Call.f3, .int .i64 c.Call.f4, .int .i64 c.Call.f5, .int .u64 c.Call.f6, .int .u64 c.Call.f7, .slice A4 c.Call.f8.length k4] 48)) (v := .slice (some ⟨w3.heap.size, 0, none⟩) 1 1) (by rfl) rfl ?_ ?_
  · go_simp
  have HB4 := Aside0.mk (below_alloc (Below.refl w3.heap.size w3) (.cells #[.int .i64 (rd c.Br c.At), .int .i64 c.Call.f0, .int .u64 c.Call.f1, .int .u64 c.Call.f2, .int .i64 c.Call.f3, .int .i64 c.Call.f4, .int .i64 c.Call.f5, .int .u64 c.Call.f6, .int .u64 c.Call.f7, .slice A4 c.Call.f8.length k4] 48))
  clear hHeld
  have BK4 := Aside0.mk (blk_below BK3.out HB4.out)
  have HF14 := Aside0.mk (Kd.F_below HF13.out HB4.out)
  have d3 : (w3.alloc (.cells #[.int .i64 (rd c.Br c.At), .int .i64 c.Call.f0, .int .u64 c.Call.f1, .int .u64 c.Call.f2, .int .i64 c.Call.f3, .int .i64 c.Call.f4, .int .i64 c.Call.f5, .int .u64 c.Call.f6, .int .u64 c.Call.f7, .slice A4 c.Call.f8.length k4] 48)).cell? ⟨g, 3, none⟩ = some (.slice (some ad) c.Br.length k1) := (cells_at BK4.out rfl).1
  have d5 : (w3.alloc (.cells #[.int .i64 (rd c.Br c.At), .int .i64 c.Call.f0, .int .u64 c.Call.f1, .int .u64 c.Call.f2, .int .i64 c.Call.f3, .int .i64 c.Call.f4, .int .i64 c.Call.f5, .int .u64 c.Call.f6, .int .u64 c.Call.f7, .slice A4 c.Call.f8.length k4] 48)).cell? ⟨g, 5, none⟩ = some (.int .i64 c.Call.f0) := (cells_at BK4.out rfl).1
  have d6 : (w3.alloc (.cells #[.int .i64 (rd c.Br c.At), .int .i64 c.Call.f0, .int .u64 c.Call.f1, .int .u64 c.Call.f2, .int .i64 c.Call.f3, .int .i64 c.Call.f4, .int .i64 c.Call.f5, .int .u64 c.Call.f6, .int .u64 c.Call.f7, .slice A4 c.Call.f8.length k4] 48)).cell? ⟨g, 6, none⟩ = some (.int .u64 c.Call.f1) := (cells_at BK4.out rfl).1
  have d7 : (w3.alloc (.cells #[.int .i64 (rd c.Br c.At), .int .i64 c.Call.f0, .int .u64 c.Call.f1, .int .u64 c.Call.f2, .int .i64 c.Call.f3, .int .i64 c.Call.f4, .int .i64 c.Call.f5, .int .u64 c.Call.f6, .int .u64 c.Call.f7, .slice A4 c.Call.f8.length k4] 48)).cell? ⟨g, 7, none⟩ = some (.int .u64 c.Call.f2) := (cells_at BK4.out rfl).1
  have d8 : (w3.alloc (.cells #[.int .i64 (rd c.Br c.At), .int .i64 c.Call.f0, .int .u64 c.Call.f1, .int .u64 c.Call.f2, .int .i64 c.Call.f3, .int .i64 c.Call.f4, .int .i64 c.Call.f5, .int .u64 c.Call.f6, .int .u64 c.Call.f7, .slice A4 c.Call.f8.length k4] 48)).cell? ⟨g, 8, none⟩ = some (.int .i64 c.Call.f3) := (cells_at BK4.out rfl).1
  have d9 : (w3.alloc (.cells #[.int .i64 (rd c.Br c.At), .int .i64 c.Call.f0, .int .u64 c.Call.f1, .int .u64 c.Call.f2, .int .i64 c.Call.f3, .int .i64 c.Call.f4, .int .i64 c.Call.f5, .int .u64 c.Call.f6, .int .u64 c.Call.f7, .slice A4 c.Call.f8.length k4] 48)).cell? ⟨g, 9, none⟩ = some (.int .i64 c.Call.f4) := (cells_at BK4.out rfl).1
  have d10 : (w3.alloc (.cells #[.int .i64 (rd c.Br c.At), .int .i64 c.Call.f0, .int .u64 c.Call.f1, .int .u64 c.Call.f2, .int .i64 c.Call.f3, .int .i64 c.Call.f4, .int .i64 c.Call.f5, .int .u64 c.Call.f6, .int .u64 c.Call.f7, .slice A4 c.Call.f8.length k4] 48)).cell? ⟨g, 10, none⟩ = some (.int .i64 c.Call.f5) := (cells_at BK4.out rfl).1
  have d11 : (w3.alloc (.cells #[.int .i64 (rd c.Br c.At), .int .i64 c.Call.f0, .int .u64 c.Call.f1, .int .u64 c.Call.f2, .int .i64 c.Call.f3, .int .i64 c.Call.f4, .int .i64 c.Call.f5, .int .u64 c.Call.f6, .int .u64 c.Call.f7, .slice A4 c.Call.f8.length k4] 48)).cell? ⟨g, 11, none⟩ = some (.int .u64 c.Call.f6) := (cells_at BK4.out rfl).1
  have d12 : (w3.alloc (.cells #[.int .i64 (rd c.Br c.At), .int .i64 c.Call.f0, .int .u64 c.Call.f1, .int .u64 c.Call.f2, .int .i64 c.Call.f3, .int .i64 c.Call.f4, .int .i64 c.Call.f5, .int .u64 c.Call.f6, .int .u64 c.Call.f7, .slice A4 c.Call.f8.length k4] 48)).cell? ⟨g, 12, none⟩ = some (.int .u64 c.Call.f7) := (cells_at BK4.out rfl).1
  have d13 : (w3.alloc (.cells #[.int .i64 (rd c.Br c.At), .int .i64 c.Call.f0, .int .u64 c.Call.f1, .int .u64 c.Call.f2, .int .i64 c.Call.f3, .int .i64 c.Call.f4, .int .i64 c.Call.f5, .int .u64 c.Call.f6, .int .u64 c.Call.f7, .slice A4 c.Call.f8.length k4] 48)).cell? ⟨g, 13, none⟩ = some (.slice A2 c.Call.f8.length k2) := (cells_at BK4.out rfl).1
  have d14 : (w3.alloc (.cells #[.int .i64 (rd c.Br c.At), .int .i64 c.Call.f0, .int .u64 c.Call.f1, .int .u64 c.Call.f2, .int .i64 c.Call.f3, .int .i64 c.Call.f4, .int .i64 c.Call.f5, .int .u64 c.Call.f6, .int .u64 c.Call.f7, .slice A4 c.Call.f8.length k4] 48)).cell? ⟨g, 14, none⟩ = some (.int .i64 c.At) := (cells_at BK4.out rfl).1
  have d18 : (w3.alloc (.cells #[.int .i64 (rd c.Br c.At), .int .i64 c.Call.f0, .int .u64 c.Call.f1, .int .u64 c.Call.f2, .int .i64 c.Call.f3, .int .i64 c.Call.f4, .int .i64 c.Call.f5, .int .u64 c.Call.f6, .int .u64 c.Call.f7, .slice A4 c.Call.f8.length k4] 48)).cell? ⟨g, 18, none⟩ = some (.slice none 0 0) := (cells_at BK4.out rfl).1
  have d99 : (w3.alloc (.cells #[.int .i64 (rd c.Br c.At), .int .i64 c.Call.f0, .int .u64 c.Call.f1, .int .u64 c.Call.f2, .int .i64 c.Call.f3, .int .i64 c.Call.f4, .int .i64 c.Call.f5, .int .u64 c.Call.f6, .int .u64 c.Call.f7, .slice A4 c.Call.f8.length k4] 48)).cell? (ad.add c.At.toNat) = some (.int .i64 (rd c.Br c.At)) := Kd.foot_int (Kd.F_now HF14.out) c.At HA0.out HA1.out
  refine hK.out _ _ ⟨d3, d5, d6, d7, d8, d9, d10, d11, d12, d13, d14, d18, d99⟩ (fun hHeld => ?_)
  clear d3 d5 d6 d7 d8 d9 d10 d11 d12 d13 d14 d18 d99
  clear hK K
  refine norm_ (a' := ?_) ?_ ?_
  rotate_left; (show Act.put _ (some 58) _ = _; simp only [Act.put, List.setIfInBounds_toArray, List.set_cons_zero, List.set_cons_succ, i64_w, i32_w]; rfl)
  -- 25: Op.call
  refine last_ (i := 25) (N := some 59) #[true, true, true, true, true, true, true, true, true, true, true, true, true, true, true, true, true, true, true, true, true, true, true, true, true, true, false, false, false] rfl rfl (one_of HT_.out (by kernel_rfl)) (by decide) (fun K hK => ?_)
  refine Kd.N_append_step k48 (w0 := w3) 0 (by rfl) (.tmp 38) (.tmp 58) 39 48 (.agg #[.int .i64 0, .int .i64 0, .int .u64 0, .int .u64 0, .int .i64 0, .int .i64 0, .int .i64 0, .int .u64 0, .int .u64 0, .slice none 0 0]) 96 rfl Try.underlying39 info48 rfl (by decide) (by omega) (.slice none 0 0) [] ⟨rd c.Br c.At, c.Call⟩ [.int .i64 (rd c.Br c.At), .int .i64 c.Call.f0, .int .u64 c.Call.f1, .int .u64 c.Call.f2, .int .i64 c.Call.f3, .int .i64 c.Call.f4, .int .i64 c.Call.f5, .int .u64 c.Call.f6, .int .u64 c.Call.f7, .slice A4 c.Call.f8.length k4] (fun k => w2.heap.size ≤ k) (fun k => w2.heap.size ≤ k) rfl rfl ?aP ?aK ?aF ?aO ?aB ?aS ?aL ?_
  case aP => exact Foot.imp HF4.out (fun W' hC => k48_mk W' ⟨rd c.Br c.At, c.Call⟩ HL4.out hC)
  case aK => exact fun k hk => ⟨hk, by simp [Value.ownBlock]⟩
  case aF => exact fun k hk => Nat.le_trans HSZ.out hk
  case aO => exact Kd.N_nil _ _ _ _ _
  case aB => exact Below.refl _ _
  case aS => exact Nat.zero_le _
  case aL => simp
  intro v1 w4 hN4 hB4 hg4 hat4
  have HV4 := Aside0.mk (Kd.N_V (base' := 0) hN4)
  have HG4 := Aside0.mk (show Below w3.heap.size w3 w4 from ⟨hB4.os, hB4.tape, hB4.output, hB4.size, fun k hk => by
    exact hg4.block k hk (by simp [Value.ownBlock])⟩)
  clear hN4 hB4 hg4 hat4 hHeld
  refine hK.out _ _ ?_
  clear hK K
  refine norm_ (a' := ?_) ?_ ?_
  rotate_left; (show Act.put _ (some 59) _ = _; simp only [Act.put, List.setIfInBounds_toArray, List.set_cons_zero, List.set_cons_succ, i64_w, i32_w]; rfl)
  -- 26: Op.nilCheck
  refine pure_ (i := 26) (N := some 60) (v := ?_) (a' := ?_) #[true, true, true, true, true, true, true, true, true, true, true, true, true, true, true, true, true, true, true, true, true, true, true, true, true, true, true, false, false] rfl rfl (any_of HT_.out (by kernel_rfl)) (fun _ _ _ h => h) (Or.inl ⟨by rfl, ?_⟩) ?_ ?_
  rotate_left; (intro w'; go_simp; with_reducible rfl); rotate_left; (simp only [Act.put, List.setIfInBounds_toArray, List.set_cons_zero, List.set_cons_succ, i64_w, i32_w]; rfl)
  -- 27: Op.fieldAddr
  refine pure_ (i := 27) (N := some 61) (v := ?_) (a' := ?_) #[true, true, true, true, true, true, true, true, true, true, true, true, true, true, true, true, true, true, true, true, true, true, true, true, true, true, true, true, false] rfl rfl (any_of HT_.out (by kernel_rfl)) (fun _ _ _ h => h) (Or.inl ⟨by rfl, ?_⟩) ?_ ?_
  rotate_left; (intro w'; go_simp; with_reducible rfl); rotate_left; (simp only [Act.put, List.setIfInBounds_toArray, List.set_cons_zero, List.set_cons_succ, i64_w, i32_w]; rfl)
  -- 28: Op.store
  refine last_ (i := 28) (N := none) #[true, true, true, true, true, true, true, true, true, true, true, true, true, true, true, true, true, true, true, true, true, true, true, true, true, true, true, true, true] rfl rfl (one_of HT_.out (by kernel_rfl)) (by decide) (fun K hK => ?_)
  have BK5 := Aside0.mk (blk_below BK3.out HG4.out)
  have hfz := blk_frozen BK5.out 18
  obtain ⟨A5, k5, rfl, hl5, hF5⟩ := HV4.out
  have HF5 := Aside0.mk hF5
  have HL5 := Aside0.mk hl5
  clear hF5 hl5 HV4
  have d18 : w4.cell? ⟨g, 18, none⟩ = some (.slice none 0 0) := (cells_at BK5.out rfl).1
  refine skip_ (w1 := ?_) (by rfl) rfl ?_ ?_
  rotate_left
  · go_simp
    rfl
  clear d18 hfz
  refine hK.out _ _ ?_
  clear hK K
  refine done_ (done_of HT_.out (by kernel_rfl)) ?_
  clear HT_ HW_ ha0 ha1
  have bq := blk_set BK5.out 18 (.slice A5 ([] ++ [(⟨rd c.Br c.At, c.Call⟩ : S48)]).length k5)
  simp only [List.setIfInBounds_toArray, List.set_cons_zero, List.set_cons_succ] at bq
  have HFR5 := Aside0.mk (Fr.setCell (HFR3.out.then_ (Fr.of_below HG4.out _)) (p := ⟨g, 18, none⟩) (fun _ => rfl) (.slice A5 ([] ++ [(⟨rd c.Br c.At, c.Call⟩ : S48)]).length k5))
  have hfar : ∀ k, k < w3.heap.size → k ≠ g → (w4.setCell ⟨g, 18, none⟩ (.slice A5 ([] ++ [(⟨rd c.Br c.At, c.Call⟩ : S48)]).length k5)).heap[k]? = w3.heap[k]? := fun k hk hne => (Below.heap_setCell w4 ⟨g, 18, none⟩ _ k hne).trans (HG4.out.block k hk)
  have HF15 := Aside0.mk (Kd.F_step HF13.out (fun k hk hlt => hfar k hlt hk.2))
  have HF25 := Aside0.mk (Kd.F_step HF23.out (fun k hk hlt => hfar k hlt hk.2))
  have HF35 := Aside0.mk (Kd.F_far HF5.out (p := ⟨g, 18, none⟩) (fun k hk e => by have := HLT.out; have := HFR2s.out; simp only at e; omega) (.slice A5 ([] ++ [(⟨rd c.Br c.At, c.Call⟩ : S48)]).length k5))
  have BK6 := Aside0.mk bq
  clear bq hfar
  go_wp2
  go_end0
  refine ⟨rfl, ⟨some ad, k1, A2, k2, A5, k5, BK6.out, HL1.out, HF15.out, HL2.out, HF25.out, HL5.out, Kd.F_mono HF35.out (fun k hk => ⟨?_, ?_⟩), HG.out, fun h => by cases h⟩, HFR5.out⟩
  · have := HG.out; have := HLT.out; have := HFR2s.out; omega
  · have := HLT.out; have := HFR2s.out; omega
end Go.Proofs.Ytajnladoomkgaaa.Cli
