/- Rows that are read and written whole; the beginning of work, once more; what client's calls come to. -/
import Derived.Test.YtajnladoomkgaaaSml
import Derived.Deep.MidRow
namespace Go.Proofs.Ytajnladoomkgaaa.Cli
set_option linter.unusedVariables false
set_option linter.unusedSimpArgs false
open RowOf Go.RowKit Go.Proofs.YtajnladoomkgaaaW.PrintWords Go.Proofs.YtajnladoomkgaaaW.PrintLast Go.Proofs.YtajnladoomkgaaaW.PrintMore Go.Proofs.Ytajnladoomkgaaa.XC
attribute [local go_sem] max2_int min2_int max_two min_two

theorem Fr.setRow {S : Nat → Prop} {w w1 : World} (h : Fr S w w1) (g : Nat) (cs : Array Value) (hp : g < w.heap.size → S g) : Fr S w (w1.setRow g cs) :=
  h.trans (S2 := fun k => k = g) ⟨setRow_os .., setRow_tape .., setRow_output .., by simp, fun k _ hk => setRow_other w1 g k cs hk⟩ (fun k e hk => by subst e; exact hp hk)
theorem Fr.cell {S : Nat → Prop} {w w1 : World} (h : Fr S w w1) {p : Addr} {v : Value} (hc : w.cell? p = some v) (hs : ¬ S p.block) : w1.cell? p = some v := by
  have e := h.block p.block (World.block_lt_of_cell? w p hc) hs
  rw [← hc]
  simp only [World.cell?, e]
theorem blk_row {W : World} {g : Nat} {cs : Array Value} {T : TypeId} (hb : W.heap[g]? = some (.cells cs T (0, 0))) (cs' : Array Value) : (W.setRow g cs').heap[g]? = some (.cells cs' T (0, 0)) := setRow_heap W g cs cs' T (0, 0) hb
theorem blk_row_far {W : World} {g g' : Nat} {o : Obj} (hb : W.heap[g]? = some o) (cs' : Array Value) (hne : g ≠ g') : (W.setRow g' cs').heap[g]? = some o := (setRow_other W g' g cs' hne).trans hb
theorem blk_range {W : World} {g : Nat} {cs : Array Value} {T : TypeId} (hb : W.heap[g]? = some (.cells cs T (0, 0))) (o : Nat) (vs : List Value) (h : (cs.toList.drop o).take vs.length = vs) : W.rangeAt g o vs := fun j v hj => by
  rw [blk_cell hb (o + j)]
  have h1 : ((cs.toList.drop o).take vs.length)[j]? = some v := by rw [h]; exact hj
  have hlt : j < vs.length := (List.getElem?_eq_some_iff.1 hj).1
  rw [List.getElem?_take_of_lt hlt, List.getElem?_drop] at h1
  simpa using h1
section
variable {ops : Array Oper} {Q : Exit → Act → World → Prop}
theorem row_ {oi : Oper} {a : Act} {w : World} {K : Act → World → Prop} (ty : TypeId) (x y : Operand) (g : Nat) (cells : Array Value) (t : TypeId) (old : Array Value) (hw : Region.wanted oi (yielded ops a.tmps) = true) (hN : oi.dst = none) (ho : oi.op = .store ty x y) (hx : a.eval x = .pointer (some ⟨g, 0, none⟩)) (hy : a.eval y = .agg cells)
    (hg : w.heap[g]? = some (.cells old t (0, 0))) (hi : (Try.prog.info? ty).map (·.size) = some cells.size) (hold : old.size = cells.size) (h1 : cells.all (·.oneCell') = true) (h : K a (w.setRow g cells)) : if Region.wanted oi (yielded ops a.tmps) = true then Oper.wp Try.prog oi a w K Q else K (a.put none undef) w :=
  skip_ hw hN (by
    unfold execOp
    simp only [ho, hx, hy, Instr.storeAt, Instr.sureAddr, Sem.run_bind, Sem.run_pure, Result.andThen_ok, run_storeVar_row w g t ty old cells hg hi hold h1]) h
end
theorem IsWk.blk {W : World} {base g : Nat} {c : CliS} {now : Int} {s : List S48} (h : IsWk W base g c now s) : ∃ A1 k1 A2 k2 A3 k3, W.heap[g]? = some (.cells (rW_ c A1 k1 A2 k2 now (.slice A3 s.length k3)) 66 (0, 0)) ∧ c.Br.length ≤ k1 ∧ Kd.F (Kd.int .i64) W (fun k => base ≤ k ∧ k ≠ g) A1 c.Br.length c.Br ∧ c.Call.f8.length ≤ k2 ∧ Kd.F (Kd.int .u8) W (fun k => base ≤ k ∧ k ≠ g) A2 c.Call.f8.length c.Call.f8 ∧ s.length ≤ k3 ∧ Kd.F k48 W (fun k => base ≤ k ∧ k ≠ g) A3 s.length s ∧ base ≤ g := by
  obtain ⟨A1, k1, A2, k2, A3, k3, hb, l1, f1, l2, f2, l3, f3, hg, hn⟩ := h
  exact ⟨A1, k1, A2, k2, A3, k3, hb, l1, f1, l2, f2, l3, f3, hg⟩
theorem with_r (c : CliS) (A1 : Option Addr) (k1 : Nat) (A2 : Option Addr) (k2 : Nat) (now : Int) (w : World) (h1 : Kd.C (Kd.int .i64) w A1 c.Br.length c.Br) (hl1 : c.Br.length ≤ k1) (h2 : Kd.C (Kd.int .u8) w A2 c.Call.f8.length c.Call.f8) (hl2 : c.Call.f8.length ≤ k2) (hb1 : c.Br.length * 8 ≤ 140737488351232) (hb2 : c.Call.f8.length ≤ 140737488351232) :
    Calls Try.prog 23 #[.agg (rL_ c A1 k1 A2 k2), .int .u64 now] w fun e w' => ∃ g, e = .returned (.pointer (some ⟨g, 0, none⟩)) ∧ IsWk w' w.heap.size g c now [] ∧ Below w.heap.size w w' := by
  refine (with_c c A1 k1 A2 k2 now w h1 hl1 h2 hl2 hb1 hb2).mono ?_
  rintro e w' ⟨g, A3, k3, A4, k4, rfl, hb, l3, f3, l4, f4, hg, hB⟩
  exact ⟨g, rfl, ⟨A3, k3, A4, k4, none, 0, hb, l3, f3, l4, f4, Nat.le_refl _, Kd.F_nil _ _ _, hg, fun _ => ⟨rfl, rfl⟩⟩, hB⟩
/-- A client's row is one that is read in w. -/
structure CliIn (w : World) (c : CliS) (A1 : Option Addr) (k1 : Nat) (A2 : Option Addr) (k2 : Nat) : Prop where
  C1 : Kd.C (Kd.int .i64) w A1 c.Br.length c.Br
  l1 : c.Br.length ≤ k1
  C2 : Kd.C (Kd.int .u8) w A2 c.Call.f8.length c.Call.f8
  l2 : c.Call.f8.length ≤ k2
/-- New memory, since base. -/
structure CliNew (w : World) (base : Nat) (c : CliS) (A1 : Option Addr) (k1 : Nat) (A2 : Option Addr) (k2 : Nat) : Prop where
  F1 : Kd.F (Kd.int .i64) w (fun k => base ≤ k) A1 c.Br.length c.Br
  l1 : c.Br.length ≤ k1
  F2 : Kd.F (Kd.int .u8) w (fun k => base ≤ k) A2 c.Call.f8.length c.Call.f8
  l2 : c.Call.f8.length ≤ k2
structure SentNew (w : World) (base : Nat) (s : List S48) (A : Option Addr) (k : Nat) : Prop where
  F : Kd.F k48 w (fun k => base ≤ k) A s.length s
  l : s.length ≤ k
structure BodyNew (w : World) (base : Nat) (b : List Int) (A : Option Addr) (k : Nat) : Prop where
  F : Kd.F (Kd.int .u8) w (fun k => base ≤ k) A b.length b
  l : b.length ≤ k
theorem CliNew.in_ {w : World} {base : Nat} {c : CliS} {A1 : Option Addr} {k1 : Nat} {A2 : Option Addr} {k2 : Nat} (h : CliNew w base c A1 k1 A2 k2) : CliIn w c A1 k1 A2 k2 := ⟨Kd.F_now h.F1, h.l1, Kd.F_now h.F2, h.l2⟩
theorem CliIn.below {w w' : World} {c : CliS} {A1 : Option Addr} {k1 : Nat} {A2 : Option Addr} {k2 : Nat} (h : CliIn w c A1 k1 A2 k2) (hb : Below w.heap.size w w') : CliIn w' c A1 k1 A2 k2 := ⟨Kd.C_below h.C1 hb, h.l1, Kd.C_below h.C2 hb, h.l2⟩
theorem CliNew.fr {w w' : World} {base : Nat} {c : CliS} {A1 : Option Addr} {k1 : Nat} {A2 : Option Addr} {k2 : Nat} (h : CliNew w base c A1 k1 A2 k2) {S : Nat → Prop} (hf : Fr S w w') (hs : ∀ k, S k → k < base) : CliNew w' base c A1 k1 A2 k2 :=
  ⟨Kd.F_step h.F1 (fun k hk hlt => hf.block k hlt (fun h' => by have := hs k h'; omega)), h.l1, Kd.F_step h.F2 (fun k hk hlt => hf.block k hlt (fun h' => by have := hs k h'; omega)), h.l2⟩
theorem SentNew.fr {w w' : World} {base : Nat} {s : List S48} {A : Option Addr} {k : Nat} (h : SentNew w base s A k) {S : Nat → Prop} (hf : Fr S w w') (hs : ∀ k, S k → k < base) : SentNew w' base s A k :=
  ⟨Kd.F_step h.F (fun k hk hlt => hf.block k hlt (fun h' => by have := hs k h'; omega)), h.l⟩
theorem BodyNew.fr {w w' : World} {base : Nat} {s : List Int} {A : Option Addr} {k : Nat} (h : BodyNew w base s A k) {S : Nat → Prop} (hf : Fr S w w') (hs : ∀ k, S k → k < base) : BodyNew w' base s A k :=
  ⟨Kd.F_step h.F (fun k hk hlt => hf.block k hlt (fun h' => by have := hs k h'; omega)), h.l⟩
theorem SentNew.nil (w : World) (base : Nat) : SentNew w base [] none 0 := ⟨Kd.F_nil _ _ _, Nat.le_refl _⟩
def zCli : CliS := ⟨0, 0, 0, [], 0, z27, 0, 0, 0⟩
/-- The number that a call gets that is asked whether it may be. -/
def nextN (n : Int) : Int := if IntKind.u64.wrap ((if 4611686018427387902 < n then 4611686018427387902 else n) + 1) < 1 then 1 else IntKind.u64.wrap ((if 4611686018427387902 < n then 4611686018427387902 else n) + 1)
def mayB (x : S27) : Bool := (client_May.f 4 x.f0 x.f1 x.f2 x.f3 x.f4 x.f5 x.f6 x.f7 x.f8).getD false
theorem count_some (n : Int) : ∃ b, client_count.f n = some b := by
  unfold client_count.f
  split <;> exact ⟨_, rfl⟩
theorem may2 (k : Nat) (a b : Bool) (x0 x1 x2 x3 x4 x5 x6 x7 : Int) (l : List Int) : ∃ r, client_May.j2 (k + 1) a b x0 x1 x2 x3 x4 x5 x6 x7 l = some r := by
  obtain ⟨b1, e1⟩ := count_some x6
  simp only [client_May.j2, e1, Option.bind_some]
  repeat' (first | exact ⟨_, rfl⟩ | split)
theorem may1 (k : Nat) (a : Bool) (x0 x1 x2 x3 x4 x5 x6 x7 : Int) (l : List Int) : ∃ r, client_May.j1 (k + 1 + 1) a x0 x1 x2 x3 x4 x5 x6 x7 l = some r := by
  simp only [client_May.j1]
  split <;> exact may2 ..
theorem may0 (k : Nat) (a : Bool) (x0 x1 x2 x3 x4 x5 x6 x7 : Int) (l : List Int) : ∃ r, client_May.j0 (k + 1 + 1 + 1) a x0 x1 x2 x3 x4 x5 x6 x7 l = some r := by
  simp only [client_May.j0]
  split
  · exact ⟨_, rfl⟩
  · split <;> exact may1 ..
theorem may_f (x : S27) : client_May.f 4 x.f0 x.f1 x.f2 x.f3 x.f4 x.f5 x.f6 x.f7 x.f8 = some (mayB x) := by
  have : ∃ b, client_May.f 4 x.f0 x.f1 x.f2 x.f3 x.f4 x.f5 x.f6 x.f7 x.f8 = some b := by
    unfold client_May.f
    obtain ⟨b1, e1⟩ := count_some x.f1
    obtain ⟨b2, e2⟩ := count_some x.f2
    simp only [e1, e2, Option.bind_some]
    repeat' (first | exact may0 1 .. | split)
  obtain ⟨b, hb⟩ := this
  unfold mayB
  rw [hb]
  rfl
/-- The call that is begun. -/
def begun (c : CliS) (x : S27) : S27 := { x with f0 := c.Id, f1 := c.Inc, f2 := nextN c.N }
def startC (c : CliS) (now : Int) (x : S27) : CliS × List S48 × Int :=
  if mayB (begun c x) = true then
    if c.Busy = 1 then (zCli, [], 5) else
    if 4611686018427387903 ≤ c.N then (zCli, [], 3) else
      let r := askC { c with Busy := 1, Call := begun c x, Born := now, N := c.N + 1 } now
      (r.1, r.2, 0)
  else (zCli, [], 1)
theorem ask_c (c : CliS) (base g : Nat) (now : Int) (w : World) (h : IsWk w base g c now []) (hbig : c.Br.length < 1000000) (hb2 : c.Call.f8.length ≤ 140737488351232) :
    Calls Try.prog 25 #[.pointer (some ⟨g, 0, none⟩)] w fun e w' => e = .returned (.tuple #[]) ∧ IsWk w' base g (askC c now).1 now (askC c now).2 ∧ Fr (fun k => k = g) w w' := by
  by_cases hat : 0 ≤ c.At ∧ c.At < c.Br.length
  · have e : askC c now = ({ c with Since := now }, [⟨rd c.Br c.At, c.Call⟩]) := by unfold askC; rw [if_pos hat]
    rw [e]
    exact ask_ok c base g now w h hat hbig hb2
  · have e : askC c now = ({ c with At := 0 }, []) := by unfold askC; rw [if_neg hat]
    rw [e]
    exact ask_no c base g now w h hat
def StartPost (w : World) (r : CliS × List S48 × Int) (e : Ending) (w' : World) : Prop :=
  ∃ A1 k1 A2 k2 A3 k3, e = .returned (.tuple #[.agg (rL_ r.1 A1 k1 A2 k2), .slice A3 r.2.1.length k3, .int .i64 r.2.2]) ∧ CliNew w' w.heap.size r.1 A1 k1 A2 k2 ∧ SentNew w' w.heap.size r.2.1 A3 k3 ∧ Below w.heap.size w w'
theorem idx_l (d : Nat) : ∀ (k : Nat) (l : List Int) (a n i : Int), 0 ≤ i → i + d = n → n = l.length → n < 1000000 → d < k → ∃ r, slices_Index_int_int.l0 k l a n i = some r := by
  induction d with
  | zero =>
    intro k l a n i h0 h1 h2 h3 hk
    obtain ⟨k, rfl⟩ : ∃ m, k = m + 1 := ⟨k - 1, by omega⟩
    simp only [slices_Index_int_int.l0]
    rw [if_neg (by omega)]
    exact ⟨_, rfl⟩
  | succ d ih =>
    intro k l a n i h0 h1 h2 h3 hk
    obtain ⟨k, rfl⟩ : ∃ m, k = m + 1 := ⟨k - 1, by omega⟩
    simp only [slices_Index_int_int.l0]
    have hq : wrap64 (i + 1) = i + 1 := by unfold wrap64; omega
    repeat' (first | exact ⟨_, rfl⟩ | (rw [hq]; exact ih k l a n (i + 1) (by omega) (by omega) h2 h3 (by omega)) | exact ih k l a n (i + 1) (by omega) (by omega) h2 h3 (by omega) | (exfalso; omega) | split)
def idxI (l : List Int) (a : Int) : Int := (slices_Index_int_int.f (l.length + 1) l a).getD (-1)
theorem idx_f (l : List Int) (a : Int) (h : l.length < 1000000) : slices_Index_int_int.f (l.length + 1) l a = some (idxI l a) := by
  obtain ⟨r, hr⟩ := idx_l l.length (l.length + 1) l a (l.length : Int) 0 (Int.le_refl _) (by omega) rfl (by omega) (by omega)
  unfold idxI slices_Index_int_int.f
  rw [hr]
  rfl
def takeC (c : CliS) (now : Int) (r : S36) : CliS × List S48 × S36 × Bool :=
  if mineB c r = true then
    if r.f3 = 1 ∨ r.f3 = 2 then
      if 0 ≤ idxI c.Br r.f5 ∧ idxI c.Br r.f5 ≠ c.At then ((askC { c with At := idxI c.Br r.f5 } now).1, (askC { c with At := idxI c.Br r.f5 } now).2, z36, false)
      else (nextC c, [], z36, false)
    else ({ c with Busy := 0 }, [], r, true)
  else (c, [], z36, false)
theorem IsWk.setAt0 {W : World} {base g : Nat} {c : CliS} {now : Int} {s : List S48} (h : IsWk W base g c now s) (i : Int) : IsWk (W.setCell ⟨g, 14, none⟩ (.int .i64 i)) base g { c with At := i } now s ∧ Fr (fun k => k = g) W (W.setCell ⟨g, 14, none⟩ (.int .i64 i)) := h.setAt 0 i
theorem IsWk.setBusy {W : World} {base g : Nat} {c : CliS} {now : Int} {s : List S48} (h : IsWk W base g c now s) (i : Int) : IsWk (W.setCell ⟨g, 4, none⟩ (.int .i64 i)) base g { c with Busy := i } now s ∧ Fr (fun k => k = g) W (W.setCell ⟨g, 4, none⟩ (.int .i64 i)) := by
  obtain ⟨A1, k1, A2, k2, A3, k3, hb, l1, f1, l2, f2, l3, f3, hg, hn⟩ := h
  have bq := blk_set hb 4 (.int .i64 i)
  simp only [List.setIfInBounds_toArray, List.set_cons_zero, List.set_cons_succ] at bq
  have hfr : Fr (fun k => k = g) W (W.setCell ⟨g, 4, none⟩ (.int .i64 i)) := (Fr.refl (fun k => k = g) W).setCell (p := ⟨g, 4, none⟩) (S := fun k => k = g) (fun _ => rfl) _
  have hk : ∀ k, base ≤ k ∧ k ≠ g → k < W.heap.size → (W.setCell ⟨g, 4, none⟩ (.int .i64 i)).heap[k]? = W.heap[k]? := fun k hk hlt => hfr.block k hlt hk.2
  exact ⟨⟨A1, k1, A2, k2, A3, k3, bq, l1, Kd.F_step f1 hk, l2, Kd.F_step f2 hk, l3, Kd.F_step f3 hk, hg, hn⟩, hfr⟩
def TakePost (w : World) (r : CliS × List S48 × S36 × Bool) (e : Ending) (w' : World) : Prop :=
  ∃ A1 k1 A2 k2 A3 k3 A4 k4, e = .returned (.tuple #[.agg (rL_ r.1 A1 k1 A2 k2), .slice A3 r.2.1.length k3, .agg (rR_ r.2.2.1 A4 k4), .bool r.2.2.2]) ∧ CliNew w' w.heap.size r.1 A1 k1 A2 k2 ∧ SentNew w' w.heap.size r.2.1 A3 k3 ∧ BodyNew w' w.heap.size r.2.2.1.f8 A4 k4 ∧ Below w.heap.size w w'
def late (x : S27) : S36 := ⟨x.f0, x.f1, x.f2, 3, 0, 0, 0, 0, []⟩
def tickC (c : CliS) (now : Int) : CliS × List S48 × S36 × Bool :=
  if c.Busy = 1 then
    if 240 ≤ afterI now c.Born then ({ c with Busy := 0 }, [], late c.Call, true) else
    if 3 ≤ afterI now c.Since then
      if 9 ≤ afterI now c.Born then ((askC (nextC c) now).1, (askC (nextC c) now).2, z36, false) else ((askC c now).1, (askC c now).2, z36, false)
    else (c, [], z36, false)
  else (c, [], z36, false)
theorem nextC_br (c : CliS) : (nextC c).Br = c.Br := by unfold nextC; split <;> rfl
theorem nextC_call (c : CliS) : (nextC c).Call = c.Call := by unfold nextC; split <;> rfl
theorem BodyNew.nil (w : World) (base : Nat) : BodyNew w base [] none 0 := ⟨Kd.F_nil _ _ _, Nat.le_refl _⟩
theorem CliNew.zero (w : World) (base : Nat) : CliNew w base zCli none 0 none 0 := ⟨Kd.F_nil _ _ _, Nat.le_refl _, Kd.F_nil _ _ _, Nat.le_refl _⟩
end Go.Proofs.Ytajnladoomkgaaa.Cli
