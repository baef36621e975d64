/- NetRow: the walk. -/
import Derived.Test.YtnaefndclalepaaAwk
import Derived.Deep.LoopGhost
namespace Go.Proofs.Ytnaefndclalepaa.Net
set_option linter.unusedVariables false
set_option linter.unusedSimpArgs false
open Go.RowKit Go.Shelf Go.Proofs.YtnaefndclalepaaW.PrintWords Go.Proofs.YtnaefndclalepaaW.PrintLast Go.Proofs.YtnaefndclalepaaW.PrintMore Go.Proofs.Ytnaefndclalepaa.XN
def row.T23 : Bool × List (List Nat × List Nat) := (true, [([], []), ([0], [0]), ([1], [1]), ([2], [2]), ([2], [2]), ([4, 2], [2, 4]), ([3, 5, 2], [2, 3, 5]), ([2, 6], [2, 6]), ([7, 2], [7]), ([8], [8]), ([9, 8], [8, 9]), ([10, 8], [8, 10]), ([8], [8]), ([8], [8]), ([12, 13, 8], [8, 12, 13]), ([14, 8], [8, 14]), ([11, 15, 8], [8, 11, 15]), ([8, 16], [8, 16])])
def row.B23 : List Nat := [0, 1, 3, 7, 7, 23, 63, 127, 255, 511, 1023, 2047, 511, 511, 12799, 29183, 65535, 131071]
theorem row.tab23 : rtab .any (opsOf Try.f3 23) = row.T23 := by kernel_rfl
theorem row.bits23 : waitsOk row.T23.2 row.B23 = true := by kernel_rfl
def row.T28 : Bool × List (List Nat × List Nat) := (true, [([], []), ([0], [0]), ([1], [1]), ([2], [2]), ([2], [2]), ([4, 2], [2, 4]), ([3, 5, 2], [2, 3, 5]), ([2, 6], [2, 6]), ([7, 2], [7]), ([8], [8]), ([9, 8], [8, 9]), ([10, 8], [8, 10]), ([8], [8]), ([8], [8]), ([12, 13, 8], [8, 12, 13]), ([14, 8], [8, 14]), ([11, 15, 8], [8, 11, 15]), ([8, 16], [8, 16]), ([17, 8], [17]), ([18], [18]), ([19, 18], [18, 19]), ([20, 18], [18, 20]), ([18, 21], [18, 21]), ([22, 18], [22]), ([23], [23]), ([24, 23], [23, 24]), ([25, 23], [23, 25]), ([23, 26], [23, 26])])
def row.B28 : List Nat := [0, 1, 3, 7, 7, 23, 63, 127, 255, 511, 1023, 2047, 511, 511, 12799, 29183, 65535, 131071, 262143, 524287, 1048575, 2097151, 4194303, 8388607, 16777215, 33554431, 67108863, 134217727]
theorem row.tab28 : rtab .any (opsOf Try.f3 28) = row.T28 := by kernel_rfl
theorem row.bits28 : waitsOk row.T28.2 row.B28 = true := by kernel_rfl
/-- The net, as it is between two rounds. -/
def rowN (xs : List (List Int)) : NetS := ⟨xs.map fun x => ⟨1, 2, x⟩, 64, 2, fun _ => false⟩
theorem rowN_open (xs : List (List Int)) : openB (rowN xs) 1 2 = true := by kernel_rfl
theorem rowN_sendE (xs : List (List Int)) (x : List Int) (hx : x.length ≤ 16384) : sendE (rowN xs) 1 2 x = if xs.length < 64 then 0 else 3 := by
  have h1 : twoB (rowN xs).nodes 1 2 = true := by kernel_rfl
  unfold sendE
  rw [if_pos h1, if_neg (by omega), if_pos (rowN_open xs)]
  unfold putB rowN
  by_cases h : xs.length < 64
  · rw [if_pos h, if_pos (by simp; omega)]
  · rw [if_neg h, if_neg (by simp; omega)]
theorem rowN_sendN (xs : List (List Int)) (x : List Int) (hx : x.length ≤ 16384) : sendN (rowN xs) 1 2 x = rowN (if xs.length < 64 then xs ++ [x] else xs) := by
  unfold sendN
  rw [if_pos ⟨rowN_open xs, by omega⟩]
  unfold putN putB
  by_cases h : xs.length < 64
  · rw [if_pos h, if_pos (by simp [rowN]; omega)]
    simp [rowN]
  · rw [if_neg h, if_neg (by simp [rowN]; omega)]
theorem rowN_dlv (x : List Int) (xs : List (List Int)) : dlvE (rowN (x :: xs)) 0 = 0 ∧ dlvM (rowN (x :: xs)) 0 = ⟨1, 2, x⟩ ∧ dlvN (rowN (x :: xs)) 0 = rowN xs := by
  have h1 : hasB (rowN (x :: xs)) 0 = true := by simp [hasB, rowN]
  have h2 : atM (rowN (x :: xs)) 0 = ⟨1, 2, x⟩ := by
    unfold atM
    rw [if_pos h1]
    rfl
  have h3 : dlvE (rowN (x :: xs)) 0 = 0 := by
    unfold dlvE
    rw [if_pos h1, h2, if_pos (rowN_open _)]
  refine ⟨h3, ?_, ?_⟩
  · unfold dlvM
    rw [if_pos h3, h2]
  · unfold dlvN
    rw [if_pos h3]
    rfl
/-- An element of a row of rows. -/
theorem rows_at {w W : World} {A : Option Addr} {l : List (List Int)} (hr : Kd.C (Kd.slice 5 (Kd.int .u8)) w A l.length l) (hB : Below w.heap.size w W) (i : Nat) (hi : i < l.length) :
    ∃ ad Ai ci, A = some ad ∧ W.cell? (ad.add i) = some (.slice Ai (l.getD i []).length ci) ∧ (l.getD i []).length ≤ ci ∧ Kd.C (Kd.int .u8) W Ai (l.getD i []).length (l.getD i []) := by
  obtain ⟨ad, cc, rfl, hcl, hK, hcc⟩ := Kd.C_get (Kd.C_below hr hB) [] (i : Int) (by omega) (by omega)
  obtain ⟨Ai, ci, rfl, h1, h2⟩ := hK
  have h3 := hcc 0 _ rfl
  simp only [Int.toNat_natCast] at h1 h2 h3
  refine ⟨ad, Ai, ci, rfl, ?_, h1, h2⟩
  have : i * (Kd.slice 5 (Kd.int .u8)).sz + 0 = i := by show i * 1 + 0 = i; omega
  rw [this] at h3
  exact h3
theorem wsm {n : Int} (h0 : 0 ≤ n) (h1 : n ≤ 1000000) : wrap64 n = n := by unfold wrap64; omega
theorem ev0 (e : Nat) : ((e : Int) + 1 == 0) = false := by simp; omega
theorem wsk {k : Nat} (h : k ≤ 300) : wrap64 ((k : Int) + 1) = (k : Int) + 1 := wsm (by omega) (by omega)
theorem aL16 {n : Nat} (h : n ≤ 300) : (n + 1) * 16 ≤ 140737488355328 := by omega
theorem and15 (a : Int) : ∃ e : Nat, e ≤ 15 ∧ bits BinOp.and .i64 a 15 = (e : Int) := by
  refine ⟨(BitVec.ofInt 64 a &&& BitVec.ofInt 64 15).toNat, ?_, ?_⟩
  · rw [BitVec.toNat_and]
    exact Nat.le_trans Nat.and_le_right (by decide)
  · have h : (BitVec.ofInt 64 a &&& BitVec.ofInt 64 15).toNat ≤ 15 := by
      rw [BitVec.toNat_and]
      exact Nat.le_trans Nat.and_le_right (by decide)
    show IntKind.i64.wrap ((BitVec.ofInt 64 a &&& BitVec.ofInt 64 15).toNat : Int) = _
    rw [i64_w]
    generalize (BitVec.ofInt 64 a &&& BitVec.ofInt 64 15).toNat = n at *
    unfold wrap64
    omega
theorem everyPos (a : Int) : ∃ ev : Int, wrap64 (1 + bits BinOp.and .i64 a 15) = ev ∧ 0 < ev := by
  obtain ⟨e, he, hb⟩ := and15 a
  refine ⟨_, rfl, ?_⟩
  rw [hb, wsm (by omega) (by omega)]
  omega
theorem tmodS {i : Nat} {ev : Int} (h : 0 < ev) (hi : i ≤ 300) : wrap64 (Int.tmod (i : Int) ev) = Int.tmod (i : Int) ev := by
  have h1 : Int.tmod (i : Int) ev = (i : Int) % ev := Int.tmod_eq_emod_of_nonneg (by omega)
  have h2 := Int.emod_nonneg (i : Int) (by omega : ev ≠ 0)
  have h3 : (i : Int) % ev ≤ i := by
    rcases (by omega : (i : Int) < ev ∨ ev ≤ (i : Int)) with h | h
    · rw [Int.emod_eq_of_lt (by omega) h]; omega
    · have := Int.emod_lt_of_pos (i : Int) (by omega : 0 < ev); omega
  rw [h1]
  exact wsm h2 (by omega)
section
variable {w0 W : World} {p : Option Addr} {Q : Nat → Prop}
theorem row_send {xs : List (List Int)} (h : St w0 W p (rowN xs) Q) (A : Option Addr) (c : Nat) (x : List Int) (hC : Kd.C (Kd.int .u8) W A x.length x) (hc : x.length ≤ c) (hx : x.length ≤ 16384) :
    Calls Try.prog 10 #[.pointer p, .int .i64 1, .int .i64 2, .slice A x.length c] W fun e W' => e = .returned (.int .i64 (if xs.length < 64 then 0 else 3)) ∧ St w0 W' p (rowN (if xs.length < 64 then xs ++ [x] else xs)) Q ∧ Keeps Q W W' := by
  have := h.send_ 1 2 A c x hC hc
  rw [rowN_sendE xs x hx, rowN_sendN xs x hx] at this
  exact this
theorem row_dlv {x : List Int} {xs : List (List Int)} (h : St w0 W p (rowN (x :: xs)) Q) : Calls Try.prog 12 #[.pointer p, .int .i64 0] W fun e W' => ∃ A c, e = .returned (.tuple #[.agg #[.int .i64 1, .int .i64 2, .slice A x.length c], .int .i64 0]) ∧ Kd.C (Kd.int .u8) W' A x.length x ∧ St w0 W' p (rowN xs) Q ∧ Keeps Q W W' := by
  have := h.dlv_ 0
  rw [(rowN_dlv x xs).1, (rowN_dlv x xs).2.1, (rowN_dlv x xs).2.2] at this
  refine this.mono ?_
  rintro e W' ⟨vb, rfl, q, hR, hq, hS, hK⟩
  obtain ⟨A, c, rfl⟩ := Kd.R_slice hR
  exact ⟨A, c, rfl, (Kd.R_reads' hR).2.2, hS.weak (fun k hk => .inl hk), hK⟩
theorem row_len {xs : List (List Int)} (h : St w0 W p (rowN xs) Q) : Calls Try.prog 11 #[.pointer p] W fun e W' => e = .returned (.int .i64 xs.length) ∧ W = W' := by
  have := h.len_
  have e : (rowN xs).all.length = xs.length := by simp [rowN]
  rw [e] at this
  exact this
/-- What was sent, as strings, in a row of the law's own, and the net beside it. -/
def RowS (w0 W : World) (p : Option Addr) (xs : List (List Int)) (v : Value) (S : List (List Int)) : Prop :=
  ∃ q : Nat → Prop, Kd.N Kd.string 9 W 0 q v (S.map strOfNums) ∧ (∀ k, q k → w0.heap.size ≤ k) ∧ St w0 W p (rowN xs) q
end
theorem rowS_push {w W w1 : World} {p : Option Addr} {n : NetS} {q : Nat → Prop} {v v1 : Value} {L L1 : List ByteArray} (hN : Kd.N Kd.string 9 W 0 q v L) (hq0 : ∀ k, q k → w.heap.size ≤ k) (hS : St w W p n q) (hN1 : Kd.N Kd.string 9 w1 0 (fun k => q k ∨ W.heap.size ≤ k) v1 L1) (hg : W.grownBy w1 v.ownBlock) :
    ∃ q' : Nat → Prop, Kd.N Kd.string 9 w1 0 q' v1 L1 ∧ (∀ k, q' k → w.heap.size ≤ k) ∧ St w w1 p n q' := by
  have hb := hS.below.size
  refine ⟨fun k => (q k ∨ W.heap.size ≤ k) ∧ k < w1.heap.size, Kd.N_bound hN1, fun k hk => ?_, hS.move (fun k hk => hk) (hS.below.grown hg hb (fun k e => hq0 k (hN.1 k e))) hg.size (fun k _ hk hn => hg.block k hk (fun e => hn (hN.1 k e.symm)))⟩
  rcases hk.1 with h | h
  · exact hq0 k h
  · exact Nat.le_trans hb h
theorem rowS_at {w0 W : World} {p : Option Addr} {xs : List (List Int)} {v : Value} {S : List (List Int)} (h : RowS w0 W p xs v S) (k : Nat) (hk : k < S.length) : ∃ b c, v = .slice (some ⟨b, 0, none⟩) S.length c ∧ W.cell? ⟨b, k, none⟩ = some (.string (strOfNums (S.getD k []))) := by
  obtain ⟨q, hN, _, _⟩ := h
  obtain ⟨b, c, rfl, _, _, _⟩ := Kd.N_form hN (by simp; omega)
  obtain ⟨cc, hcl, hK, hcc, _⟩ := Kd.N_elem hN ByteArray.empty (k : Int) (by omega) (by simp; omega)
  refine ⟨b, c, by simp, ?_⟩
  have e1 : cc = [.string ((S.map strOfNums).getD (k : Int).toNat ByteArray.empty)] := Kd.FK_now hK
  have e2 : (S.map strOfNums).getD (k : Int).toNat ByteArray.empty = strOfNums (S.getD k []) := by simp [hk]
  rw [e1, e2] at hcc
  have h3 := hcc 0 _ rfl
  have : (k : Int).toNat * Kd.string.sz + 0 = k := by show k * 1 + 0 = k; omega
  rw [this] at h3
  exact h3
theorem rowS_dlv {w0 W : World} {p : Option Addr} {v : Value} {S : List (List Int)} {k : Nat} (h : RowS w0 W p (S.drop k) v S) (hk : k < S.length) : Calls Try.prog 12 #[.pointer p, .int .i64 0] W fun e W' => ∃ A c, e = .returned (.tuple #[.agg #[.int .i64 1, .int .i64 2, .slice A (S.getD k []).length c], .int .i64 0]) ∧ Kd.C (Kd.int .u8) W' A (S.getD k []).length (S.getD k []) ∧ RowS w0 W' p (S.drop (k + 1)) v S := by
  obtain ⟨q, hN, hq, hS⟩ := h
  rw [List.drop_eq_getElem_cons hk, show S[k] = S.getD k [] by simp [hk]] at hS
  refine (row_dlv hS).mono ?_
  rintro e W' ⟨A, c, rfl, hC, hS', hK⟩
  exact ⟨A, c, rfl, hC, q, Kd.N_step hN (fun k hk _ => hK.2 k hk), hq, hS'⟩
theorem rowS_len0 {w0 W : World} {p : Option Addr} {v : Value} {S : List (List Int)} {k : Nat} (h : RowS w0 W p (S.drop k) v S) (m : Nat) (hm : k + m = S.length) : Calls Try.prog 11 #[.pointer p] W fun e W' => e = .returned (.int .i64 m) ∧ W = W' := by
  obtain ⟨q, _, _, hS⟩ := h
  have := row_len hS
  rw [show (S.drop k).length = m by rw [List.length_drop]; omega] at this
  exact this
theorem rowS_below {w0 W : World} {p : Option Addr} {v : Value} {xs S : List (List Int)} (h : RowS w0 W p xs v S) : Below w0.heap.size w0 W := by
  obtain ⟨q, _, _, hS⟩ := h
  exact hS.below
theorem rowS_alloc {w0 W : World} {p : Option Addr} {v : Value} {xs S : List (List Int)} (h : RowS w0 W p xs v S) (o : Obj) : RowS w0 (W.alloc o) p xs v S := by
  obtain ⟨q, hN, hq, hS⟩ := h
  exact ⟨q, Kd.N_alloc hN o, hq, (hS.alloc o).weak (fun k hk => .inl hk)⟩
theorem rowS_drew {w0 W : World} {p : Option Addr} {v : Value} {xs S : List (List Int)} (h : RowS w0 W p xs v S) : RowS w0 W.drew p xs v S := by
  obtain ⟨q, hN, hq, hS⟩ := h
  exact ⟨q, Kd.N_drew hN, hq, hS.drew⟩
theorem rows_string {W : World} {A : Option Addr} {n c : Nat} {x : List Int} (hC : Kd.C (Kd.int .u8) W A n x) : (convert 24 9 (.slice A n c)).run Try.prog W = .ok (.string (strOfNums x)) W :=
  Kd.C_string Try.underlying24 Try.underlying5 Try.underlying9 hC
theorem info9 : (Try.prog.info? 9).map (fun i => (i.zero, i.size, i.bytes)) = some (some (.string ByteArray.empty), 1, 16) := by kernel_rfl
set_option maxHeartbeats 16000000 in
set_option maxRecDepth 100000 in
theorem scrivenerlaw05_NetRow.calls (A : Option Addr) (c : Nat) (l : List (List Int)) (a1 : Int) (r : Bool) (w : World) (hr : Kd.C (Kd.slice 5 (Kd.int .u8)) w A l.length l) (hc : l.length ≤ c) (h : true = r) :
    Calls Try.prog 3 #[.slice A l.length c, .int .i64 a1] w fun e w' => e = .returned (.bool r) ∧ Below w.heap.size w w' := by
  subst h
  have HR := Aside0.mk hr
  have HB0 := Aside0.mk (Below.refl w.heap.size w)
  clear hr
  by_cases h300 : (300 : Int) < l.length
  · have e1 : decide ((300 : Int) < (l.length : Int)) = true := by simpa using h300
    go_enter Try.func3, Try.ntmps3
    go_wp2_with (go_at_call 8; refine (awake_c _).mono ?_; rintro e w' ⟨rfl, hb⟩; have HB := Aside0.mk hb; clear hb)
    go_ret
    exact ⟨rfl, HB.out⟩
  have e1 : decide ((300 : Int) < (l.length : Int)) = false := by simpa using h300
  have HL3 := Aside0.mk (show ∀ i, i < l.length → i ≤ 300 from fun i hi => by omega)
  go_enter Try.func3, Try.ntmps3
  go_wp2
  go_loopg [5] l.length (fun gk v5 W => ∃ i : Nat, v5 = .int .i64 i ∧ i + gk = l.length ∧ W = w ∧ ∀ j, j < i → (l.getD j []).length ≤ 16384)
  case atStart => exact ⟨0, rfl, by omega, rfl, fun j hj => absurd hj (by omega)⟩
  case round =>
    obtain ⟨i, rfl, hig, hW, hsm⟩ := hrel
    have hW := hW.symm
    subst hW
    have HSM := Aside0.mk hsm
    clear hsm
    by_cases hlt : i < l.length
    · obtain ⟨ad, Ai, ci, rfl, x1, hci, hCi⟩ := rows_at HR.out HB0.out i hlt
      clear hCi
      have hlt' : (i : Int) < (l.length : Int) := by omega
      have hq : wrap64 ((i : Int) + 1) = (i : Int) + 1 := wsm (by omega) (by omega)
      by_cases hx : (16384 : Int) < (l.getD i []).length
      · have e2 : decide ((16384 : Int) < ((l.getD i []).length : Int)) = true := by simpa using hx
        generalize hgx : (l.getD i []).length = li at *
        go_wp2_with (go_at_call 8; refine (awake_c _).mono ?_; rintro e w' ⟨rfl, hb⟩; have HB := Aside0.mk hb; clear hb)
        go_ret
        exact ⟨rfl, HB.out⟩
      · have e2 : decide ((16384 : Int) < ((l.getD i []).length : Int)) = false := by simpa using hx
        generalize hgx : (l.getD i []).length = li at *
        obtain ⟨k1, rfl⟩ : ∃ k1, gk = k1 + 1 := ⟨gk - 1, by omega⟩
        go_wp2
        go_roundg k1
        case measure => omega
        case rel => exact ⟨i + 1, rfl, by omega, rfl, fun j hj => by
          by_cases hj2 : j < i
          · exact HSM.out j hj2
          · obtain rfl : j = i := by omega
            omega⟩
    · obtain rfl : i = l.length := by omega
      have hd : decide ((l.length : Int) < (l.length : Int)) = false := by simp
      go_wp2_with (go_at_call 9; refine (St.new_ (w0 := w) (W := w) (Q := fun _ => False) (fun _ h => h.elim) (Below.refl _ _) 2 (by decide) (by decide)).mono ?_; rintro e W1 ⟨rfl, hS, hK⟩; have S0 : Aside0 (St w W1 (some ⟨w.heap.size, 0, none⟩) (rowN []) (fun _ => False)) := Aside0.mk hS; clear hS hK)
      obtain ⟨ev, hev, hpos⟩ := everyPos a1
      rw [hev]
      have hev0 : (ev == 0) = false := by simp; omega
      have hev1 : ¬ ev = 0 := by omega
      clear hev
      generalize (some ⟨w.heap.size, 0, none⟩ : Option Addr) = p at *
      go_loopg [8, 9, 10] l.length (fun gk v8 v9 v10 W => ∃ (i k : Nat) (S : List (List Int)), v9 = .int .i64 k ∧ v10 = .int .i64 i ∧ i + gk = l.length ∧ S.length ≤ i ∧ k ≤ S.length ∧ (∃ A8 c8, v8 = .slice A8 S.length c8) ∧ Aside0 (RowS w W p (S.drop k) v8 S))
      case atStart => exact ⟨0, 0, [], rfl, rfl, by omega, by simp, by simp, ⟨none, 0, rfl⟩, ⟨⟨fun _ => False, Kd.N_nil _ _ _ _ _, fun _ h => h.elim, S0.out⟩⟩⟩
      case round =>
        clear S0
        obtain ⟨i, k, S, rfl, rfl, hig2, hSi, hkS, ⟨A8, c8, rfl⟩, HS0⟩ := hrel
        by_cases hlt : i < l.length
        · obtain ⟨q, hN, hq0, hS⟩ := HS0.out
          have HN := Aside0.mk hN
          have HQ := Aside0.mk hq0
          have HS := Aside0.mk hS
          clear HS0 hN hq0 hS
          obtain ⟨ad, Ai, ci, rfl, x1, hci, hCi⟩ := rows_at HR.out HS.out.below i hlt
          have HCi := Aside0.mk hCi
          obtain ⟨ad0, Ai0, ci0, e0_, y1, _, hC0⟩ := rows_at HR.out HB0.out i hlt
          obtain rfl : ad = ad0 := by injection e0_
          have hyx := (HS.out.below.cell (World.block_lt_of_cell? _ _ y1)).trans y1
          rw [x1] at hyx
          obtain ⟨rfl, rfl⟩ : Ai = Ai0 ∧ ci = ci0 := by injection hyx with h; injection h with h1 h2 h3; exact ⟨h1, h3⟩
          have HC0 := Aside0.mk hC0
          clear hyx e0_ hC0
          have hsm := HSM.out i hlt
          clear hCi
          have hlt' : (i : Int) < (l.length : Int) := by omega
          have hq : wrap64 ((i : Int) + 1) = (i : Int) + 1 := wsm (by omega) (by omega)
          have hi300 : i ≤ 300 := HL3.out i hlt
          have hqk : wrap64 ((k : Int) + 1) = (k : Int) + 1 := wsk (Nat.le_trans hkS (Nat.le_trans hSi hi300))
          have hwm : wrap64 (Int.tmod (i : Int) ev) = Int.tmod (i : Int) ev := tmodS hpos hi300
          generalize l.getD i [] = x at *
          by_cases hroom : (S.drop k).length < 64
          · obtain ⟨S2, hS2⟩ : ∃ S2, S2 = S ++ [x] := ⟨_, rfl⟩
            have hk1 : k < S2.length := by rw [hS2, List.length_append, List.length_singleton]; exact Nat.lt_succ_of_le hkS
            have hSi2 : S2.length ≤ i + 1 := by rw [hS2, List.length_append, List.length_singleton]; exact Nat.succ_le_succ hSi
            have HSE := Aside0.mk hS2
            clear hS2
            have hsend := fun (W : World) (hS : St w W p (rowN (S.drop k)) q) hC => row_send hS Ai ci x hC hci hsm
            rw [if_pos hroom, if_pos hroom] at hsend
            have HSEND := Aside0.mk hsend
            clear hsend
            by_cases hmod : Int.tmod (i : Int) ev = 0
            · go_wp2_with (first
                | (go_at_call 10; clear x1; refine (HSEND.out _ HS.out HCi.out).mono ?_; rintro e W2 ⟨rfl, hS, hK⟩; have HS2 := Aside0.mk hS; have HN2 := Aside0.mk (Kd.N_step HN.out (fun k hk _ => hK.2 k hk)); have x1 := (hS.below.cell (World.block_lt_of_cell? _ _ y1)).trans y1; have hcv := rows_string (n := x.length) (c := ci) (Kd.C_below HC0.out hS.below); clear hS hK HSEND HCi HN HS)
                | ((with_reducible refine gate_builtin (b := .append) (xs := #[.tmp 54, .tmp 60]) rfl ?_); at_builtin; refine Kd.N_append Kd.string (w0 := W2) 0 rfl (.tmp 54) (.tmp 60) 29 9 (.string ByteArray.empty) 16 rfl Try.underlying29 info9 rfl (by decide) (by decide) (.slice A8 S.length c8) (S.map strOfNums) (strOfNums x) [.string (strOfNums x)] (fun k => q k ∨ W2.heap.size ≤ k) (fun _ => False) rfl rfl ?aP ?aK ?aF ?aO ?aB ?aS ?aL ?_; (case aP => exact (fun _ _ => rfl)); (case aK => exact (fun k hk => hk.elim)); (case aF => exact (fun k hk => .inr hk)); (case aO => exact Kd.N_mono HN2.out (fun k hk => .inl hk)); (case aB => exact Below.refl _ _); (case aS => exact Nat.zero_le _); (case aL => rw [List.length_map]; exact aL16 (Nat.le_trans hSi hi300)); intro v1 W3 hN3 hB3 hg3 hat3; rw [show S.map strOfNums ++ [strOfNums x] = S2.map strOfNums by rw [HSE.out]; simp] at hN3; obtain ⟨A9, c9, hv1⟩ := Kd.N_slice hN3; rw [List.length_map] at hv1; subst hv1; have HS3 : Aside0 (RowS w W3 p (S2.drop k) (.slice A9 S2.length c9) S2) := Aside0.mk (rowS_push HN2.out HQ.out (show St w W2 p (rowN (S2.drop k)) q by rw [HSE.out, List.drop_append_of_le_length hkS]; exact HS2.out) hN3 hg3); clear hN3 hB3 hg3 hat3 x1 hcv HS2 HN2))
              clear HQ hSi hkS HSM HSE
              refine (rowS_dlv HS3.out hk1).mono ?_
              rintro e W4 ⟨Am, cm, rfl, hCm, hS4⟩
              have HS4 := Aside0.mk (rowS_alloc hS4 (.cells #[.int .i64 1, .int .i64 2, .slice Am (S2.getD k []).length cm] 33))
              have HCm := Aside0.mk (Kd.C_below hCm (below_alloc (Below.refl _ _) (.cells #[.int .i64 1, .int .i64 2, .slice Am (S2.getD k []).length cm] 33)))
              have BM := Aside0.mk (heap_alloc_new W4 (.cells #[.int .i64 1, .int .i64 2, .slice Am (S2.getD k []).length cm] 33))
              clear hCm hS4 HS3
              have HZ := Aside0.mk (rowS_at HS4.out k hk1)
              generalize S2.getD k [] = y at *
              have hkl : (k : Int) < (S2.length : Int) := by omega
              have hkn : ¬ S2.length ≤ k := by omega
              have hkn2 : decide (S2.length ≤ k) = false := by simp; omega
              have hkg : decide ((S2.length : Int) ≤ (k : Int)) = false := by simp; omega
              go_wp2
              have z1 := (cells_at BM.out (j := 2) rfl).1
              have z2 := rows_string (W := (W4.alloc (.cells #[.int .i64 1, .int .i64 2, .slice Am y.length cm] 33)).drew) (n := y.length) (c := cm) (Kd.C_below HCm.out (below_drew (Below.refl _ _)))
              obtain ⟨b9, c9', e9_, z3⟩ := HZ.out
              obtain ⟨rfl, rfl⟩ : A9 = some ⟨b9, 0, none⟩ ∧ c9 = c9' := by injection e9_ with h1 h2 h3; exact ⟨h1, h3⟩
              clear e9_
              refine start_ (n := 18) (S := fun w' => w'.cell? ⟨W4.heap.size, 2, none⟩ = some (.slice Am y.length cm) ∧ (convert 24 9 (.slice Am y.length cm)).run Try.prog w' = .ok (.string (strOfNums y)) w' ∧ w'.cell? ⟨b9, k, none⟩ = some (.string (strOfNums y))) (ds := []) #[false, false, false, false, false, false, false, false, false, false, false, false, false, false, false, false, false, false] (by kernel_rfl) rfl rfl ⟨z1, z2, z3⟩ (fun hHeld => ?_)
              refine with_tabW row.tab23 row.bits23 (fun HT_ HW_ => ?_)

              -- 0: Op.move
              refine pure_ (i := 0) (N := some 74) (v := ?_) (a' := ?_) #[true, false, false, false, false, false, false, false, false, false, false, false, false, false, false, false, false, false] rfl rfl (any_of HT_.out (by kernel_rfl)) (fun _ _ _ h => h) (Or.inl ⟨by rfl, ?_⟩) ?_ ?_
              rotate_left; (intro w'; go_simp; with_reducible rfl); rotate_left; (simp only [Act.put, List.setIfInBounds_toArray, List.set_cons_zero, List.set_cons_succ, i64_w, i32_w]; rfl)
              -- 1: Op.binOp
              refine pure_ (i := 1) (N := some 75) (v := ?_) (a' := ?_) #[true, true, false, false, false, false, false, false, false, false, false, false, false, false, false, false, false, false] rfl rfl (any_of HT_.out (by kernel_rfl)) (fun _ _ _ h => h) (Or.inl ⟨by rfl, ?_⟩) ?_ ?_
              rotate_left; (intro w'; go_simp; with_reducible rfl); rotate_left; (simp only [Act.put, List.setIfInBounds_toArray, List.set_cons_zero, List.set_cons_succ, i64_w, i32_w]; rfl)
              -- 2: Op.move
              refine pure_ (i := 2) (N := some 76) (v := ?_) (a' := ?_) #[true, true, true, false, false, false, false, false, false, false, false, false, false, false, false, false, false, false] rfl rfl (any_of HT_.out (by kernel_rfl)) (fun _ _ _ h => h) (Or.inl ⟨by rfl, ?_⟩) ?_ ?_
              rotate_left; (intro w'; go_simp; with_reducible rfl); rotate_left; (simp only [Act.put, List.setIfInBounds_toArray, List.set_cons_zero, List.set_cons_succ, i64_w, i32_w]; rfl)
              -- 3: Op.move
              refine pure_ (i := 3) (N := some 77) (v := ?_) (a' := ?_) #[true, true, true, true, false, false, false, false, false, false, false, false, false, false, false, false, false, false] rfl rfl (any_of HT_.out (by kernel_rfl)) (fun _ _ _ h => h) (Or.inl ⟨by rfl, ?_⟩) ?_ ?_
              rotate_left; (intro w'; go_simp; with_reducible rfl); rotate_left; (simp only [Act.put, List.setIfInBounds_toArray, List.set_cons_zero, List.set_cons_succ, i64_w, i32_w]; rfl)
              -- 4: Op.move
              refine pure_ (i := 4) (N := some 78) (v := ?_) (a' := ?_) #[true, true, true, true, true, false, false, false, false, false, false, false, false, false, false, false, false, false] rfl rfl (any_of HT_.out (by kernel_rfl)) (fun _ _ _ h => h) (Or.inl ⟨by rfl, ?_⟩) ?_ ?_
              rotate_left; (intro w'; go_simp; with_reducible rfl); rotate_left; (simp only [Act.put, List.setIfInBounds_toArray, List.set_cons_zero, List.set_cons_succ, i64_w, i32_w]; rfl)
              -- 5: Op.call
              refine pure_ (i := 5) (N := some 79) (v := ?_) (a' := ?_) #[true, true, true, true, true, true, false, false, false, false, false, false, false, false, false, false, false, false] rfl rfl (any_of HT_.out (by kernel_rfl)) (fun _ _ _ h => h) (Or.inl ⟨by rfl, ?_⟩) ?_ ?_
              rotate_left; (intro w'; go_simp; with_reducible rfl); rotate_left; (simp only [Act.put, List.setIfInBounds_toArray, List.set_cons_zero, List.set_cons_succ, i64_w, i32_w]; rfl)
              -- 6: Op.binOp
              refine pure_ (i := 6) (N := some 80) (v := ?_) (a' := ?_) #[true, true, true, true, true, true, true, false, false, false, false, false, false, false, false, false, false, false] rfl rfl (any_of HT_.out (by kernel_rfl)) (fun _ _ _ h => h) (Or.inl ⟨by rfl, ?_⟩) ?_ ?_
              rotate_left; (intro w'; go_simp; with_reducible rfl); rotate_left; (simp only [Act.put, List.setIfInBounds_toArray, List.set_cons_zero, List.set_cons_succ, i64_w, i32_w]; rfl)
              -- 7: Op.pick
              refine pure_ (i := 7) (N := some 81) (v := ?_) (a' := ?_) #[true, true, true, true, true, true, true, true, false, false, false, false, false, false, false, false, false, false] rfl rfl (any_of HT_.out (by kernel_rfl)) (fun _ _ _ h => h) (Or.inl ⟨by rfl, ?_⟩) ?_ ?_
              rotate_left; (intro w'; go_simp; with_reducible rfl); rotate_left; (simp only [Act.put, List.setIfInBounds_toArray, List.set_cons_zero, List.set_cons_succ, i64_w, i32_w]; rfl)
              -- 8: Op.move
              refine pure_ (i := 8) (N := some 82) (v := ?_) (a' := ?_) #[true, true, true, true, true, true, true, true, true, false, false, false, false, false, false, false, false, false] rfl rfl (any_of HT_.out (by kernel_rfl)) (fun _ _ _ h => h) (Or.inl ⟨by rfl, ?_⟩) ?_ ?_
              rotate_left; (intro w'; go_simp; with_reducible rfl); rotate_left; (simp only [Act.put, List.setIfInBounds_toArray, List.set_cons_zero, List.set_cons_succ, i64_w, i32_w]; rfl)
              -- 9: Op.fieldAddr
              refine pure_ (i := 9) (N := some 83) (v := ?_) (a' := ?_) #[true, true, true, true, true, true, true, true, true, true, false, false, false, false, false, false, false, false] rfl rfl (any_of HT_.out (by kernel_rfl)) (fun _ _ _ h => h) (Or.inl ⟨by rfl, ?_⟩) ?_ ?_
              rotate_left; (intro w'; go_simp; with_reducible rfl); rotate_left; (simp only [Act.put, List.setIfInBounds_toArray, List.set_cons_zero, List.set_cons_succ, i64_w, i32_w]; rfl)
              -- 12: Op.move
              refine pure_ (i := 12) (N := some 86) (v := ?_) (a' := ?_) #[true, true, true, true, true, true, true, true, true, true, false, false, true, false, false, false, false, false] rfl rfl (any_of HT_.out (by kernel_rfl)) (fun _ _ _ h => h) (Or.inl ⟨by rfl, ?_⟩) ?_ ?_
              rotate_left; (intro w'; go_simp; with_reducible rfl); rotate_left; (simp only [Act.put, List.setIfInBounds_toArray, List.set_cons_zero, List.set_cons_succ, i64_w, i32_w]; rfl)
              -- 13: Op.move
              refine pure_ (i := 13) (N := some 87) (v := ?_) (a' := ?_) #[true, true, true, true, true, true, true, true, true, true, false, false, true, true, false, false, false, false] rfl rfl (any_of HT_.out (by kernel_rfl)) (fun _ _ _ h => h) (Or.inl ⟨by rfl, ?_⟩) ?_ ?_
              rotate_left; (intro w'; go_simp; with_reducible rfl); rotate_left; (simp only [Act.put, List.setIfInBounds_toArray, List.set_cons_zero, List.set_cons_succ, i64_w, i32_w]; rfl)
              -- 14: Op.indexAddr
              refine pure_ (i := 14) (N := some 88) (v := ?_) (a' := ?_) #[true, true, true, true, true, true, true, true, true, true, false, false, true, true, true, false, false, false] rfl rfl (any_of HT_.out (by kernel_rfl)) (fun _ _ _ h => h) (Or.inl ⟨by rfl, ?_⟩) ?_ ?_
              rotate_left; (intro w'; go_simp; with_reducible rfl); rotate_left; (simp only [Act.put, List.setIfInBounds_toArray, List.set_cons_zero, List.set_cons_succ, i64_w, i32_w]; rfl)
              -- 10: Op.load
              refine take_ (i := 10) (N := some 84) (v := ?_) (a' := ?_) #[true, true, true, true, true, true, true, true, true, true, true, false, true, true, true, false, false, false] rfl rfl (take_ofW HT_.out HW_.out (by kernel_rfl)) (fun _ _ _ h => h) (Or.inl ⟨by rfl, ?_⟩) hHeld ?_ ?_
              rotate_left; (rintro w' ⟨s0, s1, s2⟩; go_simp; with_reducible rfl); rotate_left; (simp only [Act.put, List.setIfInBounds_toArray, List.set_cons_zero, List.set_cons_succ, i64_w, i32_w]; rfl)
              -- 11: Op.convert
              refine take_ (i := 11) (N := some 85) (v := ?_) (a' := ?_) #[true, true, true, true, true, true, true, true, true, true, true, true, true, true, true, false, false, false] rfl rfl (take_ofW HT_.out HW_.out (by kernel_rfl)) (fun _ _ _ h => h) (Or.inl ⟨by rfl, ?_⟩) hHeld ?_ ?_
              rotate_left; (rintro w' ⟨s0, s1, s2⟩; go_simp; with_reducible rfl); rotate_left; (simp only [Act.put, List.setIfInBounds_toArray, List.set_cons_zero, List.set_cons_succ, i64_w, i32_w]; rfl)
              -- 15: Op.load
              refine take_ (i := 15) (N := some 89) (v := ?_) (a' := ?_) #[true, true, true, true, true, true, true, true, true, true, true, true, true, true, true, true, false, false] rfl rfl (take_ofW HT_.out HW_.out (by kernel_rfl)) (fun _ _ _ h => h) (Or.inl ⟨by rfl, ?_⟩) hHeld ?_ ?_
              rotate_left; (rintro w' ⟨s0, s1, s2⟩; go_simp; with_reducible rfl); rotate_left; (simp only [Act.put, List.setIfInBounds_toArray, List.set_cons_zero, List.set_cons_succ, i64_w, i32_w]; rfl)
              -- 16: Op.binOp
              refine pure_ (i := 16) (N := some 90) (v := ?_) (a' := ?_) #[true, true, true, true, true, true, true, true, true, true, true, true, true, true, true, true, true, false] rfl rfl (any_of HT_.out (by kernel_rfl)) (fun _ _ _ h => h) (Or.inl ⟨by rfl, ?_⟩) ?_ ?_
              rotate_left; (intro w'; go_simp; with_reducible rfl); rotate_left; (simp only [Act.put, List.setIfInBounds_toArray, List.set_cons_zero, List.set_cons_succ, i64_w, i32_w]; rfl)
              -- 17: Op.pick
              refine pure_ (i := 17) (N := some 91) (v := ?_) (a' := ?_) #[true, true, true, true, true, true, true, true, true, true, true, true, true, true, true, true, true, true] rfl rfl (any_of HT_.out (by kernel_rfl)) (fun _ _ _ h => h) (Or.inl ⟨by rfl, ?_⟩) ?_ ?_
              rotate_left; (intro w'; go_simp; with_reducible rfl); rotate_left; (simp only [Act.put, List.setIfInBounds_toArray, List.set_cons_zero, List.set_cons_succ, i64_w, i32_w]; rfl)
              refine done_ (done_of HT_.out (by kernel_rfl)) ?_
              obtain ⟨k1, rfl⟩ : ∃ k1, gk = k1 + 1 := ⟨gk - 1, by omega⟩
              go_wp2
              go_roundg k1
              case measure => omega
              case rel => exact ⟨i + 1, k + 1, S2, rfl, rfl, by omega, hSi2, hk1, ⟨_, _, rfl⟩, ⟨rowS_drew HS4.out⟩⟩
            · have hmodb : ((i : Int) % ev == 0) = false := by
                rw [← Int.tmod_eq_emod_of_nonneg (by omega : (0 : Int) ≤ (i : Int))]
                simpa using hmod
              go_wp2_with (first
                | (go_at_call 10; clear x1; refine (HSEND.out _ HS.out HCi.out).mono ?_; rintro e W2 ⟨rfl, hS, hK⟩; have HS2 := Aside0.mk hS; have HN2 := Aside0.mk (Kd.N_step HN.out (fun k hk _ => hK.2 k hk)); have x1 := (hS.below.cell (World.block_lt_of_cell? _ _ y1)).trans y1; have hcv := rows_string (n := x.length) (c := ci) (Kd.C_below HC0.out hS.below); clear hS hK HSEND HCi HN HS)
                | ((with_reducible refine gate_builtin (b := .append) (xs := #[.tmp 54, .tmp 60]) rfl ?_); at_builtin; refine Kd.N_append Kd.string (w0 := W2) 0 rfl (.tmp 54) (.tmp 60) 29 9 (.string ByteArray.empty) 16 rfl Try.underlying29 info9 rfl (by decide) (by decide) (.slice A8 S.length c8) (S.map strOfNums) (strOfNums x) [.string (strOfNums x)] (fun k => q k ∨ W2.heap.size ≤ k) (fun _ => False) rfl rfl ?aP ?aK ?aF ?aO ?aB ?aS ?aL ?_; (case aP => exact (fun _ _ => rfl)); (case aK => exact (fun k hk => hk.elim)); (case aF => exact (fun k hk => .inr hk)); (case aO => exact Kd.N_mono HN2.out (fun k hk => .inl hk)); (case aB => exact Below.refl _ _); (case aS => exact Nat.zero_le _); (case aL => rw [List.length_map]; exact aL16 (Nat.le_trans hSi hi300)); intro v1 W3 hN3 hB3 hg3 hat3; rw [show S.map strOfNums ++ [strOfNums x] = S2.map strOfNums by rw [HSE.out]; simp] at hN3; obtain ⟨A9, c9, hv1⟩ := Kd.N_slice hN3; rw [List.length_map] at hv1; subst hv1; have HS3 : Aside0 (RowS w W3 p (S2.drop k) (.slice A9 S2.length c9) S2) := Aside0.mk (rowS_push HN2.out HQ.out (show St w W2 p (rowN (S2.drop k)) q by rw [HSE.out, List.drop_append_of_le_length hkS]; exact HS2.out) hN3 hg3); clear hN3 hB3 hg3 hat3 x1 hcv HS2 HN2))
              clear HQ hSi HSM HSE
              obtain ⟨k1, rfl⟩ : ∃ k1, gk = k1 + 1 := ⟨gk - 1, by omega⟩
              go_roundg k1
              case measure => omega
              case rel => exact ⟨i + 1, k, S2, rfl, rfl, by omega, hSi2, Nat.le_of_lt hk1, ⟨_, _, rfl⟩, HS3⟩
          · have hlen64 : (S.drop k).length = 64 := by
              have h1 := HS.out.good.len
              have h2 : (rowN (S.drop k)).all.length = (S.drop k).length := by simp [rowN]
              omega
            have hk1 : k < S.length := by
              rw [List.length_drop] at hlen64
              exact Nat.lt_of_sub_pos (hlen64 ▸ (by decide))
            have hSi2 : S.length ≤ i + 1 := Nat.le_succ_of_le hSi
            have hsend := fun (W : World) (hS : St w W p (rowN (S.drop k)) q) hC => row_send hS Ai ci x hC hci hsm
            rw [if_neg hroom, if_neg hroom] at hsend
            have HSEND := Aside0.mk hsend
            have hln := fun (W : World) (hS : St w W p (rowN (S.drop k)) q) => row_len hS
            rw [hlen64] at hln
            have HLEN := Aside0.mk hln
            clear hsend hln hlen64
            by_cases hmod : Int.tmod (i : Int) ev = 0
            · go_wp2_with (first
                | (go_at_call 10; clear x1; refine (HSEND.out _ HS.out HCi.out).mono ?_; rintro e W2 ⟨rfl, hS, hK⟩; have HS2 := Aside0.mk hS; have HS3 : Aside0 (RowS w W2 p (S.drop k) (.slice A8 S.length c8) S) := Aside0.mk ⟨q, Kd.N_step HN.out (fun k hk _ => hK.2 k hk), HQ.out, hS⟩; clear hS hK HSEND HCi HN HS)
                | (go_at_call 11; refine (HLEN.out _ HS2.out).mono ?_; rintro e w' ⟨rfl, rfl⟩; clear HS2))
              clear HQ hkS HSM
              refine (rowS_dlv HS3.out hk1).mono ?_
              rintro e W4 ⟨Am, cm, rfl, hCm, hS4⟩
              have HS4 := Aside0.mk (rowS_alloc hS4 (.cells #[.int .i64 1, .int .i64 2, .slice Am (S.getD k []).length cm] 33))
              have HCm := Aside0.mk (Kd.C_below hCm (below_alloc (Below.refl _ _) (.cells #[.int .i64 1, .int .i64 2, .slice Am (S.getD k []).length cm] 33)))
              have BM := Aside0.mk (heap_alloc_new W4 (.cells #[.int .i64 1, .int .i64 2, .slice Am (S.getD k []).length cm] 33))
              clear hCm hS4 HS3
              have HZ := Aside0.mk (rowS_at HS4.out k hk1)
              generalize S.getD k [] = y at *
              have hkl : (k : Int) < (S.length : Int) := by omega
              have hkn : ¬ S.length ≤ k := by omega
              have hkn2 : decide (S.length ≤ k) = false := by simp; omega
              have hkg : decide ((S.length : Int) ≤ (k : Int)) = false := by simp; omega
              go_wp2
              have z1 := (cells_at BM.out (j := 2) rfl).1
              have z2 := rows_string (W := (W4.alloc (.cells #[.int .i64 1, .int .i64 2, .slice Am y.length cm] 33)).drew) (n := y.length) (c := cm) (Kd.C_below HCm.out (below_drew (Below.refl _ _)))
              obtain ⟨b9, c9', e9_, z3⟩ := HZ.out
              obtain ⟨rfl, rfl⟩ : A8 = some ⟨b9, 0, none⟩ ∧ c8 = c9' := by injection e9_ with h1 h2 h3; exact ⟨h1, h3⟩
              clear e9_
              refine start_ (n := 18) (S := fun w' => w'.cell? ⟨W4.heap.size, 2, none⟩ = some (.slice Am y.length cm) ∧ (convert 24 9 (.slice Am y.length cm)).run Try.prog w' = .ok (.string (strOfNums y)) w' ∧ w'.cell? ⟨b9, k, none⟩ = some (.string (strOfNums y))) (ds := []) #[false, false, false, false, false, false, false, false, false, false, false, false, false, false, false, false, false, false] (by kernel_rfl) rfl rfl ⟨z1, z2, z3⟩ (fun hHeld => ?_)
              refine with_tabW row.tab23 row.bits23 (fun HT_ HW_ => ?_)

              -- 0: Op.move
              refine pure_ (i := 0) (N := some 74) (v := ?_) (a' := ?_) #[true, false, false, false, false, false, false, false, false, false, false, false, false, false, false, false, false, false] rfl rfl (any_of HT_.out (by kernel_rfl)) (fun _ _ _ h => h) (Or.inl ⟨by rfl, ?_⟩) ?_ ?_
              rotate_left; (intro w'; go_simp; with_reducible rfl); rotate_left; (simp only [Act.put, List.setIfInBounds_toArray, List.set_cons_zero, List.set_cons_succ, i64_w, i32_w]; rfl)
              -- 1: Op.binOp
              refine pure_ (i := 1) (N := some 75) (v := ?_) (a' := ?_) #[true, true, false, false, false, false, false, false, false, false, false, false, false, false, false, false, false, false] rfl rfl (any_of HT_.out (by kernel_rfl)) (fun _ _ _ h => h) (Or.inl ⟨by rfl, ?_⟩) ?_ ?_
              rotate_left; (intro w'; go_simp; with_reducible rfl); rotate_left; (simp only [Act.put, List.setIfInBounds_toArray, List.set_cons_zero, List.set_cons_succ, i64_w, i32_w]; rfl)
              -- 2: Op.move
              refine pure_ (i := 2) (N := some 76) (v := ?_) (a' := ?_) #[true, true, true, false, false, false, false, false, false, false, false, false, false, false, false, false, false, false] rfl rfl (any_of HT_.out (by kernel_rfl)) (fun _ _ _ h => h) (Or.inl ⟨by rfl, ?_⟩) ?_ ?_
              rotate_left; (intro w'; go_simp; with_reducible rfl); rotate_left; (simp only [Act.put, List.setIfInBounds_toArray, List.set_cons_zero, List.set_cons_succ, i64_w, i32_w]; rfl)
              -- 3: Op.move
              refine pure_ (i := 3) (N := some 77) (v := ?_) (a' := ?_) #[true, true, true, true, false, false, false, false, false, false, false, false, false, false, false, false, false, false] rfl rfl (any_of HT_.out (by kernel_rfl)) (fun _ _ _ h => h) (Or.inl ⟨by rfl, ?_⟩) ?_ ?_
              rotate_left; (intro w'; go_simp; with_reducible rfl); rotate_left; (simp only [Act.put, List.setIfInBounds_toArray, List.set_cons_zero, List.set_cons_succ, i64_w, i32_w]; rfl)
              -- 4: Op.move
              refine pure_ (i := 4) (N := some 78) (v := ?_) (a' := ?_) #[true, true, true, true, true, false, false, false, false, false, false, false, false, false, false, false, false, false] rfl rfl (any_of HT_.out (by kernel_rfl)) (fun _ _ _ h => h) (Or.inl ⟨by rfl, ?_⟩) ?_ ?_
              rotate_left; (intro w'; go_simp; with_reducible rfl); rotate_left; (simp only [Act.put, List.setIfInBounds_toArray, List.set_cons_zero, List.set_cons_succ, i64_w, i32_w]; rfl)
              -- 5: Op.call
              refine pure_ (i := 5) (N := some 79) (v := ?_) (a' := ?_) #[true, true, true, true, true, true, false, false, false, false, false, false, false, false, false, false, false, false] rfl rfl (any_of HT_.out (by kernel_rfl)) (fun _ _ _ h => h) (Or.inl ⟨by rfl, ?_⟩) ?_ ?_
              rotate_left; (intro w'; go_simp; with_reducible rfl); rotate_left; (simp only [Act.put, List.setIfInBounds_toArray, List.set_cons_zero, List.set_cons_succ, i64_w, i32_w]; rfl)
              -- 6: Op.binOp
              refine pure_ (i := 6) (N := some 80) (v := ?_) (a' := ?_) #[true, true, true, true, true, true, true, false, false, false, false, false, false, false, false, false, false, false] rfl rfl (any_of HT_.out (by kernel_rfl)) (fun _ _ _ h => h) (Or.inl ⟨by rfl, ?_⟩) ?_ ?_
              rotate_left; (intro w'; go_simp; with_reducible rfl); rotate_left; (simp only [Act.put, List.setIfInBounds_toArray, List.set_cons_zero, List.set_cons_succ, i64_w, i32_w]; rfl)
              -- 7: Op.pick
              refine pure_ (i := 7) (N := some 81) (v := ?_) (a' := ?_) #[true, true, true, true, true, true, true, true, false, false, false, false, false, false, false, false, false, false] rfl rfl (any_of HT_.out (by kernel_rfl)) (fun _ _ _ h => h) (Or.inl ⟨by rfl, ?_⟩) ?_ ?_
              rotate_left; (intro w'; go_simp; with_reducible rfl); rotate_left; (simp only [Act.put, List.setIfInBounds_toArray, List.set_cons_zero, List.set_cons_succ, i64_w, i32_w]; rfl)
              -- 8: Op.move
              refine pure_ (i := 8) (N := some 82) (v := ?_) (a' := ?_) #[true, true, true, true, true, true, true, true, true, false, false, false, false, false, false, false, false, false] rfl rfl (any_of HT_.out (by kernel_rfl)) (fun _ _ _ h => h) (Or.inl ⟨by rfl, ?_⟩) ?_ ?_
              rotate_left; (intro w'; go_simp; with_reducible rfl); rotate_left; (simp only [Act.put, List.setIfInBounds_toArray, List.set_cons_zero, List.set_cons_succ, i64_w, i32_w]; rfl)
              -- 9: Op.fieldAddr
              refine pure_ (i := 9) (N := some 83) (v := ?_) (a' := ?_) #[true, true, true, true, true, true, true, true, true, true, false, false, false, false, false, false, false, false] rfl rfl (any_of HT_.out (by kernel_rfl)) (fun _ _ _ h => h) (Or.inl ⟨by rfl, ?_⟩) ?_ ?_
              rotate_left; (intro w'; go_simp; with_reducible rfl); rotate_left; (simp only [Act.put, List.setIfInBounds_toArray, List.set_cons_zero, List.set_cons_succ, i64_w, i32_w]; rfl)
              -- 12: Op.move
              refine pure_ (i := 12) (N := some 86) (v := ?_) (a' := ?_) #[true, true, true, true, true, true, true, true, true, true, false, false, true, false, false, false, false, false] rfl rfl (any_of HT_.out (by kernel_rfl)) (fun _ _ _ h => h) (Or.inl ⟨by rfl, ?_⟩) ?_ ?_
              rotate_left; (intro w'; go_simp; with_reducible rfl); rotate_left; (simp only [Act.put, List.setIfInBounds_toArray, List.set_cons_zero, List.set_cons_succ, i64_w, i32_w]; rfl)
              -- 13: Op.move
              refine pure_ (i := 13) (N := some 87) (v := ?_) (a' := ?_) #[true, true, true, true, true, true, true, true, true, true, false, false, true, true, false, false, false, false] rfl rfl (any_of HT_.out (by kernel_rfl)) (fun _ _ _ h => h) (Or.inl ⟨by rfl, ?_⟩) ?_ ?_
              rotate_left; (intro w'; go_simp; with_reducible rfl); rotate_left; (simp only [Act.put, List.setIfInBounds_toArray, List.set_cons_zero, List.set_cons_succ, i64_w, i32_w]; rfl)
              -- 14: Op.indexAddr
              refine pure_ (i := 14) (N := some 88) (v := ?_) (a' := ?_) #[true, true, true, true, true, true, true, true, true, true, false, false, true, true, true, false, false, false] rfl rfl (any_of HT_.out (by kernel_rfl)) (fun _ _ _ h => h) (Or.inl ⟨by rfl, ?_⟩) ?_ ?_
              rotate_left; (intro w'; go_simp; with_reducible rfl); rotate_left; (simp only [Act.put, List.setIfInBounds_toArray, List.set_cons_zero, List.set_cons_succ, i64_w, i32_w]; rfl)
              -- 10: Op.load
              refine take_ (i := 10) (N := some 84) (v := ?_) (a' := ?_) #[true, true, true, true, true, true, true, true, true, true, true, false, true, true, true, false, false, false] rfl rfl (take_ofW HT_.out HW_.out (by kernel_rfl)) (fun _ _ _ h => h) (Or.inl ⟨by rfl, ?_⟩) hHeld ?_ ?_
              rotate_left; (rintro w' ⟨s0, s1, s2⟩; go_simp; with_reducible rfl); rotate_left; (simp only [Act.put, List.setIfInBounds_toArray, List.set_cons_zero, List.set_cons_succ, i64_w, i32_w]; rfl)
              -- 11: Op.convert
              refine take_ (i := 11) (N := some 85) (v := ?_) (a' := ?_) #[true, true, true, true, true, true, true, true, true, true, true, true, true, true, true, false, false, false] rfl rfl (take_ofW HT_.out HW_.out (by kernel_rfl)) (fun _ _ _ h => h) (Or.inl ⟨by rfl, ?_⟩) hHeld ?_ ?_
              rotate_left; (rintro w' ⟨s0, s1, s2⟩; go_simp; with_reducible rfl); rotate_left; (simp only [Act.put, List.setIfInBounds_toArray, List.set_cons_zero, List.set_cons_succ, i64_w, i32_w]; rfl)
              -- 15: Op.load
              refine take_ (i := 15) (N := some 89) (v := ?_) (a' := ?_) #[true, true, true, true, true, true, true, true, true, true, true, true, true, true, true, true, false, false] rfl rfl (take_ofW HT_.out HW_.out (by kernel_rfl)) (fun _ _ _ h => h) (Or.inl ⟨by rfl, ?_⟩) hHeld ?_ ?_
              rotate_left; (rintro w' ⟨s0, s1, s2⟩; go_simp; with_reducible rfl); rotate_left; (simp only [Act.put, List.setIfInBounds_toArray, List.set_cons_zero, List.set_cons_succ, i64_w, i32_w]; rfl)
              -- 16: Op.binOp
              refine pure_ (i := 16) (N := some 90) (v := ?_) (a' := ?_) #[true, true, true, true, true, true, true, true, true, true, true, true, true, true, true, true, true, false] rfl rfl (any_of HT_.out (by kernel_rfl)) (fun _ _ _ h => h) (Or.inl ⟨by rfl, ?_⟩) ?_ ?_
              rotate_left; (intro w'; go_simp; with_reducible rfl); rotate_left; (simp only [Act.put, List.setIfInBounds_toArray, List.set_cons_zero, List.set_cons_succ, i64_w, i32_w]; rfl)
              -- 17: Op.pick
              refine pure_ (i := 17) (N := some 91) (v := ?_) (a' := ?_) #[true, true, true, true, true, true, true, true, true, true, true, true, true, true, true, true, true, true] rfl rfl (any_of HT_.out (by kernel_rfl)) (fun _ _ _ h => h) (Or.inl ⟨by rfl, ?_⟩) ?_ ?_
              rotate_left; (intro w'; go_simp; with_reducible rfl); rotate_left; (simp only [Act.put, List.setIfInBounds_toArray, List.set_cons_zero, List.set_cons_succ, i64_w, i32_w]; rfl)
              refine done_ (done_of HT_.out (by kernel_rfl)) ?_
              obtain ⟨k1, rfl⟩ : ∃ k1, gk = k1 + 1 := ⟨gk - 1, by omega⟩
              go_wp2
              go_roundg k1
              case measure => omega
              case rel => exact ⟨i + 1, k + 1, S, rfl, rfl, by omega, hSi2, hk1, ⟨_, _, rfl⟩, ⟨rowS_drew HS4.out⟩⟩
            · have hmodb : ((i : Int) % ev == 0) = false := by
                rw [← Int.tmod_eq_emod_of_nonneg (by omega : (0 : Int) ≤ (i : Int))]
                simpa using hmod
              go_wp2_with (first
                | (go_at_call 10; clear x1; refine (HSEND.out _ HS.out HCi.out).mono ?_; rintro e W2 ⟨rfl, hS, hK⟩; have HS2 := Aside0.mk hS; have HS3 : Aside0 (RowS w W2 p (S.drop k) (.slice A8 S.length c8) S) := Aside0.mk ⟨q, Kd.N_step HN.out (fun k hk _ => hK.2 k hk), HQ.out, hS⟩; clear hS hK HSEND HCi HN HS)
                | (go_at_call 11; refine (HLEN.out _ HS2.out).mono ?_; rintro e w' ⟨rfl, rfl⟩; clear HS2))
              clear HQ hkS HSM
              obtain ⟨k1, rfl⟩ : ∃ k1, gk = k1 + 1 := ⟨gk - 1, by omega⟩
              go_roundg k1
              case measure => omega
              case rel => exact ⟨i + 1, k, S, rfl, rfl, by omega, hSi2, Nat.le_of_lt hk1, ⟨_, _, rfl⟩, HS3⟩
        · have hil : i = l.length := by omega
          subst hil
          have hd2 : decide ((l.length : Int) < (l.length : Int)) = false := by simp
          have hS300 : S.length ≤ 300 := Nat.le_trans hSi (by omega)
          clear hSi
          go_wp2
          go_loopg [9] (S.length - k) (fun gk v9 W => ∃ k : Nat, v9 = .int .i64 k ∧ k + gk = S.length ∧ Aside0 (RowS w W p (S.drop k) (.slice A8 S.length c8) S))
          case atStart => exact ⟨k, rfl, by omega, HS0⟩
          case round =>
            clear HS0
            obtain ⟨k, rfl, hkg, HS3⟩ := hrel
            have hln := HS3.out
            cases gk with
            | zero =>
              obtain rfl : k = S.length := by omega
              have HLEN := Aside0.mk (rowS_len0 HS3.out 0 (by omega))
              have HB := Aside0.mk (rowS_below HS3.out)
              clear hln
              go_wp2_with (first
                | (go_at_call 11; refine HLEN.out.mono ?_; rintro e w' ⟨rfl, rfl⟩)
                | (go_at_call 8; refine (awake_c _).mono ?_; rintro e w' ⟨rfl, hb⟩; have HB2 := Aside0.mk (HB.out.trans (hb.mono HB.out.size)); clear hb))
              go_ret
              exact ⟨rfl, HB2.out⟩
            | succ k1 =>
              have hk1 : k < S.length := by omega
              have HLEN := Aside0.mk (rowS_len0 HS3.out (k1 + 1) (by omega))
              have hp1 : decide ((0 : Int) < ((k1 + 1 : Nat) : Int)) = true := decide_eq_true (by omega)
              have hqk : wrap64 ((k : Int) + 1) = (k : Int) + 1 := wsk (Nat.le_trans (Nat.le_of_lt hk1) hS300)
              clear hln
              go_wp2_with (first
                | (go_at_call 11; refine HLEN.out.mono ?_; rintro e w' ⟨rfl, rfl⟩)
                | (go_at_call 12; refine (rowS_dlv HS3.out hk1).mono ?_; rintro e W4 ⟨Am, cm, rfl, hCm, hS4⟩; have HS4 := Aside0.mk (rowS_alloc hS4 (.cells #[.int .i64 1, .int .i64 2, .slice Am (S.getD k []).length cm] 33)); have HCm := Aside0.mk (Kd.C_below hCm (below_alloc (Below.refl _ _) (.cells #[.int .i64 1, .int .i64 2, .slice Am (S.getD k []).length cm] 33))); have BM := Aside0.mk (heap_alloc_new W4 (.cells #[.int .i64 1, .int .i64 2, .slice Am (S.getD k []).length cm] 33)); clear hCm hS4 HS3 HLEN; have HZ := Aside0.mk (rowS_at HS4.out k hk1); generalize S.getD k [] = y at *))
              have hkl : (k : Int) < (S.length : Int) := by omega
              have hkn : ¬ S.length ≤ k := by omega
              have hkn2 : decide (S.length ≤ k) = false := by simp; omega
              have hkgg : decide ((S.length : Int) ≤ (k : Int)) = false := by simp; omega
              have z1 := (cells_at BM.out (j := 2) rfl).1
              have z2 := rows_string (W := (W4.alloc (.cells #[.int .i64 1, .int .i64 2, .slice Am y.length cm] 33)).drew) (n := y.length) (c := cm) (Kd.C_below HCm.out (below_drew (Below.refl _ _)))
              obtain ⟨b9, c9', e9_, z3⟩ := HZ.out
              obtain ⟨rfl, rfl⟩ : A8 = some ⟨b9, 0, none⟩ ∧ c8 = c9' := by injection e9_ with h1 h2 h3; exact ⟨h1, h3⟩
              clear e9_
              have z4 := (cells_at BM.out (j := 0) rfl).1
              have z5 := (cells_at BM.out (j := 1) rfl).1
              refine start_ (n := 28) (S := fun w' => w'.cell? ⟨W4.heap.size, 2, none⟩ = some (.slice Am y.length cm) ∧ (convert 24 9 (.slice Am y.length cm)).run Try.prog w' = .ok (.string (strOfNums y)) w' ∧ w'.cell? ⟨b9, k, none⟩ = some (.string (strOfNums y)) ∧ w'.cell? ⟨W4.heap.size, 0, none⟩ = some (.int .i64 1) ∧ w'.cell? ⟨W4.heap.size, 1, none⟩ = some (.int .i64 2)) (ds := []) #[false, false, false, false, false, false, false, false, false, false, false, false, false, false, false, false, false, false, false, false, false, false, false, false, false, false, false, false] (by kernel_rfl) rfl rfl ⟨z1, z2, z3, z4, z5⟩ (fun hHeld => ?_)
              refine with_tabW row.tab28 row.bits28 (fun HT_ HW_ => ?_)

              -- 0: Op.move
              refine pure_ (i := 0) (N := some 102) (v := ?_) (a' := ?_) #[true, false, false, false, false, false, false, false, false, false, false, false, false, false, false, false, false, false, false, false, false, false, false, false, false, false, false, false] rfl rfl (any_of HT_.out (by kernel_rfl)) (fun _ _ _ h => h) (Or.inl ⟨by rfl, ?_⟩) ?_ ?_
              rotate_left; (intro w'; go_simp; with_reducible rfl); rotate_left; (simp only [Act.put, List.setIfInBounds_toArray, List.set_cons_zero, List.set_cons_succ, i64_w, i32_w]; rfl)
              -- 1: Op.binOp
              refine pure_ (i := 1) (N := some 103) (v := ?_) (a' := ?_) #[true, true, false, false, false, false, false, false, false, false, false, false, false, false, false, false, false, false, false, false, false, false, false, false, false, false, false, false] rfl rfl (any_of HT_.out (by kernel_rfl)) (fun _ _ _ h => h) (Or.inl ⟨by rfl, ?_⟩) ?_ ?_
              rotate_left; (intro w'; go_simp; with_reducible rfl); rotate_left; (simp only [Act.put, List.setIfInBounds_toArray, List.set_cons_zero, List.set_cons_succ, i64_w, i32_w]; rfl)
              -- 2: Op.move
              refine pure_ (i := 2) (N := some 104) (v := ?_) (a' := ?_) #[true, true, true, false, false, false, false, false, false, false, false, false, false, false, false, false, false, false, false, false, false, false, false, false, false, false, false, false] rfl rfl (any_of HT_.out (by kernel_rfl)) (fun _ _ _ h => h) (Or.inl ⟨by rfl, ?_⟩) ?_ ?_
              rotate_left; (intro w'; go_simp; with_reducible rfl); rotate_left; (simp only [Act.put, List.setIfInBounds_toArray, List.set_cons_zero, List.set_cons_succ, i64_w, i32_w]; rfl)
              -- 3: Op.move
              refine pure_ (i := 3) (N := some 105) (v := ?_) (a' := ?_) #[true, true, true, true, false, false, false, false, false, false, false, false, false, false, false, false, false, false, false, false, false, false, false, false, false, false, false, false] rfl rfl (any_of HT_.out (by kernel_rfl)) (fun _ _ _ h => h) (Or.inl ⟨by rfl, ?_⟩) ?_ ?_
              rotate_left; (intro w'; go_simp; with_reducible rfl); rotate_left; (simp only [Act.put, List.setIfInBounds_toArray, List.set_cons_zero, List.set_cons_succ, i64_w, i32_w]; rfl)
              -- 4: Op.move
              refine pure_ (i := 4) (N := some 106) (v := ?_) (a' := ?_) #[true, true, true, true, true, false, false, false, false, false, false, false, false, false, false, false, false, false, false, false, false, false, false, false, false, false, false, false] rfl rfl (any_of HT_.out (by kernel_rfl)) (fun _ _ _ h => h) (Or.inl ⟨by rfl, ?_⟩) ?_ ?_
              rotate_left; (intro w'; go_simp; with_reducible rfl); rotate_left; (simp only [Act.put, List.setIfInBounds_toArray, List.set_cons_zero, List.set_cons_succ, i64_w, i32_w]; rfl)
              -- 5: Op.call
              refine pure_ (i := 5) (N := some 107) (v := ?_) (a' := ?_) #[true, true, true, true, true, true, false, false, false, false, false, false, false, false, false, false, false, false, false, false, false, false, false, false, false, false, false, false] rfl rfl (any_of HT_.out (by kernel_rfl)) (fun _ _ _ h => h) (Or.inl ⟨by rfl, ?_⟩) ?_ ?_
              rotate_left; (intro w'; go_simp; with_reducible rfl); rotate_left; (simp only [Act.put, List.setIfInBounds_toArray, List.set_cons_zero, List.set_cons_succ, i64_w, i32_w]; rfl)
              -- 6: Op.binOp
              refine pure_ (i := 6) (N := some 108) (v := ?_) (a' := ?_) #[true, true, true, true, true, true, true, false, false, false, false, false, false, false, false, false, false, false, false, false, false, false, false, false, false, false, false, false] rfl rfl (any_of HT_.out (by kernel_rfl)) (fun _ _ _ h => h) (Or.inl ⟨by rfl, ?_⟩) ?_ ?_
              rotate_left; (intro w'; go_simp; with_reducible rfl); rotate_left; (simp only [Act.put, List.setIfInBounds_toArray, List.set_cons_zero, List.set_cons_succ, i64_w, i32_w]; rfl)
              -- 7: Op.pick
              refine pure_ (i := 7) (N := some 109) (v := ?_) (a' := ?_) #[true, true, true, true, true, true, true, true, false, false, false, false, false, false, false, false, false, false, false, false, false, false, false, false, false, false, false, false] rfl rfl (any_of HT_.out (by kernel_rfl)) (fun _ _ _ h => h) (Or.inl ⟨by rfl, ?_⟩) ?_ ?_
              rotate_left; (intro w'; go_simp; with_reducible rfl); rotate_left; (simp only [Act.put, List.setIfInBounds_toArray, List.set_cons_zero, List.set_cons_succ, i64_w, i32_w]; rfl)
              -- 8: Op.move
              refine pure_ (i := 8) (N := some 110) (v := ?_) (a' := ?_) #[true, true, true, true, true, true, true, true, true, false, false, false, false, false, false, false, false, false, false, false, false, false, false, false, false, false, false, false] rfl rfl (any_of HT_.out (by kernel_rfl)) (fun _ _ _ h => h) (Or.inl ⟨by rfl, ?_⟩) ?_ ?_
              rotate_left; (intro w'; go_simp; with_reducible rfl); rotate_left; (simp only [Act.put, List.setIfInBounds_toArray, List.set_cons_zero, List.set_cons_succ, i64_w, i32_w]; rfl)
              -- 9: Op.fieldAddr
              refine pure_ (i := 9) (N := some 111) (v := ?_) (a' := ?_) #[true, true, true, true, true, true, true, true, true, true, false, false, false, false, false, false, false, false, false, false, false, false, false, false, false, false, false, false] rfl rfl (any_of HT_.out (by kernel_rfl)) (fun _ _ _ h => h) (Or.inl ⟨by rfl, ?_⟩) ?_ ?_
              rotate_left; (intro w'; go_simp; with_reducible rfl); rotate_left; (simp only [Act.put, List.setIfInBounds_toArray, List.set_cons_zero, List.set_cons_succ, i64_w, i32_w]; rfl)
              -- 12: Op.move
              refine pure_ (i := 12) (N := some 114) (v := ?_) (a' := ?_) #[true, true, true, true, true, true, true, true, true, true, false, false, true, false, false, false, false, false, false, false, false, false, false, false, false, false, false, false] rfl rfl (any_of HT_.out (by kernel_rfl)) (fun _ _ _ h => h) (Or.inl ⟨by rfl, ?_⟩) ?_ ?_
              rotate_left; (intro w'; go_simp; with_reducible rfl); rotate_left; (simp only [Act.put, List.setIfInBounds_toArray, List.set_cons_zero, List.set_cons_succ, i64_w, i32_w]; rfl)
              -- 13: Op.move
              refine pure_ (i := 13) (N := some 115) (v := ?_) (a' := ?_) #[true, true, true, true, true, true, true, true, true, true, false, false, true, true, false, false, false, false, false, false, false, false, false, false, false, false, false, false] rfl rfl (any_of HT_.out (by kernel_rfl)) (fun _ _ _ h => h) (Or.inl ⟨by rfl, ?_⟩) ?_ ?_
              rotate_left; (intro w'; go_simp; with_reducible rfl); rotate_left; (simp only [Act.put, List.setIfInBounds_toArray, List.set_cons_zero, List.set_cons_succ, i64_w, i32_w]; rfl)
              -- 14: Op.indexAddr
              refine pure_ (i := 14) (N := some 116) (v := ?_) (a' := ?_) #[true, true, true, true, true, true, true, true, true, true, false, false, true, true, true, false, false, false, false, false, false, false, false, false, false, false, false, false] rfl rfl (any_of HT_.out (by kernel_rfl)) (fun _ _ _ h => h) (Or.inl ⟨by rfl, ?_⟩) ?_ ?_
              rotate_left; (intro w'; go_simp; with_reducible rfl); rotate_left; (simp only [Act.put, List.setIfInBounds_toArray, List.set_cons_zero, List.set_cons_succ, i64_w, i32_w]; rfl)
              -- 10: Op.load
              refine take_ (i := 10) (N := some 112) (v := ?_) (a' := ?_) #[true, true, true, true, true, true, true, true, true, true, true, false, true, true, true, false, false, false, false, false, false, false, false, false, false, false, false, false] rfl rfl (take_ofW HT_.out HW_.out (by kernel_rfl)) (fun _ _ _ h => h) (Or.inl ⟨by rfl, ?_⟩) hHeld ?_ ?_
              rotate_left; (rintro w' ⟨s0, s1, s2, s3, s4⟩; go_simp; with_reducible rfl); rotate_left; (simp only [Act.put, List.setIfInBounds_toArray, List.set_cons_zero, List.set_cons_succ, i64_w, i32_w]; rfl)
              -- 11: Op.convert
              refine take_ (i := 11) (N := some 113) (v := ?_) (a' := ?_) #[true, true, true, true, true, true, true, true, true, true, true, true, true, true, true, false, false, false, false, false, false, false, false, false, false, false, false, false] rfl rfl (take_ofW HT_.out HW_.out (by kernel_rfl)) (fun _ _ _ h => h) (Or.inl ⟨by rfl, ?_⟩) hHeld ?_ ?_
              rotate_left; (rintro w' ⟨s0, s1, s2, s3, s4⟩; go_simp; with_reducible rfl); rotate_left; (simp only [Act.put, List.setIfInBounds_toArray, List.set_cons_zero, List.set_cons_succ, i64_w, i32_w]; rfl)
              -- 15: Op.load
              refine take_ (i := 15) (N := some 117) (v := ?_) (a' := ?_) #[true, true, true, true, true, true, true, true, true, true, true, true, true, true, true, true, false, false, false, false, false, false, false, false, false, false, false, false] rfl rfl (take_ofW HT_.out HW_.out (by kernel_rfl)) (fun _ _ _ h => h) (Or.inl ⟨by rfl, ?_⟩) hHeld ?_ ?_
              rotate_left; (rintro w' ⟨s0, s1, s2, s3, s4⟩; go_simp; with_reducible rfl); rotate_left; (simp only [Act.put, List.setIfInBounds_toArray, List.set_cons_zero, List.set_cons_succ, i64_w, i32_w]; rfl)
              -- 16: Op.binOp
              refine pure_ (i := 16) (N := some 118) (v := ?_) (a' := ?_) #[true, true, true, true, true, true, true, true, true, true, true, true, true, true, true, true, true, false, false, false, false, false, false, false, false, false, false, false] rfl rfl (any_of HT_.out (by kernel_rfl)) (fun _ _ _ h => h) (Or.inl ⟨by rfl, ?_⟩) ?_ ?_
              rotate_left; (intro w'; go_simp; with_reducible rfl); rotate_left; (simp only [Act.put, List.setIfInBounds_toArray, List.set_cons_zero, List.set_cons_succ, i64_w, i32_w]; rfl)
              -- 17: Op.pick
              refine pure_ (i := 17) (N := some 119) (v := ?_) (a' := ?_) #[true, true, true, true, true, true, true, true, true, true, true, true, true, true, true, true, true, true, false, false, false, false, false, false, false, false, false, false] rfl rfl (any_of HT_.out (by kernel_rfl)) (fun _ _ _ h => h) (Or.inl ⟨by rfl, ?_⟩) ?_ ?_
              rotate_left; (intro w'; go_simp; with_reducible rfl); rotate_left; (simp only [Act.put, List.setIfInBounds_toArray, List.set_cons_zero, List.set_cons_succ, i64_w, i32_w]; rfl)
              -- 18: Op.move
              refine pure_ (i := 18) (N := some 120) (v := ?_) (a' := ?_) #[true, true, true, true, true, true, true, true, true, true, true, true, true, true, true, true, true, true, true, false, false, false, false, false, false, false, false, false] rfl rfl (any_of HT_.out (by kernel_rfl)) (fun _ _ _ h => h) (Or.inl ⟨by rfl, ?_⟩) ?_ ?_
              rotate_left; (intro w'; go_simp; with_reducible rfl); rotate_left; (simp only [Act.put, List.setIfInBounds_toArray, List.set_cons_zero, List.set_cons_succ, i64_w, i32_w]; rfl)
              -- 19: Op.fieldAddr
              refine pure_ (i := 19) (N := some 121) (v := ?_) (a' := ?_) #[true, true, true, true, true, true, true, true, true, true, true, true, true, true, true, true, true, true, true, true, false, false, false, false, false, false, false, false] rfl rfl (any_of HT_.out (by kernel_rfl)) (fun _ _ _ h => h) (Or.inl ⟨by rfl, ?_⟩) ?_ ?_
              rotate_left; (intro w'; go_simp; with_reducible rfl); rotate_left; (simp only [Act.put, List.setIfInBounds_toArray, List.set_cons_zero, List.set_cons_succ, i64_w, i32_w]; rfl)
              -- 20: Op.load
              refine take_ (i := 20) (N := some 122) (v := ?_) (a' := ?_) #[true, true, true, true, true, true, true, true, true, true, true, true, true, true, true, true, true, true, true, true, true, false, false, false, false, false, false, false] rfl rfl (take_ofW HT_.out HW_.out (by kernel_rfl)) (fun _ _ _ h => h) (Or.inl ⟨by rfl, ?_⟩) hHeld ?_ ?_
              rotate_left; (rintro w' ⟨s0, s1, s2, s3, s4⟩; go_simp; with_reducible rfl); rotate_left; (simp only [Act.put, List.setIfInBounds_toArray, List.set_cons_zero, List.set_cons_succ, i64_w, i32_w]; rfl)
              -- 21: Op.binOp
              refine pure_ (i := 21) (N := some 123) (v := ?_) (a' := ?_) #[true, true, true, true, true, true, true, true, true, true, true, true, true, true, true, true, true, true, true, true, true, true, false, false, false, false, false, false] rfl rfl (any_of HT_.out (by kernel_rfl)) (fun _ _ _ h => h) (Or.inl ⟨by rfl, ?_⟩) ?_ ?_
              rotate_left; (intro w'; go_simp; with_reducible rfl); rotate_left; (simp only [Act.put, List.setIfInBounds_toArray, List.set_cons_zero, List.set_cons_succ, i64_w, i32_w]; rfl)
              -- 22: Op.pick
              refine pure_ (i := 22) (N := some 124) (v := ?_) (a' := ?_) #[true, true, true, true, true, true, true, true, true, true, true, true, true, true, true, true, true, true, true, true, true, true, true, false, false, false, false, false] rfl rfl (any_of HT_.out (by kernel_rfl)) (fun _ _ _ h => h) (Or.inl ⟨by rfl, ?_⟩) ?_ ?_
              rotate_left; (intro w'; go_simp; with_reducible rfl); rotate_left; (simp only [Act.put, List.setIfInBounds_toArray, List.set_cons_zero, List.set_cons_succ, i64_w, i32_w]; rfl)
              -- 23: Op.move
              refine pure_ (i := 23) (N := some 125) (v := ?_) (a' := ?_) #[true, true, true, true, true, true, true, true, true, true, true, true, true, true, true, true, true, true, true, true, true, true, true, true, false, false, false, false] rfl rfl (any_of HT_.out (by kernel_rfl)) (fun _ _ _ h => h) (Or.inl ⟨by rfl, ?_⟩) ?_ ?_
              rotate_left; (intro w'; go_simp; with_reducible rfl); rotate_left; (simp only [Act.put, List.setIfInBounds_toArray, List.set_cons_zero, List.set_cons_succ, i64_w, i32_w]; rfl)
              -- 24: Op.fieldAddr
              refine pure_ (i := 24) (N := some 126) (v := ?_) (a' := ?_) #[true, true, true, true, true, true, true, true, true, true, true, true, true, true, true, true, true, true, true, true, true, true, true, true, true, false, false, false] rfl rfl (any_of HT_.out (by kernel_rfl)) (fun _ _ _ h => h) (Or.inl ⟨by rfl, ?_⟩) ?_ ?_
              rotate_left; (intro w'; go_simp; with_reducible rfl); rotate_left; (simp only [Act.put, List.setIfInBounds_toArray, List.set_cons_zero, List.set_cons_succ, i64_w, i32_w]; rfl)
              -- 25: Op.load
              refine take_ (i := 25) (N := some 127) (v := ?_) (a' := ?_) #[true, true, true, true, true, true, true, true, true, true, true, true, true, true, true, true, true, true, true, true, true, true, true, true, true, true, false, false] rfl rfl (take_ofW HT_.out HW_.out (by kernel_rfl)) (fun _ _ _ h => h) (Or.inl ⟨by rfl, ?_⟩) hHeld ?_ ?_
              rotate_left; (rintro w' ⟨s0, s1, s2, s3, s4⟩; go_simp; with_reducible rfl); rotate_left; (simp only [Act.put, List.setIfInBounds_toArray, List.set_cons_zero, List.set_cons_succ, i64_w, i32_w]; rfl)
              -- 26: Op.binOp
              refine pure_ (i := 26) (N := some 128) (v := ?_) (a' := ?_) #[true, true, true, true, true, true, true, true, true, true, true, true, true, true, true, true, true, true, true, true, true, true, true, true, true, true, true, false] rfl rfl (any_of HT_.out (by kernel_rfl)) (fun _ _ _ h => h) (Or.inl ⟨by rfl, ?_⟩) ?_ ?_
              rotate_left; (intro w'; go_simp; with_reducible rfl); rotate_left; (simp only [Act.put, List.setIfInBounds_toArray, List.set_cons_zero, List.set_cons_succ, i64_w, i32_w]; rfl)
              -- 27: Op.pick
              refine pure_ (i := 27) (N := some 129) (v := ?_) (a' := ?_) #[true, true, true, true, true, true, true, true, true, true, true, true, true, true, true, true, true, true, true, true, true, true, true, true, true, true, true, true] rfl rfl (any_of HT_.out (by kernel_rfl)) (fun _ _ _ h => h) (Or.inl ⟨by rfl, ?_⟩) ?_ ?_
              rotate_left; (intro w'; go_simp; with_reducible rfl); rotate_left; (simp only [Act.put, List.setIfInBounds_toArray, List.set_cons_zero, List.set_cons_succ, i64_w, i32_w]; rfl)
              refine done_ (done_of HT_.out (by kernel_rfl)) ?_
              go_wp2
              go_roundg k1
              case measure => omega
              case rel => exact ⟨k + 1, rfl, by omega, ⟨rowS_drew HS4.out⟩⟩
end Go.Proofs.Ytnaefndclalepaa.Net
