/- ClientStale: for every input that can be read the law returns true, and each argument reads behind the call as it read before. No condition. -/
import Derived.Test.YtajnladoomkgaaaRows
import Derived.Test.YtajnladoomkgaaaWSized
import Derived.Test.YtajnladoomkgaaaStl
import Derived.Test.YtajnladoomkgaaaOpen
import Derived.Test.YtajnladoomkgaaaStl
import Derived.WalkKit
import Derived.ProofKit
import Derived.OpenShut
import Derived.ShutString
import Derived.ChangeOld
import Derived.Below
import Derived.SizedLaws
import Derived.Lib.SmallJoins
namespace Go.Proofs.Ytajnladoomkgaaa.clientStale
open Go.ChangeShapes Go.WideShapes Go.ChangeAt Go.RowKit Go.Joins Go.Proofs.YtajnladoomkgaaaW.PrintWords Go.Proofs.Ytajnladoomkgaaa.Open Go.Proofs.Ytajnladoomkgaaa.Cli Go.Proofs.Ytajnladoomkgaaa.XC
open Go.ChangeMaps (open_string shut_string)
set_option linter.unusedVariables false
set_option linter.unusedSimpArgs false
theorem own : ownKnob Try.prog.godebug = none := by kernel_rfl
theorem laidOut : laidOutB Try.prog = true := by kernel_rfl
theorem op3 : Opens Try.prog 3 (Kd.int .i64) (fun x => (Lit.int .i64 x).wf = true) := Opens.int Try.underlying3 (by kernel_rfl)
theorem op23 : Opens Try.prog 23 (Kd.slice 3 (Kd.int .i64)) (fun x => (x.length ≤ maxLen ∧ ∀ x0 ∈ x, (Lit.int .i64 x0).wf = true)) := Opens.slice Try.underlying23 (by kernel_rfl) op3
theorem op22 : Opens Try.prog 22 (Kd.int .u64) (fun x => (Lit.int .u64 x).wf = true) := Opens.int Try.underlying22 (by kernel_rfl)
theorem op5 : Opens Try.prog 5 (Kd.int .u8) (fun x => (Lit.int .u8 x).wf = true) := Opens.int Try.underlying5 (by kernel_rfl)
theorem op25 : Opens Try.prog 25 (Kd.slice 5 (Kd.int .u8)) (fun x => (x.length ≤ maxLen ∧ ∀ x0 ∈ x, (Lit.int .u8 x0).wf = true)) := Opens.slice Try.underlying25 (by kernel_rfl) op5
theorem op27 : Opens Try.prog 27 k27 (fun x => ((Lit.int .i64 x.f0).wf = true ∧ ((Lit.int .u64 x.f1).wf = true ∧ ((Lit.int .u64 x.f2).wf = true ∧ ((Lit.int .i64 x.f3).wf = true ∧ ((Lit.int .i64 x.f4).wf = true ∧ ((Lit.int .i64 x.f5).wf = true ∧ ((Lit.int .u64 x.f6).wf = true ∧ ((Lit.int .u64 x.f7).wf = true ∧ ((x.f8.length ≤ maxLen ∧ ∀ x0 ∈ x.f8, (Lit.int .u8 x0).wf = true))))))))))) := Opens.iso (fun x : S27 => (x.f0, x.f1, x.f2, x.f3, x.f4, x.f5, x.f6, x.f7, x.f8)) (fun p => ⟨p.1, p.2.1, p.2.2.1, p.2.2.2.1, p.2.2.2.2.1, p.2.2.2.2.2.1, p.2.2.2.2.2.2.1, p.2.2.2.2.2.2.2.1, p.2.2.2.2.2.2.2.2⟩) (fun _ => rfl) (Opens.struct Try.underlying27 (by kernel_rfl) (OpensL.cons rfl op3 (OpensL.cons rfl op22 (OpensL.cons rfl op22 (OpensL.cons rfl op3 (OpensL.cons rfl op3 (OpensL.cons rfl op3 (OpensL.cons rfl op22 (OpensL.cons rfl op22 (OpensL.one rfl op25))))))))))
theorem op34 : Opens Try.prog 34 (Kd.int .i64) (fun x => (Lit.int .i64 x).wf = true) := Opens.int Try.underlying34 (by kernel_rfl)
theorem op36 : Opens Try.prog 36 k36 (fun x => ((Lit.int .i64 x.f0).wf = true ∧ ((Lit.int .u64 x.f1).wf = true ∧ ((Lit.int .u64 x.f2).wf = true ∧ ((Lit.int .i64 x.f3).wf = true ∧ ((Lit.int .u64 x.f4).wf = true ∧ ((Lit.int .i64 x.f5).wf = true ∧ ((Lit.int .i64 x.f6).wf = true ∧ ((Lit.int .u64 x.f7).wf = true ∧ ((x.f8.length ≤ maxLen ∧ ∀ x0 ∈ x.f8, (Lit.int .u8 x0).wf = true))))))))))) := Opens.iso (fun x : S36 => (x.f0, x.f1, x.f2, x.f3, x.f4, x.f5, x.f6, x.f7, x.f8)) (fun p => ⟨p.1, p.2.1, p.2.2.1, p.2.2.2.1, p.2.2.2.2.1, p.2.2.2.2.2.1, p.2.2.2.2.2.2.1, p.2.2.2.2.2.2.2.1, p.2.2.2.2.2.2.2.2⟩) (fun _ => rfl) (Opens.struct Try.underlying36 (by kernel_rfl) (OpensL.cons rfl op3 (OpensL.cons rfl op22 (OpensL.cons rfl op22 (OpensL.cons rfl op34 (OpensL.cons rfl op22 (OpensL.cons rfl op3 (OpensL.cons rfl op3 (OpensL.cons rfl op22 (OpensL.one rfl op25))))))))))
set_option maxRecDepth 100000 in
theorem lifted (os : Os) (started : os.Started) (H : Type) (enc : TypeId × Value → H) :
    ReturnsInHanded {} Try.checked os 5 .any (Rows.clientStaleSpec.pre6 enc Try.prog Try.f5 Rows.clientStaleRow.domain false) (Rows.clientStaleSpec.post enc Try.prog Try.f5 false true false false) := by
  refine returnsInHanded_of_change_sized (C := Try.checked) own started (by kernel_rfl) Try.func5
    (ChangeSpec.witness6 (enc := enc) (C := Try.checked) false ⟨#[], #[.int .i64 0, .int .u64 0, .slice none 0 0, .agg #[.int .i64 0, .int .u64 0, .int .u64 0, .int .i64 0, .int .i64 0, .int .i64 0, .int .u64 0, .int .u64 0, .slice none 0 0], .agg #[.int .i64 0, .int .u64 0, .int .u64 0, .int .i64 0, .int .i64 0, .int .i64 0, .int .u64 0, .int .u64 0, .slice none 0 0], .agg #[.int .i64 0, .int .u64 0, .int .u64 0, .int .i64 0, .int .u64 0, .int .i64 0, .int .i64 0, .int .u64 0, .slice none 0 0], .int .u64 0], []⟩ 8 (by kernel_rfl) (by kernel_rfl) (by kernel_rfl) (by kernel_rfl)) ?_
  intro W base args ds gs before hval0 hW hcnd hsz0 _
  have hsz : (DataW.weightsEach Try.prog (Try.f5.params.toList ++ Rows.clientStaleSpec.plain.varTypes Try.prog) (ds ++ gs)).all (· ≤ reachBytes) = true := hsz0
  have hval : ∀ (j : Nat) t v, Try.f5.params[j]? = some t → args[j]? = some v → Value.okWide Try.prog W .any base t v := hval0
  have hW' := hW
  obtain ⟨p, q, hA0, hV, rfl, hfz, hnd⟩ := hW
  have hA : DataW.TrodAll enc Try.prog W 0 (fun _ => true) true Try.f5.params.toList args.toList ds p := hA0
  rw [Try.params5] at hA hval hsz
  obtain ⟨v0, vs0, d0, ds0, p0, q0, hargs, rfl, rfl, h0, r0⟩ := trodAll_cons hA
  obtain ⟨v1, vs1, d1, ds1, p1, q1, rfl, rfl, rfl, h1, r1⟩ := trodAll_cons r0
  obtain ⟨v2, vs2, d2, ds2, p2, q2, rfl, rfl, rfl, h2, r2⟩ := trodAll_cons r1
  obtain ⟨v3, vs3, d3, ds3, p3, q3, rfl, rfl, rfl, h3, r3⟩ := trodAll_cons r2
  obtain ⟨v4, vs4, d4, ds4, p4, q4, rfl, rfl, rfl, h4, r4⟩ := trodAll_cons r3
  obtain ⟨v5, vs5, d5, ds5, p5, q5, rfl, rfl, rfl, h5, r5⟩ := trodAll_cons r4
  obtain ⟨v6, vs6, d6, ds6, p6, q6, rfl, rfl, rfl, h6, r6⟩ := trodAll_cons r5
  obtain ⟨rfl, rfl, rfl⟩ := trodAll_nil r6
  obtain rfl : args = #[v0, v1, v2, v3, v4, v5, v6] := by cases args; simp_all
  obtain ⟨rfl, rfl⟩ := trodVars_none hV
  obtain ⟨a0, rfl, rfl, rfl, g0⟩ := open_int Try.underlying3 (hval 0 3 v0 rfl rfl) h0
  obtain ⟨a1, rfl, rfl, rfl, g1⟩ := open_int Try.underlying22 (hval 1 22 v1 rfl rfl) h1
  have k2 := h2
  have lt2 : ∀ x ∈ p2, x.block < W.heap.size := by obtain ⟨m, hm⟩ := k2; exact DataW.trod_lt m _ _ _ hm
  obtain ⟨a2, len2, cap2, rfl⟩ := okWide_slice Try.underlying23 (hval 2 23 v2 rfl rfl)
  obtain ⟨l2, hx2, g2⟩ : ∃ l, ((Kd.slice 3 (Kd.int .i64))).K W l [.slice a2 len2 cap2] ∧ (l.length ≤ maxLen ∧ ∀ x0 ∈ l, (Lit.int .i64 x0).wf = true) := by obtain ⟨fuel, hf⟩ := h2; exact op23.get hf
  obtain ⟨A2, c2, e2, hc2, hr2⟩ := hx2
  obtain ⟨rfl, rfl, rfl⟩ : a2 = A2 ∧ len2 = l2.length ∧ cap2 = c2 := by injection e2 with e _; injection e with e1 e2 e3; exact ⟨e1, e2, e3⟩
  have z2 := Go.Proofs.YtajnladoomkgaaaW.PrintWords.sized_ints hsz (j := 2) (t := 23) rfl rfl Try.underlying23 Try.underlying3 (by kernel_rfl) (B := 8) (by kernel_rfl) k2
  have k3 := h3
  have lt3 : ∀ x ∈ p3, x.block < W.heap.size := by obtain ⟨m, hm⟩ := k3; exact DataW.trod_lt m _ _ _ hm
  obtain ⟨cs3, rfl, _⟩ := okWide_struct Try.underlying27 (hval 3 27 v3 rfl rfl)
  obtain ⟨x3, hx3, g3⟩ : ∃ x : S27, k27.K W x cs3.toList ∧ ((Lit.int .i64 x.f0).wf = true ∧ ((Lit.int .u64 x.f1).wf = true ∧ ((Lit.int .u64 x.f2).wf = true ∧ ((Lit.int .i64 x.f3).wf = true ∧ ((Lit.int .i64 x.f4).wf = true ∧ ((Lit.int .i64 x.f5).wf = true ∧ ((Lit.int .u64 x.f6).wf = true ∧ ((Lit.int .u64 x.f7).wf = true ∧ ((x.f8.length ≤ maxLen ∧ ∀ x0 ∈ x.f8, (Lit.int .u8 x0).wf = true)))))))))) := by obtain ⟨fuel, hf⟩ := h3; exact op27.get hf
  obtain ⟨A3_8, c3_8, e3, hc3_8, hr3_8⟩ := k27_open hx3
  obtain rfl : cs3 = #[.int .i64 x3.f0, .int .u64 x3.f1, .int .u64 x3.f2, .int .i64 x3.f3, .int .i64 x3.f4, .int .i64 x3.f5, .int .u64 x3.f6, .int .u64 x3.f7, .slice A3_8 x3.f8.length c3_8] := Array.toList_inj.1 e3
  have k4 := h4
  have lt4 : ∀ x ∈ p4, x.block < W.heap.size := by obtain ⟨m, hm⟩ := k4; exact DataW.trod_lt m _ _ _ hm
  obtain ⟨cs4, rfl, _⟩ := okWide_struct Try.underlying27 (hval 4 27 v4 rfl rfl)
  obtain ⟨x4, hx4, g4⟩ : ∃ x : S27, k27.K W x cs4.toList ∧ ((Lit.int .i64 x.f0).wf = true ∧ ((Lit.int .u64 x.f1).wf = true ∧ ((Lit.int .u64 x.f2).wf = true ∧ ((Lit.int .i64 x.f3).wf = true ∧ ((Lit.int .i64 x.f4).wf = true ∧ ((Lit.int .i64 x.f5).wf = true ∧ ((Lit.int .u64 x.f6).wf = true ∧ ((Lit.int .u64 x.f7).wf = true ∧ ((x.f8.length ≤ maxLen ∧ ∀ x0 ∈ x.f8, (Lit.int .u8 x0).wf = true)))))))))) := by obtain ⟨fuel, hf⟩ := h4; exact op27.get hf
  obtain ⟨A4_8, c4_8, e4, hc4_8, hr4_8⟩ := k27_open hx4
  obtain rfl : cs4 = #[.int .i64 x4.f0, .int .u64 x4.f1, .int .u64 x4.f2, .int .i64 x4.f3, .int .i64 x4.f4, .int .i64 x4.f5, .int .u64 x4.f6, .int .u64 x4.f7, .slice A4_8 x4.f8.length c4_8] := Array.toList_inj.1 e4
  have k5 := h5
  have lt5 : ∀ x ∈ p5, x.block < W.heap.size := by obtain ⟨m, hm⟩ := k5; exact DataW.trod_lt m _ _ _ hm
  obtain ⟨cs5, rfl, _⟩ := okWide_struct Try.underlying36 (hval 5 36 v5 rfl rfl)
  obtain ⟨x5, hx5, g5⟩ : ∃ x : S36, k36.K W x cs5.toList ∧ ((Lit.int .i64 x.f0).wf = true ∧ ((Lit.int .u64 x.f1).wf = true ∧ ((Lit.int .u64 x.f2).wf = true ∧ ((Lit.int .i64 x.f3).wf = true ∧ ((Lit.int .u64 x.f4).wf = true ∧ ((Lit.int .i64 x.f5).wf = true ∧ ((Lit.int .i64 x.f6).wf = true ∧ ((Lit.int .u64 x.f7).wf = true ∧ ((x.f8.length ≤ maxLen ∧ ∀ x0 ∈ x.f8, (Lit.int .u8 x0).wf = true)))))))))) := by obtain ⟨fuel, hf⟩ := h5; exact op36.get hf
  obtain ⟨A5_8, c5_8, e5, hc5_8, hr5_8⟩ := k36_open hx5
  obtain rfl : cs5 = #[.int .i64 x5.f0, .int .u64 x5.f1, .int .u64 x5.f2, .int .i64 x5.f3, .int .u64 x5.f4, .int .i64 x5.f5, .int .i64 x5.f6, .int .u64 x5.f7, .slice A5_8 x5.f8.length c5_8] := Array.toList_inj.1 e5
  obtain ⟨a6, rfl, rfl, rfl, g6⟩ := open_int Try.underlying22 (hval 6 22 v6 rfl rfl) h6
  have h := Go.Proofs.Ytajnladoomkgaaa.Cli.PT a0 a1 l2 x3 x4 x5 a6 g0 g1 g2 g3 g4 g5 g6
  refine (scrivenerlaw23_ClientStale.calls a0 a1 _ _ l2 x3.f0 x3.f1 x3.f2 x3.f3 x3.f4 x3.f5 x3.f6 x3.f7 _ _ x3.f8 x4.f0 x4.f1 x4.f2 x4.f3 x4.f4 x4.f5 x4.f6 x4.f7 _ _ x4.f8 x5.f0 x5.f1 x5.f2 x5.f3 x5.f4 x5.f5 x5.f6 x5.f7 _ _ x5.f8 a6 true W hr2 hc2 z2 hr3_8 hc3_8 hr4_8 hc4_8 hr5_8 hc5_8 h).mono ?_
  rintro e W' ⟨he, bel⟩
  subst he
  exact ⟨_, rfl, _, _, _, [], _, [], hW', trodAll_mk1 (shut_bool Try.underlying4 _), (trodAll_cons_mk (shut_int Try.underlying3 g0) (trodAll_cons_mk (shut_int Try.underlying22 g1) (trodAll_cons_mk (Below.trod laidOut (by kernel_rfl) (of_decide_eq_true (by kernel_rfl)) k2 bel lt2) (trodAll_cons_mk (Below.trod laidOut (by kernel_rfl) (of_decide_eq_true (by kernel_rfl)) k3 bel lt3) (trodAll_cons_mk (Below.trod laidOut (by kernel_rfl) (of_decide_eq_true (by kernel_rfl)) k4 bel lt4) (trodAll_cons_mk (Below.trod laidOut (by kernel_rfl) (of_decide_eq_true (by kernel_rfl)) k5 bel lt5) (trodAll_cons_mk (shut_int Try.underlying22 g6) trodAll_mk0))))))), rfl, bel.frame _, fun h => by cases h⟩
theorem over : Rows.clientStaleRow.holds Try.pinned (OpenSpec.ofChange Rows.clientStaleSpec) :=
  OpenClaim.holds_of_wide 5 Try.f5 rfl rfl rfl rfl rfl rfl rfl ⟨rfl, rfl, rfl, rfl, rfl⟩ rfl rfl rfl rfl rfl (by kernel_rfl) Try.func5 (by kernel_rfl)
    (of_decide_eq_true (by kernel_rfl)) (by unfold Func.isWrapper; first | (rw [if_pos (by decide +kernel)]; kernel_rfl) | (rw [if_neg (by decide +kernel)]; exact ⟨rfl, rfl⟩))
    (fun os started H enc _ => lifted os started H enc)
theorem proved : Rows.ClientStaleSaid := over
#print axioms proved
end Go.Proofs.Ytajnladoomkgaaa.clientStale
namespace Go.Proofs.Ytajnladoomkgaaa
/-- The row, under a short name, for the claim. -/
theorem clientStale_holds : Rows.ClientStaleSaid := clientStale.proved
end Go.Proofs.Ytajnladoomkgaaa
