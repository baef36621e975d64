/- NetCopies: for every input that can be read the law returns true, and each argument reads behind the call as it read before. No condition. -/
import Derived.Test.YtnaefndclalepaaRows
import Derived.Test.YtnaefndclalepaaCps
import Derived.Test.YtnaefndclalepaaOpen
import Derived.Test.YtnaefndclalepaaPureCps
import Derived.WalkKit
import Derived.ProofKit
import Derived.OpenShut
import Derived.ShutString
import Derived.ChangeOld
import Derived.Below
import Derived.SizedLaws
import Derived.Lib.SmallJoins
namespace Go.Proofs.Ytnaefndclalepaa.netCopies
open Go.ChangeShapes Go.WideShapes Go.ChangeAt Go.RowKit Go.Joins Go.Proofs.YtnaefndclalepaaW.PrintWords Go.Proofs.Ytnaefndclalepaa.Open Go.Proofs.Ytnaefndclalepaa.Net Go.Proofs.Ytnaefndclalepaa.XN
open Go.ChangeMaps (open_string shut_string)
set_option linter.unusedVariables false
set_option linter.unusedSimpArgs false
theorem own : ownKnob Try.prog.godebug = none := by kernel_rfl
theorem laidOut : laidOutB Try.prog = true := by kernel_rfl
theorem op3 : Opens Try.prog 3 (Kd.int .i64) (fun x => (Lit.int .i64 x).wf = true) := Opens.int Try.underlying3 (by kernel_rfl)
theorem op5 : Opens Try.prog 5 (Kd.int .u8) (fun x => (Lit.int .u8 x).wf = true) := Opens.int Try.underlying5 (by kernel_rfl)
theorem op24 : Opens Try.prog 24 (Kd.slice 5 (Kd.int .u8)) (fun x => (x.length ≤ maxLen ∧ ∀ x0 ∈ x, (Lit.int .u8 x0).wf = true)) := Opens.slice Try.underlying24 (by kernel_rfl) op5
theorem op41 : Opens Try.prog 41 k41 (fun x => ((Lit.int .i64 x.f0).wf = true ∧ ((Lit.int .i64 x.f1).wf = true ∧ ((Lit.int .i64 x.f2).wf = true ∧ ((Lit.int .i64 x.f3).wf = true ∧ ((x.f4.length ≤ maxLen ∧ ∀ x0 ∈ x.f4, (Lit.int .u8 x0).wf = true))))))) := Opens.iso (fun x : S41 => (x.f0, x.f1, x.f2, x.f3, x.f4)) (fun p => ⟨p.1, p.2.1, p.2.2.1, p.2.2.2.1, p.2.2.2.2⟩) (fun _ => rfl) (Opens.struct Try.underlying41 (by kernel_rfl) (OpensL.cons rfl op3 (OpensL.cons rfl op3 (OpensL.cons rfl op3 (OpensL.cons rfl op3 (OpensL.one rfl op24))))))
theorem op37 : Opens Try.prog 37 (Kd.slice 41 k41) (fun x => (x.length ≤ maxLen ∧ ∀ x0 ∈ x, ((Lit.int .i64 x0.f0).wf = true ∧ ((Lit.int .i64 x0.f1).wf = true ∧ ((Lit.int .i64 x0.f2).wf = true ∧ ((Lit.int .i64 x0.f3).wf = true ∧ ((x0.f4.length ≤ maxLen ∧ ∀ x1 ∈ x0.f4, (Lit.int .u8 x1).wf = true)))))))) := Opens.slice Try.underlying37 (by kernel_rfl) op41
set_option maxRecDepth 100000 in
theorem lifted (os : Os) (started : os.Started) (H : Type) (enc : TypeId × Value → H) :
    ReturnsInHanded {} Try.checked os 7 .any (Rows.netCopiesSpec.pre6 enc Try.prog Try.f7 Rows.netCopiesRow.domain false) (Rows.netCopiesSpec.post enc Try.prog Try.f7 false true false false) := by
  refine returnsInHanded_of_change_sized (C := Try.checked) own started (by kernel_rfl) Try.func7
    (ChangeSpec.witness6 (enc := enc) (C := Try.checked) false ⟨#[], #[.int .i64 0, .slice none 0 0, .slice none 0 0], []⟩ 8 (by kernel_rfl) (by kernel_rfl) (by kernel_rfl) (by kernel_rfl)) ?_
  intro W base args ds gs before hval0 hW hcnd hsz0 _
  have hsz : (DataW.weightsEach Try.prog (Try.f7.params.toList ++ Rows.netCopiesSpec.plain.varTypes Try.prog) (ds ++ gs)).all (· ≤ reachBytes) = true := hsz0
  have hval : ∀ (j : Nat) t v, Try.f7.params[j]? = some t → args[j]? = some v → Value.okWide Try.prog W .any base t v := hval0
  have hW' := hW
  obtain ⟨p, q, hA0, hV, rfl, hfz, hnd⟩ := hW
  have hA : DataW.TrodAll enc Try.prog W 0 (fun _ => true) true Try.f7.params.toList args.toList ds p := hA0
  rw [Try.params7] at hA hval hsz
  obtain ⟨v0, vs0, d0, ds0, p0, q0, hargs, rfl, rfl, h0, r0⟩ := trodAll_cons hA
  obtain ⟨v1, vs1, d1, ds1, p1, q1, rfl, rfl, rfl, h1, r1⟩ := trodAll_cons r0
  obtain ⟨v2, vs2, d2, ds2, p2, q2, rfl, rfl, rfl, h2, r2⟩ := trodAll_cons r1
  obtain ⟨rfl, rfl, rfl⟩ := trodAll_nil r2
  obtain rfl : args = #[v0, v1, v2] := by cases args; simp_all
  obtain ⟨rfl, rfl⟩ := trodVars_none hV
  obtain ⟨a0, rfl, rfl, rfl, g0⟩ := open_int Try.underlying3 (hval 0 3 v0 rfl rfl) h0
  have k1 := h1
  have lt1 : ∀ x ∈ p1, x.block < W.heap.size := by obtain ⟨m, hm⟩ := k1; exact DataW.trod_lt m _ _ _ hm
  obtain ⟨a1, len1, cap1, rfl⟩ := okWide_slice Try.underlying37 (hval 1 37 v1 rfl rfl)
  obtain ⟨l1, hx1, g1⟩ : ∃ l, ((Kd.slice 41 k41)).K W l [.slice a1 len1 cap1] ∧ (l.length ≤ maxLen ∧ ∀ x0 ∈ l, ((Lit.int .i64 x0.f0).wf = true ∧ ((Lit.int .i64 x0.f1).wf = true ∧ ((Lit.int .i64 x0.f2).wf = true ∧ ((Lit.int .i64 x0.f3).wf = true ∧ ((x0.f4.length ≤ maxLen ∧ ∀ x1 ∈ x0.f4, (Lit.int .u8 x1).wf = true))))))) := by obtain ⟨fuel, hf⟩ := h1; exact op37.get hf
  obtain ⟨A1, c1, e1, hc1, hr1⟩ := hx1
  obtain ⟨rfl, rfl, rfl⟩ : a1 = A1 ∧ len1 = l1.length ∧ cap1 = c1 := by injection e1 with e _; injection e with e1 e2 e3; exact ⟨e1, e2, e3⟩
  have k2 := h2
  have lt2 : ∀ x ∈ p2, x.block < W.heap.size := by obtain ⟨m, hm⟩ := k2; exact DataW.trod_lt m _ _ _ hm
  obtain ⟨a2, len2, cap2, rfl⟩ := okWide_slice Try.underlying37 (hval 2 37 v2 rfl rfl)
  obtain ⟨l2, hx2, g2⟩ : ∃ l, ((Kd.slice 41 k41)).K W l [.slice a2 len2 cap2] ∧ (l.length ≤ maxLen ∧ ∀ x0 ∈ l, ((Lit.int .i64 x0.f0).wf = true ∧ ((Lit.int .i64 x0.f1).wf = true ∧ ((Lit.int .i64 x0.f2).wf = true ∧ ((Lit.int .i64 x0.f3).wf = true ∧ ((x0.f4.length ≤ maxLen ∧ ∀ x1 ∈ x0.f4, (Lit.int .u8 x1).wf = true))))))) := by obtain ⟨fuel, hf⟩ := h2; exact op37.get hf
  obtain ⟨A2, c2, e2, hc2, hr2⟩ := hx2
  obtain ⟨rfl, rfl, rfl⟩ : a2 = A2 ∧ len2 = l2.length ∧ cap2 = c2 := by injection e2 with e _; injection e with e1 e2 e3; exact ⟨e1, e2, e3⟩
  have h := Go.Proofs.Ytnaefndclalepaa.Net.NetCopiesP a0 l1 l2 g0 g1 g2
  refine (scrivenerlaw05_NetCopies.calls a0 _ _ l1 _ _ l2 true W hr1 hc1 hr2 hc2 h).mono ?_
  rintro e W' ⟨he, bel⟩
  subst he
  exact ⟨_, rfl, _, _, _, [], _, [], hW', trodAll_mk1 (shut_bool Try.underlying4 _), (trodAll_cons_mk (shut_int Try.underlying3 g0) (trodAll_cons_mk (Below.trod laidOut (by kernel_rfl) (of_decide_eq_true (by kernel_rfl)) k1 bel lt1) (trodAll_cons_mk (Below.trod laidOut (by kernel_rfl) (of_decide_eq_true (by kernel_rfl)) k2 bel lt2) trodAll_mk0))), rfl, bel.frame _, fun h => by cases h⟩
theorem over : Rows.netCopiesRow.holds Try.pinned (OpenSpec.ofChange Rows.netCopiesSpec) :=
  OpenClaim.holds_of_wide 7 Try.f7 rfl rfl rfl rfl rfl rfl rfl ⟨rfl, rfl, rfl, rfl, rfl⟩ rfl rfl rfl rfl rfl (by kernel_rfl) Try.func7 (by kernel_rfl)
    (of_decide_eq_true (by kernel_rfl)) (by unfold Func.isWrapper; first | (rw [if_pos (by decide +kernel)]; kernel_rfl) | (rw [if_neg (by decide +kernel)]; exact ⟨rfl, rfl⟩))
    (fun os started H enc _ => lifted os started H enc)
theorem proved : Rows.NetCopiesSaid := over
#print axioms proved
end Go.Proofs.Ytnaefndclalepaa.netCopies
namespace Go.Proofs.Ytnaefndclalepaa
/-- The row, under a short name, for the claim. -/
theorem netCopies_holds : Rows.NetCopiesSaid := netCopies.proved
end Go.Proofs.Ytnaefndclalepaa
