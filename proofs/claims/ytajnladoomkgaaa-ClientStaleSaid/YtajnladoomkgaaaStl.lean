/- ClientStale: every case joined. -/
import Derived.Test.YtajnladoomkgaaaSc5
import Derived.Test.YtajnladoomkgaaaSc6
import Derived.Test.YtajnladoomkgaaaSc7
import Derived.Test.YtajnladoomkgaaaSc8
import Derived.Test.YtajnladoomkgaaaSc9
namespace Go.Proofs.Ytajnladoomkgaaa.Cli
set_option linter.unusedVariables false
set_option linter.unusedSimpArgs false
open Go.RowKit Go.Proofs.YtajnladoomkgaaaW.PrintWords Go.Proofs.YtajnladoomkgaaaW.PrintLast Go.Proofs.YtajnladoomkgaaaW.PrintMore Go.Proofs.Ytajnladoomkgaaa.XC
attribute [local go_sem] max2_int min2_int max_two min_two

theorem scrivenerlaw23_ClientStale.calls (id inc : Int) (A : Option Addr) (k : Nat) (l : List Int)
    (x0 x1 x2 x3 x4 x5 x6 x7 : Int) (Ax : Option Addr) (kx : Nat) (x8 : List Int)
    (y0 y1 y2 y3 y4 y5 y6 y7 : Int) (Ay : Option Addr) (ky : Nat) (y8 : List Int)
    (r0 r1 r2 r3 r4 r5 r6 r7 : Int) (Ar : Option Addr) (kr : Nat) (r8 : List Int) (now : Int) (b : Bool) (w : World)
    (hC : Kd.C (Kd.int .i64) w A l.length l) (hk : l.length ≤ k) (hl : l.length * 8 ≤ 140737488351232)
    (h1 : Kd.C (Kd.int .u8) w Ax x8.length x8) (hl1 : x8.length ≤ kx) (h2 : Kd.C (Kd.int .u8) w Ay y8.length y8) (hl2 : y8.length ≤ ky)
    (h3 : Kd.C (Kd.int .u8) w Ar r8.length r8) (hl3 : r8.length ≤ kr) (h : true = b) :
    Calls Try.prog 5 #[.int .i64 id, .int .u64 inc, .slice A l.length k, .agg #[.int .i64 x0, .int .u64 x1, .int .u64 x2, .int .i64 x3, .int .i64 x4, .int .i64 x5, .int .u64 x6, .int .u64 x7, .slice Ax x8.length kx],
      .agg #[.int .i64 y0, .int .u64 y1, .int .u64 y2, .int .i64 y3, .int .i64 y4, .int .i64 y5, .int .u64 y6, .int .u64 y7, .slice Ay y8.length ky], .agg #[.int .i64 r0, .int .u64 r1, .int .u64 r2, .int .i64 r3, .int .u64 r4, .int .i64 r5, .int .i64 r6, .int .u64 r7, .slice Ar r8.length kr], .int .u64 now] w fun e w' => e = .returned (.bool b) ∧ Below w.heap.size w w' := by
  subst h
  rcases ho : newOk id inc l with _ | _
  · exact stale_no id inc A k l (⟨x0, x1, x2, x3, x4, x5, x6, x7, x8⟩ : S27) Ax kx (⟨y0, y1, y2, y3, y4, y5, y6, y7, y8⟩ : S27) Ay ky (⟨r0, r1, r2, r3, r4, r5, r6, r7, r8⟩ : S36) Ar kr now w hC hk hl h1 hl1 h2 hl2 h3 hl3 ho
  rcases Nat.lt_or_ge 5000 x8.length with h5 | h5
  · exact stale_l1 id inc A k l (⟨x0, x1, x2, x3, x4, x5, x6, x7, x8⟩ : S27) Ax kx (⟨y0, y1, y2, y3, y4, y5, y6, y7, y8⟩ : S27) Ay ky (⟨r0, r1, r2, r3, r4, r5, r6, r7, r8⟩ : S36) Ar kr now w hC hk hl h1 hl1 h2 hl2 h3 hl3 ho h5
  rcases Nat.lt_or_ge 5000 y8.length with h6 | h6
  · exact stale_l2 id inc A k l (⟨x0, x1, x2, x3, x4, x5, x6, x7, x8⟩ : S27) Ax kx (⟨y0, y1, y2, y3, y4, y5, y6, y7, y8⟩ : S27) Ay ky (⟨r0, r1, r2, r3, r4, r5, r6, r7, r8⟩ : S36) Ar kr now w hC hk hl h1 hl1 h2 hl2 h3 hl3 ho h5 h6
  rcases Nat.lt_or_ge 5000 r8.length with h7 | h7
  · exact stale_l3 id inc A k l (⟨x0, x1, x2, x3, x4, x5, x6, x7, x8⟩ : S27) Ax kx (⟨y0, y1, y2, y3, y4, y5, y6, y7, y8⟩ : S27) Ay ky (⟨r0, r1, r2, r3, r4, r5, r6, r7, r8⟩ : S36) Ar kr now w hC hk hl h1 hl1 h2 hl2 h3 hl3 ho h5 h6 h7
  rcases hm1 : mayB (begun (newCli id inc l) (⟨x0, x1, x2, x3, x4, x5, x6, x7, x8⟩ : S27)) with _ | _
  · exact stale_a1 id inc A k l (⟨x0, x1, x2, x3, x4, x5, x6, x7, x8⟩ : S27) Ax kx (⟨y0, y1, y2, y3, y4, y5, y6, y7, y8⟩ : S27) Ay ky (⟨r0, r1, r2, r3, r4, r5, r6, r7, r8⟩ : S36) Ar kr now w hC hk hl h1 hl1 h2 hl2 h3 hl3 ho h5 h6 h7 hm1
  rcases hm2 : mayB { (⟨y0, y1, y2, y3, y4, y5, y6, y7, y8⟩ : S27) with f0 := id, f1 := inc, f2 := 2 } with _ | _
  · exact stale_a2 id inc A k l (⟨x0, x1, x2, x3, x4, x5, x6, x7, x8⟩ : S27) Ax kx (⟨y0, y1, y2, y3, y4, y5, y6, y7, y8⟩ : S27) Ay ky (⟨r0, r1, r2, r3, r4, r5, r6, r7, r8⟩ : S36) Ar kr now w hC hk hl h1 hl1 h2 hl2 h3 hl3 ho h5 h6 h7 hm1 hm2
  by_cases g0 : r0 = id
  · by_cases g1 : r1 = inc
    · by_cases g2 : r2 = 2
      · exact stale_hit id inc A k l (⟨x0, x1, x2, x3, x4, x5, x6, x7, x8⟩ : S27) Ax kx (⟨y0, y1, y2, y3, y4, y5, y6, y7, y8⟩ : S27) Ay ky (⟨r0, r1, r2, r3, r4, r5, r6, r7, r8⟩ : S36) Ar kr now w hC hk hl h1 hl1 h2 hl2 h3 hl3 ho h5 h6 h7 hm1 hm2 g0 g1 g2
      · exact stale_miss2 id inc A k l (⟨x0, x1, x2, x3, x4, x5, x6, x7, x8⟩ : S27) Ax kx (⟨y0, y1, y2, y3, y4, y5, y6, y7, y8⟩ : S27) Ay ky (⟨r0, r1, r2, r3, r4, r5, r6, r7, r8⟩ : S36) Ar kr now w hC hk hl h1 hl1 h2 hl2 h3 hl3 ho h5 h6 h7 hm1 hm2 g0 g1 g2
    · exact stale_miss1 id inc A k l (⟨x0, x1, x2, x3, x4, x5, x6, x7, x8⟩ : S27) Ax kx (⟨y0, y1, y2, y3, y4, y5, y6, y7, y8⟩ : S27) Ay ky (⟨r0, r1, r2, r3, r4, r5, r6, r7, r8⟩ : S36) Ar kr now w hC hk hl h1 hl1 h2 hl2 h3 hl3 ho h5 h6 h7 hm1 hm2 g0 g1
  · exact stale_miss0 id inc A k l (⟨x0, x1, x2, x3, x4, x5, x6, x7, x8⟩ : S27) Ax kx (⟨y0, y1, y2, y3, y4, y5, y6, y7, y8⟩ : S27) Ay ky (⟨r0, r1, r2, r3, r4, r5, r6, r7, r8⟩ : S36) Ar kr now w hC hk hl h1 hl1 h2 hl2 h3 hl3 ho h5 h6 h7 hm1 hm2 g0
theorem PT (a0 a1 : Int) (l2 : List Int) (x3 x4 : S27) (x5 : S36) (a6 : Int) {p0 p1 p2 p3 p4 p5 p6 : Prop} (g0 : p0) (g1 : p1) (g2 : p2) (g3 : p3) (g4 : p4) (g5 : p5) (g6 : p6) : true = true := rfl
end Go.Proofs.Ytajnladoomkgaaa.Cli
