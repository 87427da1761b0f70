import Derived.Test.YtbjdipbhclihfaaDoorE13
set_option linter.unusedVariables false
set_option linter.unusedSimpArgs false
namespace Go.Proofs.YtbjdipbhclihfaaDoor
open Go.RowKit Go.Proofs Go.Proofs.YtbjdipbhclihfaaDoorW.PrintWords Plain
set_option maxRecDepth 100000 in
/-- Two pictures of one and the same reading are one. -/
theorem picture25 (k x h d c : Int) (m t : ByteArray) (A : Option Addr) (ca : Nat) (A2 : Option Addr) (cb : Nat) (xs : List Int) (w : World) (h1 : (Kd.int .u8).C w A xs.length xs) (hc1 : xs.length ≤ ca) (h2 : (Kd.int .u8).C w A2 xs.length xs) (hc2 : xs.length ≤ cb) :
    Calls Tryd.prog 25 #[.agg #[.int .i64 k, .string m, .string t, .int .i64 x, .int .i64 h, .int .i64 d, .int .i64 c, .slice A xs.length ca], .agg #[.int .i64 k, .string m, .string t, .int .i64 x, .int .i64 h, .int .i64 d, .int .i64 c, .slice A2 xs.length cb]] w fun e w' => e = .returned (.bool true) ∧ Below w.heap.size w w' := by
  have hb : Below w.heap.size w ((w.alloc (.cells #[.int .i64 k, .string m, .string t, .int .i64 x, .int .i64 h, .int .i64 d, .int .i64 c, .slice A xs.length ca] 45)).alloc (.cells #[.int .i64 k, .string m, .string t, .int .i64 x, .int .i64 h, .int .i64 d, .int .i64 c, .slice A2 xs.length cb] 45)) := below_alloc (below_alloc (Below.refl _ _) _) _
  have HB := Lib.hid hb
  have HC1 := Lib.hid (Kd.C_below h1 hb)
  have HC2 := Lib.hid (Kd.C_below h2 hb)
  have H1 := Lib.hid hc1
  have H2 := Lib.hid hc2
  clear h1 h2 hc1 hc2 hb
  go_enter Tryd.func25, Tryd.ntmps25
  go_wp2_with (fail)
  refine (bytes18 A ca xs A2 cb xs _ HC1.out H1.out HC2.out H2.out).mono ?_
  rintro e w4 ⟨rfl, ⟨n4, rfl⟩⟩
  rw [decide_eq_true rfl]
  go_wp2_with (fail)
  go_ret
  exact ⟨rfl, pw_below_drewN HB.out n4⟩
end Go.Proofs.YtbjdipbhclihfaaDoor
