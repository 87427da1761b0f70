import Derived.Test.YtbjdipbhclihfaaDoorA8
set_option linter.unusedVariables false
namespace Go.Proofs.YtbjdipbhclihfaaDoor
open Go.RowKit Go.Proofs Go.Proofs.YtbjdipbhclihfaaDoorW.PrintWords
/-- A number as four bytes, the lowest first. -/
def low4 (n : Int) : List Int := [n % 256, n / 256 % 256, n / 65536 % 256, n / 16777216 % 256]
theorem low39 (n : Int) (w : World) :
    Calls Tryd.prog 39 #[.int .i64 n] w fun e w' => ∃ v, e = .returned v ∧ BYT w' w.heap.size v (low4 n) ∧ Below w.heap.size w w' := by
  go_enter Tryd.func39, Tryd.ntmps39
  go_wp2
  go_ret
  refine ⟨_, rfl, ?_, below_alloc (Below.refl _ _) _⟩
  have h := Kd.R_of_own (enc := Value.int .u8) (h1 := fun _ => rfl) (own_lit w w.heap.size 5 .u8 (low4 n) (Nat.le_refl _) (by show 4 ≤ 9223372036854775807; decide)) (ok := fun _ => True) (fun _ _ => trivial)
  exact h
theorem full40 (A : Option Addr) (n c : Nat) (w : World) :
    Calls Tryd.prog 40 #[.slice A n c] w fun e w' => e = .returned (.tuple #[if n ≤ 16777215 then .slice A n c else .slice none 0 0, .int .i64 (if n ≤ 16777215 then 0 else 21)]) ∧ w = w' := by
  by_cases h : n ≤ 16777215
  · simp only [if_pos h]
    go_enter Tryd.func40, Tryd.ntmps40
    go_wp2
    go_ret2
    exact ⟨rfl, rfl⟩
  · simp only [if_neg h]
    have h' : ¬ ((n : Int) ≤ 16777215) := by omega
    go_enter Tryd.func40, Tryd.ntmps40
    go_wp2
    go_ret2
    exact ⟨rfl, rfl⟩
end Go.Proofs.YtbjdipbhclihfaaDoor
