import Derived.Test.YtbjdipbhclihfaaDoorA6
import Derived.Test.YtbjdipbhclihfaaDoorWZeros
set_option linter.unusedVariables false
namespace Go.Proofs.YtbjdipbhclihfaaDoor
open Go.RowKit Go.Proofs Go.Proofs.YtbjdipbhclihfaaDoorW.PrintWords
def BYT (w : World) (base : Nat) (v : Value) (xs : List Int) : Prop := (Kd.int .u8).R 5 w base (fun _ => True) v xs
theorem infoB : (Tryd.prog.info? 5).map (fun i => (i.zero, i.size, i.bytes)) = some (some (.int .u8 0), 1, 1) := by kernel_rfl
theorem grow69_0 (w : World) : Calls Tryd.prog 69 #[.slice none 0 0, .int .i64 0] w fun e w' => e = .returned (.slice none 0 0) ∧ w = w' := by
  go_enter Tryd.func69, Tryd.ntmps69
  go_wp2
  go_ret
  exact ⟨rfl, rfl⟩
theorem grow69_pos (n : Int) (w : World) (h0 : 0 < n) (h1 : n ≤ 1099511627776) : Calls Tryd.prog 69 #[.slice none 0 0, .int .i64 n] w fun e w' => ∃ v, e = .returned v ∧ BYT w' w.heap.size v [] ∧ Below w.heap.size w w' := by
  go_enter Tryd.func69, Tryd.ntmps69
  go_wp2_with (at_builtin; refine Kd.R_append_zeros (Kd.int .u8) (w0 := w) w.heap.size rfl (.tmp 20) (.tmp 21) 27 3 5 (.int .u8 0) 1 rfl Tryd.underlying27 Tryd.underlying3 infoB rfl (by decide) (by decide) (.slice none 0 0) [] 0 n (fun _ => True) rfl rfl (by rfl) (fun _ _ => trivial) (Kd.R_nil _ _ _ _ _) (by omega) (Below.refl _ _) (Nat.le_refl _) (by simp; omega) ?_)
  intro v1 w1 hR hB hg hat
  obtain ⟨A, c, rfl⟩ := Kd.R_slice hR
  have HR := Lib.hid hR
  have HB := Lib.hid hB
  clear hR hB hg hat
  go_wp2
  go_ret
  exact ⟨_, rfl, Kd.R_take HR.out (m := 0) (by simp), HB.out⟩
theorem grow69 (n : Nat) (w : World) (h1 : n ≤ 1099511627776) : Calls Tryd.prog 69 #[.slice none 0 0, .int .i64 (n : Nat)] w fun e w' => ∃ v, e = .returned v ∧ BYT w' w.heap.size v [] ∧ Below w.heap.size w w' := by
  rcases Nat.eq_zero_or_pos n with rfl | h
  · exact (grow69_0 w).mono fun e w' ⟨he, hw⟩ => ⟨_, he, Kd.R_nil _ _ _ _ _, by subst hw; exact Below.refl _ _⟩
  · exact grow69_pos n w (by omega) (by omega)
end Go.Proofs.YtbjdipbhclihfaaDoor
