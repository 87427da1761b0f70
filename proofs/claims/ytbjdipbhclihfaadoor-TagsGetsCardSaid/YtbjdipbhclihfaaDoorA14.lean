import Derived.Test.YtbjdipbhclihfaaDoorA13
set_option linter.unusedVariables false
namespace Go.Proofs.YtbjdipbhclihfaaDoor
open Go.RowKit Go.Proofs Go.Proofs.YtbjdipbhclihfaaDoorW.PrintWords
def smallF (x : Int) : Int := if 65 ≤ x ∧ x ≤ 90 then x + 32 else x
theorem small73 (x : Nat) (w : World) (hx : x ≤ 1114111) : Calls Tryd.prog 73 #[.int .i32 (x : Nat)] w fun e w' => e = .returned (.int .i32 (smallF x)) ∧ w = w' := by
  by_cases h1 : (65 : Int) ≤ x
  · by_cases h2 : (x : Int) ≤ 90
    · have hf : smallF x = x + 97 - 65 := by unfold smallF; rw [if_pos ⟨h1, h2⟩]; omega
      rw [hf]
      clear hf
      go_enter Tryd.func73, Tryd.ntmps73
      go_wp2
      go_ret
      exact ⟨rfl, rfl⟩
    · have hf : smallF x = x := by unfold smallF; rw [if_neg (by omega)]
      rw [hf]
      clear hf
      go_enter Tryd.func73, Tryd.ntmps73
      go_wp2
      go_ret
      exact ⟨rfl, rfl⟩
  · have hf : smallF x = x := by unfold smallF; rw [if_neg (by omega)]
    rw [hf]
    clear hf
    go_enter Tryd.func73, Tryd.ntmps73
    go_wp2
    go_ret
    exact ⟨rfl, rfl⟩
def smallB (s : ByteArray) : ByteArray := ⟨(Lib.mapD smallF s.data.toList).toArray⟩
theorem small45 (s : ByteArray) (w : World) (hs : s.size < 35184372088832) (hG : Glob w) : Calls Tryd.prog 45 #[.string s] w fun e w' => e = .returned (.string (smallB s)) ∧ Below w.heap.size w w' := by
  have hm : MapGrows Tryd.prog 73 #[] smallF w := fun W x hx hb => (small73 x W hx).mono fun e w' ⟨he, hw⟩ => ⟨he, hw ▸ Below.refl _ _⟩
  have HC := Lib.hid (Tryd.strings_Map_grows 73 #[] (enters_of Tryd.func73 (by kernel_rfl) rfl) smallF s w hs hm (fun x hx => by unfold smallF; split <;> omega) hG.out)
  clear hs hG hm
  go_enter Tryd.func45, Tryd.ntmps45
  go_wp2_with (go_at_call 72; refine HC.out.mono ?_; rintro e w' ⟨rfl, hb⟩)
  go_ret
  exact ⟨rfl, hb⟩
end Go.Proofs.YtbjdipbhclihfaaDoor
