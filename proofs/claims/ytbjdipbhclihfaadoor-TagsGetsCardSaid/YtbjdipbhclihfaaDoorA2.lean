import Derived.Test.YtbjdipbhclihfaaDoorV
set_option linter.unusedVariables false
namespace Go.Proofs.YtbjdipbhclihfaaDoor
open Go.RowKit Go.Proofs Go.Proofs.YtbjdipbhclihfaaDoorW.PrintWords

theorem idx68 (A : Option Addr) (c : Nat) (xs : List ByteArray) (g : Nat) (cap : Array Value) (eg : ∀ args w, (callFunc g args).run Tryd.prog w = .ok (.enter g args) w) (D : ByteArray → Prop) (p : ByteArray → Bool) (w : World)
    (hr : Kd.string.C w A xs.length xs) (hD : ∀ x ∈ xs, D x) (hp : PredG g cap Value.string D p w) :
    Calls Tryd.prog 68 #[.slice A xs.length c, .func (.func g) #[] cap] w fun e w' => e = .returned (.int .i64 (firstIdx p xs)) ∧ Below w.heap.size w w' := by
  have hm := C_len hr
  have HR := Lib.hid hr
  have HP := Lib.hid hp
  have HD := Lib.hid hD
  clear hr hp hD
  go_enter Tryd.func68, Tryd.ntmps68
  go_wp2
  go_loopg [5, 8] xs.length (fun gg _ s8 wr => ∃ kk : Nat, kk ≤ xs.length ∧ xs.length - kk ≤ gg ∧ s8 = .int .i64 kk ∧ Below w.heap.size w wr ∧ Hid (∀ (j : Nat) (y : ByteArray), j < kk → xs[j]? = some y → p y = false))
  case atStart => exact ⟨0, Nat.zero_le _, by omega, rfl, Below.refl _ _, Lib.hid (fun j y hj => absurd hj (Nat.not_lt_zero _))⟩
  case round =>
    obtain ⟨kk, hkk, hg, rfl, hb, HA⟩ := hrel
    by_cases hlt : kk < xs.length
    · have hltz : (kk : Int) < (xs.length : Int) := by omega
      obtain ⟨ad, rfl, hcell⟩ := str_at HR.out kk hlt
      replace hcell := pw_cell_below hb hcell
      have hxs : xs[kk]? = some xs[kk] := List.getElem?_eq_getElem hlt
      have hDy := HD.out _ (List.getElem_mem hlt)
      generalize xs[kk] = y at hcell hxs hDy
      have HX := Lib.hid hxs
      clear hxs
      have HB := Lib.hid hb
      clear hb
      have hcall := HP.out wr y hDy HB.out
      clear hDy
      cases hq : p y with
      | true =>
        rw [hq] at hcall
        go_wp2_with (go_at_fn g; refine (hcall).mono ?_; rintro e w' ⟨rfl, hb1⟩)
        go_ret
        refine ⟨?_, HB.out.trans (hb1.mono HB.out.size)⟩
        rw [firstIdx_hit p xs kk y HX.out hq HA.out]
        rfl
      | false =>
        rw [hq] at hcall
        go_wp2_with (go_at_fn g; refine (hcall).mono ?_; rintro e w' ⟨rfl, hb1⟩)
        go_roundg (xs.length - (kk + 1))
        case measure => omega
        case rel =>
          refine ⟨kk + 1, by omega, by omega, by go_num, HB.out.trans (hb1.mono HB.out.size), Lib.hid (fun j z hj hz => ?_)⟩
          by_cases e : j = kk
          · subst e
            have := HX.out
            rw [hz] at this
            injection this with this
            rw [this]; exact hq
          · exact HA.out j z (by omega) hz
    · have hltz : ¬ (kk : Int) < (xs.length : Int) := by omega
      have HB := Lib.hid hb
      clear hb
      go_wp2
      go_ret
      refine ⟨?_, HB.out⟩
      rw [firstIdx_miss p xs (fun j x hj => HA.out j x (by have := (List.getElem?_eq_some_iff.1 hj).1; omega) hj)]
      rfl

theorem has35 (A : Option Addr) (c : Nat) (xs : List ByteArray) (g : Nat) (cap : Array Value) (eg : ∀ args w, (callFunc g args).run Tryd.prog w = .ok (.enter g args) w) (D : ByteArray → Prop) (p : ByteArray → Bool) (w : World)
    (hr : Kd.string.C w A xs.length xs) (hD : ∀ x ∈ xs, D x) (hp : PredG g cap Value.string D p w) :
    Calls Tryd.prog 35 #[.slice A xs.length c, .func (.func g) #[] cap] w fun e w' => e = .returned (.bool (xs.any p)) ∧ Below w.heap.size w w' := by
  rw [← firstIdx_any]
  have HH := idx68 A c xs g cap eg D p w hr hD hp
  clear hr hp hD
  go_enter Tryd.func35, Tryd.ntmps35
  go_wp2_with (go_at_call 68; refine HH.mono ?_; rintro e w' ⟨rfl, hb⟩)
  go_ret
  exact ⟨rfl, hb⟩
end Go.Proofs.YtbjdipbhclihfaaDoor
