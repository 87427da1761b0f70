import Derived.Test.YtbjdipbhclihfaaDoorA11
set_option linter.unusedVariables false
namespace Go.Proofs.YtbjdipbhclihfaaDoor
open Go.RowKit Go.Proofs Go.Proofs.YtbjdipbhclihfaaDoorW.PrintWords
def STR (w : World) (base : Nat) (v : Value) (xs : List ByteArray) : Prop := Kd.string.R 9 w base (fun _ => True) v xs
theorem infoS : (Tryd.prog.info? 9).map (fun i => (i.zero, i.size, i.bytes)) = some (some (.string ⟨#[]⟩), 1, 16) := by kernel_rfl
theorem grow70_0 (w : World) : Calls Tryd.prog 70 #[.slice none 0 0, .int .i64 0] w fun e w' => e = .returned (.slice none 0 0) ∧ w = w' := by
  go_enter Tryd.func70, Tryd.ntmps70
  go_wp2
  go_ret
  exact ⟨rfl, rfl⟩
theorem grow70_pos (n : Int) (w : World) (h0 : 0 < n) (h1 : n ≤ 1099511627776) : Calls Tryd.prog 70 #[.slice none 0 0, .int .i64 n] w fun e w' => ∃ v, e = .returned v ∧ STR w' w.heap.size v [] ∧ Below w.heap.size w w' := by
  go_enter Tryd.func70, Tryd.ntmps70
  go_wp2_with (at_builtin; refine Kd.R_append_zeros Kd.string (w0 := w) w.heap.size rfl (.tmp 20) (.tmp 21) 22 3 9 (.string ⟨#[]⟩) 16 rfl Tryd.underlying22 Tryd.underlying3 infoS rfl (by decide) (by decide) (.slice none 0 0) [] (⟨#[]⟩ : ByteArray) n (fun _ => True) rfl rfl (by rfl) (fun _ _ => trivial) (Kd.R_nil _ _ _ _ _) (by omega) (Below.refl _ _) (Nat.le_refl _) (by simp; omega) ?_)
  intro v1 w1 hR hB hg hat
  obtain ⟨A, c, rfl⟩ := Kd.R_slice hR
  have HR := Lib.hid hR
  have HB := Lib.hid hB
  clear hR hB hg hat
  go_wp2
  go_ret
  exact ⟨_, rfl, Kd.R_take HR.out (m := 0) (by simp), HB.out⟩
theorem grow70 (n : Nat) (w : World) (h1 : n ≤ 1099511627776) : Calls Tryd.prog 70 #[.slice none 0 0, .int .i64 (n : Nat)] w fun e w' => ∃ v, e = .returned v ∧ STR w' w.heap.size v [] ∧ Below w.heap.size w w' := by
  rcases Nat.eq_zero_or_pos n with rfl | h
  · exact (grow70_0 w).mono fun e w' ⟨he, hw⟩ => ⟨_, he, Kd.R_nil _ _ _ _ _, by subst hw; exact Below.refl _ _⟩
  · exact grow70_pos n w (by omega) (by omega)
set_option maxRecDepth 100000 in
theorem concat43 (A : Option Addr) (c : Nat) (xs : List (List ByteArray)) (w : World) (hr : (Kd.slice 9 Kd.string).C w A xs.length xs) (hl : xs.flatten.length ≤ 1099511627776) :
    Calls Tryd.prog 43 #[.slice A xs.length c] w fun e w' => ∃ v, e = .returned v ∧ STR w' w.heap.size v xs.flatten ∧ Below w.heap.size w w' := by
  have hm := C_len hr
  have HR := Lib.hid hr
  obtain ⟨tot, htot⟩ : ∃ t, t = xs.flatten.length := ⟨_, rfl⟩
  rw [← htot] at hl
  have HT := Lib.hid htot
  clear hr htot
  go_enter Tryd.func43, Tryd.ntmps43
  go_wp2
  go_loopg [3, 11] xs.length (fun gg s3 s11 wr => ∃ kk : Nat, kk ≤ xs.length ∧ xs.length - kk ≤ gg ∧ s11 = .int .i64 kk ∧ s3 = .int .i64 ((xs.take kk).flatten.length : Nat) ∧ w = wr)
  case atStart => exact ⟨0, Nat.zero_le _, by omega, rfl, by simp, rfl⟩
  case round =>
    obtain ⟨kk, hkk, hg, rfl, rfl, rfl⟩ := hrel
    have hS := flat_le xs kk
    by_cases hlt : kk < xs.length
    · have hltz : (kk : Int) < (xs.length : Int) := by omega
      have hS1 := flat_le xs (kk + 1)
      rw [← HT.out] at hS hS1
      have hst := flat_step xs kk hlt
      obtain ⟨ad, A0, c0, rfl, hcell, hl0, hC0⟩ := row_at HR.out kk hlt
      generalize xs[kk] = ys at hst hcell hl0 hC0
      rw [hst, List.length_append] at hS1
      have HS := Lib.hid hst
      clear hst hC0
      generalize (xs.take kk).flatten = pre at HS hS1 hS ⊢
      have hb1 : (0 : Int) ≤ (pre.length : Int) + (ys.length : Int) := by omega
      have hb2 : (pre.length : Int) + (ys.length : Int) ≤ 1099511627776 := by omega
      go_wp2
      go_roundg (xs.length - (kk + 1))
      case measure => omega
      case rel => exact ⟨kk + 1, by omega, by omega, by go_num, by rw [HS.out]; simp, rfl⟩
    · have hltz : ¬ (kk : Int) < (xs.length : Int) := by omega
      have hfull : xs.take kk = xs := List.take_of_length_le (by omega)
      rw [hfull, ← HT.out] at hS ⊢
      clear hfull
      go_wp2_with (go_at_call 70; refine (grow70 tot _ hl).mono ?_; rintro e w1 ⟨v0, rfl, hv0, hb0⟩)
      have HV0 := Lib.hid hv0
      have HB0 := Lib.hid hb0
      clear hv0 hb0
      go_wp2
      go_loopg [6, 27] xs.length (fun gg s6 s27 wr => ∃ kk : Nat, kk ≤ xs.length ∧ xs.length - kk ≤ gg ∧ s27 = .int .i64 kk ∧ Hid (STR wr w.heap.size s6 (xs.take kk).flatten) ∧ Hid (Below w.heap.size w wr))
      case atStart => exact ⟨0, Nat.zero_le _, by omega, rfl, HV0, HB0⟩
      case round =>
        obtain ⟨kk, hkk, hg, rfl, HV, HB⟩ := hrel
        have hS := flat_le xs kk
        rw [← HT.out] at hS
        by_cases hlt : kk < xs.length
        · have hltz : (kk : Int) < (xs.length : Int) := by omega
          have hS1 := flat_le xs (kk + 1)
          rw [← HT.out] at hS1
          have hst := flat_step xs kk hlt
          obtain ⟨ad, A0, c0, rfl, hcell, hl0, hC0⟩ := row_at HR.out kk hlt
          replace hcell := pw_cell_below HB.out hcell
          generalize xs[kk] = ys at hst hcell hl0 hC0
          rw [hst, List.length_append] at hS1
          have HS := Lib.hid hst
          have HC0 := Lib.hid hC0
          clear hst hC0
          generalize (xs.take kk).flatten = pre at HS hS1 hS HV
          go_wp2_with (at_builtin; refine Kd.R_append_row Value.string ByteArray.empty (h1 := fun _ => rfl) (w0 := w) w.heap.size rfl (.tmp 31) (.tmp 32) 22 9 (.string ⟨#[]⟩) 16 rfl Tryd.underlying22 infoS rfl (by decide) _ pre ys A0 ys.length c0 (fun _ => True) rfl rfl (fun _ _ => trivial) HV.out (Kd.C_below HC0.out HB.out) HB.out HB.out.size (by omega) ?_)
          intro v1 w2 hR2 hB2 _ _
          have HR2 := Lib.hid hR2
          have HB2 := Lib.hid hB2
          clear hR2 hB2
          go_wp2
          go_roundg (xs.length - (kk + 1))
          case measure => omega
          case rel => exact ⟨kk + 1, by omega, by omega, by go_num, by rw [HS.out]; exact HR2, HB2⟩
        · have hltz : ¬ (kk : Int) < (xs.length : Int) := by omega
          have hfull : xs.take kk = xs := List.take_of_length_le (by omega)
          rw [hfull] at HV
          clear hfull
          go_wp2
          go_ret
          exact ⟨_, rfl, HV.out, HB.out⟩
end Go.Proofs.YtbjdipbhclihfaaDoor
