import Derived.Test.YtbjdipbhclihfaaDoorA7
set_option linter.unusedVariables false
namespace Go.Proofs.YtbjdipbhclihfaaDoor
open Go.RowKit Go.Proofs Go.Proofs.YtbjdipbhclihfaaDoorW.PrintWords
/-- Element k of a slice of slices. -/
theorem row_at {α : Type} {d : Kd α} {e : Nat} {w : World} {A : Option Addr} {xs : List (List α)} (h : (Kd.slice e d).C w A xs.length xs) (k : Nat) (hk : k < xs.length) :
    ∃ ad A0 c0, A = some ad ∧ w.cell? (ad.add k) = some (.slice A0 xs[k].length c0) ∧ xs[k].length ≤ c0 ∧ d.C w A0 xs[k].length xs[k] := by
  obtain ⟨ad, c, e1, _, hK, hc0⟩ := Kd.C_get h ([] : List α) (k : Int) (by omega) (by omega)
  have hx : xs.getD (k : Int).toNat ([] : List α) = xs[k] := by simp [List.getD_eq_getElem?_getD, List.getElem?_eq_getElem hk]
  rw [hx] at hK
  have hc : ∀ j u, c[j]? = some u → w.cell? (ad.add ((k : Int).toNat * 1 + j)) = some u := hc0
  obtain ⟨A0, c1, rfl, l0, g0⟩ := hK
  refine ⟨ad, A0, c1, e1, ?_, l0, g0⟩
  have hq := hc 0 _ rfl
  simpa using hq
theorem flat_step {α : Type} (xs : List (List α)) (k : Nat) (hk : k < xs.length) : (xs.take (k + 1)).flatten = (xs.take k).flatten ++ xs[k] := by
  rw [List.take_succ_eq_append_getElem hk, List.flatten_append]; simp
theorem flat_le {α : Type} (xs : List (List α)) (k : Nat) : (xs.take k).flatten.length ≤ xs.flatten.length := by
  have h : xs.flatten = (xs.take k).flatten ++ (xs.drop k).flatten := by rw [← List.flatten_append, List.take_append_drop]
  rw [h]; simp
set_option maxRecDepth 100000 in
theorem concat38 (A : Option Addr) (c : Nat) (xs : List (List Int)) (w : World) (hr : (Kd.slice 5 (Kd.int .u8)).C w A xs.length xs) (hl : xs.flatten.length ≤ 1099511627776) :
    Calls Tryd.prog 38 #[.slice A xs.length c] w fun e w' => ∃ v, e = .returned v ∧ BYT w' w.heap.size v xs.flatten ∧ Below w.heap.size w w' := by
  have hm := C_len hr
  have HR := Lib.hid hr
  obtain ⟨tot, htot⟩ : ∃ t, t = xs.flatten.length := ⟨_, rfl⟩
  rw [← htot] at hl
  have HT := Lib.hid htot
  clear hr htot
  go_enter Tryd.func38, Tryd.ntmps38
  go_wp2
  go_loopg [3, 11] xs.length (fun gg s3 s11 wr => ∃ kk : Nat, kk ≤ xs.length ∧ xs.length - kk ≤ gg ∧ s11 = .int .i64 kk ∧ s3 = .int .i64 ((xs.take kk).flatten.length : Nat) ∧ w = wr)
  case atStart => exact ⟨0, Nat.zero_le _, by omega, rfl, by simp, rfl⟩
  case round =>
    obtain ⟨kk, hkk, hg, rfl, rfl, rfl⟩ := hrel
    have hS := flat_le xs kk
    by_cases hlt : kk < xs.length
    · have hltz : (kk : Int) < (xs.length : Int) := by omega
      have hS1 := flat_le xs (kk + 1)
      rw [← HT.out] at hS hS1
      have hst := flat_step xs kk hlt
      obtain ⟨ad, A0, c0, rfl, hcell, hl0, hC0⟩ := row_at HR.out kk hlt
      generalize xs[kk] = ys at hst hcell hl0 hC0
      rw [hst, List.length_append] at hS1
      have HS := Lib.hid hst
      clear hst hC0
      generalize (xs.take kk).flatten = pre at HS hS1 hS ⊢
      have hb1 : (0 : Int) ≤ (pre.length : Int) + (ys.length : Int) := by omega
      have hb2 : (pre.length : Int) + (ys.length : Int) ≤ 1099511627776 := by omega
      go_wp2
      go_roundg (xs.length - (kk + 1))
      case measure => omega
      case rel => exact ⟨kk + 1, by omega, by omega, by go_num, by rw [HS.out]; simp, rfl⟩
    · have hltz : ¬ (kk : Int) < (xs.length : Int) := by omega
      have hfull : xs.take kk = xs := List.take_of_length_le (by omega)
      rw [hfull, ← HT.out] at hS ⊢
      clear hfull
      go_wp2_with (go_at_call 69; refine (grow69 tot _ hl).mono ?_; rintro e w1 ⟨v0, rfl, hv0, hb0⟩)
      have HV0 := Lib.hid hv0
      have HB0 := Lib.hid hb0
      clear hv0 hb0
      go_wp2
      go_loopg [6, 27] xs.length (fun gg s6 s27 wr => ∃ kk : Nat, kk ≤ xs.length ∧ xs.length - kk ≤ gg ∧ s27 = .int .i64 kk ∧ Hid (BYT wr w.heap.size s6 (xs.take kk).flatten) ∧ Hid (Below w.heap.size w wr))
      case atStart => exact ⟨0, Nat.zero_le _, by omega, rfl, HV0, HB0⟩
      case round =>
        obtain ⟨kk, hkk, hg, rfl, HV, HB⟩ := hrel
        have hS := flat_le xs kk
        rw [← HT.out] at hS
        by_cases hlt : kk < xs.length
        · have hltz : (kk : Int) < (xs.length : Int) := by omega
          have hS1 := flat_le xs (kk + 1)
          rw [← HT.out] at hS1
          have hst := flat_step xs kk hlt
          obtain ⟨ad, A0, c0, rfl, hcell, hl0, hC0⟩ := row_at HR.out kk hlt
          replace hcell := pw_cell_below HB.out hcell
          generalize xs[kk] = ys at hst hcell hl0 hC0
          rw [hst, List.length_append] at hS1
          have HS := Lib.hid hst
          have HC0 := Lib.hid hC0
          clear hst hC0
          generalize (xs.take kk).flatten = pre at HS hS1 hS HV
          go_wp2_with (at_builtin; refine Kd.R_append_row (Value.int .u8) (0 : Int) (h1 := fun _ => rfl) (w0 := w) w.heap.size rfl (.tmp 31) (.tmp 32) 27 5 (.int .u8 0) 1 rfl Tryd.underlying27 infoB rfl (by decide) _ pre ys A0 ys.length c0 (fun _ => True) rfl rfl (fun _ _ => trivial) HV.out (Kd.C_below HC0.out HB.out) HB.out HB.out.size (by omega) ?_)
          intro v1 w2 hR2 hB2 _ _
          have HR2 := Lib.hid hR2
          have HB2 := Lib.hid hB2
          clear hR2 hB2
          go_wp2
          go_roundg (xs.length - (kk + 1))
          case measure => omega
          case rel => exact ⟨kk + 1, by omega, by omega, by go_num, by rw [HS.out]; exact HR2, HB2⟩
        · have hltz : ¬ (kk : Int) < (xs.length : Int) := by omega
          have hfull : xs.take kk = xs := List.take_of_length_le (by omega)
          rw [hfull] at HV
          clear hfull
          go_wp2
          go_ret
          exact ⟨_, rfl, HV.out, HB.out⟩
end Go.Proofs.YtbjdipbhclihfaaDoor
