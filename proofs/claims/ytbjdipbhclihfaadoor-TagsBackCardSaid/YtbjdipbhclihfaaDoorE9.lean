import Derived.Test.YtbjdipbhclihfaaDoorE8
set_option linter.unusedVariables false
set_option linter.unusedSimpArgs false
namespace Go.Proofs.YtbjdipbhclihfaaDoor
open Go.RowKit Go.Proofs Go.Proofs.YtbjdipbhclihfaaDoorW.PrintWords Plain
/-- ref.High at four bytes. -/
def high56F (bs : List Int) (a : Nat) : Int := if bs.length < a + 4 then -1 else be4 (bs.drop a)
theorem rd_drop (bs : List Int) (a i : Nat) : rd (bs.drop a) (i : Int) = rd bs ((a + i : Nat) : Int) := by
  unfold YtbjdipbhclihfaaDoorW.PrintWords.rd
  rw [List.getD_eq_getElem?_getD, List.getD_eq_getElem?_getD, List.getElem?_drop, show ((i : Int)).toNat = i by omega, show ((a + i : Nat) : Int).toNat = a + i by omega]
theorem partB_plain (bs : List Int) (hb : ByteL bs) (kk : Nat) (hk : kk < 4) : 256 * partB bs kk + rd bs kk = partB bs (kk + 1) ∧ 0 ≤ partB bs kk ∧ partB bs kk ≤ 4294967295 := by
  have k0 := hb.rd 0
  have k1 := hb.rd 1
  have k2 := hb.rd 2
  have k3 := hb.rd 3
  match kk, hk with
  | 0, _ => exact ⟨by show 256 * 0 + rd bs 0 = rd bs 0; omega, Int.le_refl 0, by show (0 : Int) ≤ 4294967295; decide⟩
  | 1, _ => refine ⟨rfl, ?_, ?_⟩ <;> (show _ ≤ _; simp only [partB]; omega)
  | 2, _ => refine ⟨?_, ?_, ?_⟩ <;> (simp only [partB]; try omega); show 256 * (256 * rd bs 0 + rd bs 1) + rd bs 2 = _; omega
  | 3, _ => refine ⟨?_, ?_, ?_⟩ <;> (simp only [partB]; try omega); show 256 * (65536 * rd bs 0 + 256 * rd bs 1 + rd bs 2) + rd bs 3 = be4 bs; unfold be4; omega
set_option maxRecDepth 100000 in
theorem high56 (A : Option Addr) (c : Nat) (bs : List Int) (a : Nat) (w : World) (hr : (Kd.int .u8).C w A bs.length bs) (hB : ByteL bs) (ha : a ≤ 1099511627776) :
    Calls Tryd.prog 56 #[.slice A bs.length c, .int .i64 (a : Nat), .int .i64 4] w fun e w' => e = .returned (.int .i64 (high56F bs a)) ∧ Drawn0 w w' := by
  by_cases h : bs.length < a + 4
  · have h' : (a : Int) + 4 > (bs.length : Int) := by omega
    have HF := Lib.hid (show high56F bs a = -1 from if_pos h)
    clear hr
    go_enter Tryd.func56, Tryd.ntmps56
    go_wp2_with (fail)
    go_ret
    rw [HF.out]
    exact ⟨rfl, 0, rfl⟩
  · have h' : ¬ (a : Int) + 4 > (bs.length : Int) := by omega
    have HF := Lib.hid (show high56F bs a = be4 (bs.drop a) from if_neg h)
    have HR := Lib.hid hr
    have HBy := Lib.hid (hB.drop a)
    have hla : a + 4 ≤ bs.length := by omega
    clear hr hB h
    go_enter Tryd.func56, Tryd.ntmps56
    go_wp2_with (fail)
    go_loopg [7, 8] 4 (fun gg s7 s8 wr => w = wr ∧ ∃ kk : Nat, kk ≤ 4 ∧ 4 - kk ≤ gg ∧ s8 = .int .i64 kk ∧ s7 = .int .i64 (partB (bs.drop a) kk))
    case atStart => exact ⟨rfl, 0, by omega, by omega, rfl, rfl⟩
    case round =>
      obtain ⟨rfl, kk, hkk, hgg, rfl, rfl⟩ := hrel
      by_cases hlt : kk < 4
      · have hltz : (kk : Int) < 4 := by omega
        obtain ⟨hst, hp0, hp1⟩ := partB_plain (bs.drop a) HBy.out kk hlt
        have hr := HBy.out.rd kk
        obtain ⟨ad, rfl, c0⟩ := int_at HR.out (a + kk) (by omega)
        have g0 : bs[a + kk]'(by omega) = rd (bs.drop a) kk := by
          rw [rd_drop]
          unfold YtbjdipbhclihfaaDoorW.PrintWords.rd
          rw [List.getD_eq_getElem?_getD, show ((a + kk : Nat) : Int).toNat = a + kk from Int.toNat_natCast _, List.getElem?_eq_getElem (show a + kk < bs.length by omega)]
          rfl
        rw [g0] at c0
        have n0 : a + kk < bs.length := by omega
        have b0 : (a : Int) + (kk : Int) < (bs.length : Int) := by omega
        generalize hz : partB (bs.drop a) (kk + 1) = z1 at hst
        have HZ := Lib.hid hz
        generalize partB (bs.drop a) kk = z at *
        generalize rd (bs.drop a) kk = y at *
        have HST := Lib.hid hst
        clear hst g0 hz
        go_wp2_with (fail)
        go_roundg (4 - (kk + 1))
        case measure => omega
        case rel => exact ⟨rfl, kk + 1, by omega, by omega, by go_num, by rw [HZ.out, ← HST.out]⟩
      · have hltz : ¬ (kk : Int) < 4 := by omega
        obtain rfl : kk = 4 := by omega
        go_wp2_with (fail)
        go_ret
        rw [HF.out]
        exact ⟨rfl, 0, rfl⟩
end Go.Proofs.YtbjdipbhclihfaaDoor
