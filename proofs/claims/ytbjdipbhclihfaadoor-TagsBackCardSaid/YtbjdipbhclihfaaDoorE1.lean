import Derived.Test.YtbjdipbhclihfaaDoorM3
set_option linter.unusedVariables false
set_option linter.unusedSimpArgs false
namespace Go.Proofs.YtbjdipbhclihfaaDoor
open Go.RowKit Go.Proofs Go.Proofs.YtbjdipbhclihfaaDoorW.PrintWords Plain
/-- A number's lowest byte behind a shift. -/
def byteAt (n : Int) (i : Nat) : Int := n / 2 ^ (8 * i) % 256
/-- A number as four bytes, the highest first. -/
def big4 (n : Int) : List Int := [n / 16777216 % 256, n / 65536 % 256, n / 256 % 256, n % 256]
/-- The first k bytes of Big. -/
def bigPre (n : Int) (k : Nat) : List Int := (big4 n).take k
theorem row1b (W : World) (x : Int) : (Kd.int .u8).C (W.alloc (.cells #[.int .u8 x] 5)) (some ⟨W.heap.size, 0, none⟩) 1 [x] := by
  refine C_lit1 rfl (blk_new W _) [x] (by show 1 ≤ 9223372036854775807; decide) fun j p hj => ?_
  match j, hj with
  | 0, hj => simp at hj; subst hj; exact ⟨_, rfl, rfl⟩
theorem bigPre_step (n : Nat) (kk : Nat) (hk : kk < 4) : bigPre n (kk + 1) = bigPre n kk ++ [((n : Int) / 2 ^ (8 * (3 - kk))).tmod 256 % 256] := by
  have h : ∀ m : Int, 0 ≤ m → m.tmod 256 % 256 = m % 256 := fun m hm => by rw [Int.tmod_eq_emod_of_nonneg hm]; omega
  rw [h _ (Int.ediv_nonneg (by omega) (Int.le_of_lt (Int.pow_pos (by decide))))]
  match kk, hk with
  | 0, _ => rfl
  | 1, _ => rfl
  | 2, _ => rfl
  | 3, _ => simp [bigPre, big4]
set_option maxRecDepth 100000 in
theorem big54 (n : Nat) (w : World) (hn : n ≤ 1099511627776) :
    Calls Tryd.prog 54 #[.int .i64 (n : Nat), .int .i64 4] w fun e w' => ∃ u, e = .returned u ∧ BYT w' w.heap.size u (big4 n) ∧ Below w.heap.size w w' := by
  go_enter Tryd.func54, Tryd.ntmps54
  go_wp2_with (fail)
  go_loopg [5, 6] 4 (fun gg s5 s6 wr => ∃ kk : Nat, kk ≤ 4 ∧ 4 - kk ≤ gg ∧ s6 = .int .i64 (3 - (kk : Int)) ∧ Hid (BYT wr w.heap.size s5 (bigPre n kk)) ∧ Hid (Below w.heap.size w wr))
  case atStart => exact ⟨0, by omega, by omega, rfl, Lib.hid (Kd.R_nil _ _ _ _ _), Lib.hid (Below.refl _ _)⟩
  case round =>
    obtain ⟨kk, hkk, hgg, rfl, HV, HB⟩ := hrel
    by_cases hlt : kk < 4
    · have hltz : (3 : Int) - (kk : Int) ≥ 0 := by omega
      have hst := bigPre_step n kk hlt
      have hle : (bigPre n kk).length ≤ 4 := by unfold bigPre; rw [List.length_take]; exact Nat.min_le_right _ _
      have HST := Lib.hid hst
      have HA := Lib.hid (below_alloc (Below.refl wr.heap.size wr) (.cells #[.int .u8 (((n : Int) / 2 ^ (8 * (3 - kk))).tmod 256 % 256)] 5))
      clear hst
      go_wp2_with (at_builtin; refine Kd.R_append_row (Value.int .u8) (0 : Int) (h1 := fun _ => rfl) (w0 := w) w.heap.size rfl (.tmp 13) (.tmp 20) 27 5 (.int .u8 0) 1 rfl Tryd.underlying27 infoB rfl (by decide) _ (bigPre n kk) [((n : Int) / 2 ^ (8 * (3 - kk))).tmod 256 % 256] _ 1 1 (fun _ => True) rfl rfl (fun _ _ => trivial) (Kd.R_below HV.out HA.out) (row1b wr _) (HB.out.trans (HA.out.mono HB.out.size)) (Nat.le_trans HB.out.size HA.out.size) (by omega) ?_)
      intro v6 w6 hR6 hB6 _ _
      rw [← HST.out] at hR6
      have HR6 := Lib.hid hR6
      have HB6 := Lib.hid hB6
      clear hR6 hB6 HA HV HB HST
      go_wp2_with (fail)
      go_roundg (4 - (kk + 1))
      case measure => omega
      case rel => exact ⟨kk + 1, by omega, by omega, by go_num, HR6, HB6⟩
    · have hltz : ¬ (3 : Int) - (kk : Int) ≥ 0 := by omega
      obtain rfl : kk = 4 := by omega
      go_wp2_with (fail)
      go_ret
      exact ⟨_, rfl, HV.out, HB.out⟩
end Go.Proofs.YtbjdipbhclihfaaDoor
