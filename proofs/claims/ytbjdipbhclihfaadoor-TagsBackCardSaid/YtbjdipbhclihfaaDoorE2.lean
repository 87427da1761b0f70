import Derived.Test.YtbjdipbhclihfaaDoorE1
set_option linter.unusedVariables false
set_option linter.unusedSimpArgs false
namespace Go.Proofs.YtbjdipbhclihfaaDoor
open Go.RowKit Go.Proofs Go.Proofs.YtbjdipbhclihfaaDoorW.PrintWords Plain
/-- Four bytes of which the last k are a number's. -/
def bigEnd (n : Int) (k : Nat) : List Int := List.replicate (4 - k) 0 ++ (big4 n).drop (4 - k)
theorem bigEnd_step (n : Nat) (kk : Nat) (hk : kk < 4) : (bigEnd n kk).set (3 - kk) ((n : Int) / 2 ^ (8 * kk) % 256) = bigEnd n (kk + 1) := by
  match kk, hk with
  | 0, _ => simp [bigEnd, big4]
  | 1, _ => simp [bigEnd, big4]
  | 2, _ => simp [bigEnd, big4]
  | 3, _ => simp [bigEnd, big4]
set_option maxRecDepth 100000 in
theorem high53 (n : Nat) (w : World) (hn : n ≤ 1099511627776) :
    Calls Tryd.prog 53 #[.int .i64 (n : Nat), .int .i64 4] w fun e w' => ∃ u, e = .returned u ∧ BYT w' w.heap.size u (big4 n) ∧ Below w.heap.size w w' := by
  have hmk := print_make (P := Tryd.prog) 27 5 .u8 1 Tryd.underlying27 infoB (by decide) 4 (by decide) w
  change (Instr.makeSlice 27 (.int .i64 4) (.int .i64 4)).run Tryd.prog w = _ at hmk
  have HO := Lib.hid (own_made w w.heap.size 5 .u8 4 (Nat.le_refl _) (by decide))
  have HB := Lib.hid (below_alloc (Below.refl w.heap.size w) (.cells (madeCells #[.int .u8 0] 4) 5))
  go_enter Tryd.func53, Tryd.ntmps53
  go_wp2_with (fail)
  generalize w.alloc (.cells (madeCells #[.int .u8 0] 4) 5) = w1 at *
  clear hmk
  go_loopg [11] 4 (fun gg s11 wr => ∃ kk : Nat, kk ≤ 4 ∧ 4 - kk ≤ gg ∧ s11 = .int .i64 kk ∧ Hid (wr.ownsRow w.heap.size 5 1 (.slice (some ⟨w.heap.size, 0, none⟩) 4 4) 4 (nums .u8 (bigEnd n kk))) ∧ Hid (Below w.heap.size w wr))
  case atStart => exact ⟨0, by omega, by omega, rfl, HO, HB⟩
  case round =>
    clear HO HB
    obtain ⟨kk, hkk, hgg, rfl, HO, HB⟩ := hrel
    by_cases hlt : kk < 4
    · have hltz : (kk : Int) < 4 := by omega
      obtain ⟨c0, f0⟩ := own_at HO.out ((3 - kk : Nat) : Int) (by omega) (by omega)
      obtain ⟨hs, _⟩ := own_store HO.out ((3 - kk : Nat) : Int) ((n : Int) / 2 ^ (8 * kk) % 256)
      rw [Int.toNat_natCast] at c0 f0 hs
      rw [bigEnd_step n kk hlt] at hs
      have HS := Lib.hid hs
      have HB2 := Lib.hid (HB.out.setCell (p := ⟨w.heap.size, 3 - kk, none⟩) (Nat.le_refl _) (.int .u8 ((n : Int) / 2 ^ (8 * kk) % 256)))
      have hi : (0 : Int) ≤ 3 - (kk : Int) := by omega
      clear hs
      go_wp2_with (fail)
      go_roundg (4 - (kk + 1))
      case measure => omega
      case rel => exact ⟨kk + 1, by omega, by omega, by go_num, HS, HB2⟩
    · have hltz : ¬ (kk : Int) < 4 := by omega
      obtain rfl : kk = 4 := by omega
      go_wp2_with (fail)
      go_ret
      exact ⟨_, rfl, Kd.R_of_own (enc := Value.int .u8) (h1 := fun _ => rfl) HO.out (fun _ _ => trivial), HB.out⟩
end Go.Proofs.YtbjdipbhclihfaaDoor
