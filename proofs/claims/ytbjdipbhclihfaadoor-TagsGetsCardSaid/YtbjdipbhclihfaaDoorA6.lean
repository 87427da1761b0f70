import Derived.Test.YtbjdipbhclihfaaDoorA5
set_option linter.unusedVariables false
namespace Go.Proofs.YtbjdipbhclihfaaDoor
open Go.RowKit Go.Proofs Go.Proofs.YtbjdipbhclihfaaDoorW.PrintWords
/-- Is a text a comment? -/
def commentB (s : ByteArray) : Bool :=
  (cutB s 61).2.2 && !(cutB s 61).1.toList.isEmpty && !(bytesOf (cutB s 61).1).any (outside 32 125) && Lib.validD s.data.toList
theorem extract_le (s : ByteArray) (a b : Nat) : (s.extract a b).size ≤ s.size := by simp; omega
theorem cutB_le (s : ByteArray) (c : UInt8) : (cutB s c).1.size ≤ s.size := by
  unfold cutB
  split
  · exact Nat.le_refl _
  · exact extract_le _ _ _
theorem comment37 (s : ByteArray) (w : World) (hs : s.size ≤ 9223372036854775807) (hG : Glob w) :
    Calls Tryd.prog 37 #[.string s] w fun e w' => e = .returned (.bool (commentB s)) ∧ Below w.heap.size w w' := by
  have hl := cutB_le s 61
  have HS := Lib.hid hs
  have HL := Lib.hid hl
  clear hs hl
  cases hc : cutB s 61 with | mk a p =>
  obtain ⟨b, is⟩ := p
  have HC := Lib.hid hc
  clear hc
  have hcc : Calls Tryd.prog 44 #[.string s, .string ⟨#[61]⟩] w fun e w' => e = .returned (.tuple #[.string a, .string b, .bool is]) ∧ Drawn0 w w' := by
    have := cut44 s 61 w HS.out
    rw [HC.out] at this
    exact this
  cases is with
  | false =>
    have HF : Hid (commentB s = false) := Lib.hid (by simp [commentB, HC.out])
    go_enter Tryd.func37, Tryd.ntmps37
    go_wp2_with (go_at_call 44; refine hcc.mono ?_; rintro e w' ⟨rfl, ⟨nd, rfl⟩⟩)
    go_ret
    rw [HF.out]
    exact ⟨rfl, (pw_below_drewN (Below.refl _ _) _)⟩
  | true =>
    have hla : a.size ≤ 9223372036854775807 := by have h := HL.out; rw [HC.out] at h; exact Nat.le_trans h HS.out
    have HLA := Lib.hid hla
    clear hla
    cases he : a.toList.isEmpty with
    | true =>
      have HF : Hid (commentB s = false) := Lib.hid (by simp [commentB, HC.out, he])
      go_enter Tryd.func37, Tryd.ntmps37
      go_wp2_with (go_at_call 44; refine hcc.mono ?_; rintro e w' ⟨rfl, ⟨nd, rfl⟩⟩)
      go_ret
      rw [HF.out]
      exact ⟨rfl, (pw_below_drewN (Below.refl _ _) _)⟩
    | false =>
      cases hb : (bytesOf a).any (outside 32 125) with
      | true =>
        have HF : Hid (commentB s = false) := Lib.hid (by simp [commentB, HC.out, he, hb])
        have hc2 := fun W => letters51 a 32 125 W HLA.out
        rw [hb] at hc2
        go_enter Tryd.func37, Tryd.ntmps37
        go_wp2_with (first | (go_at_call 44; refine hcc.mono ?_; rintro e w' ⟨rfl, ⟨nd, rfl⟩⟩) | (go_at_call 51; refine (hc2 _).mono ?_; rintro e w2 ⟨rfl, hb2⟩))
        go_ret
        rw [HF.out]
        exact ⟨rfl, bt (pw_below_drewN (Below.refl _ _) _) hb2⟩
      | false =>
        have HF : Hid (commentB s = Lib.validD s.data.toList) := Lib.hid (by simp [commentB, HC.out, he, hb])
        have hc2 := fun W => letters51 a 32 125 W HLA.out
        rw [hb] at hc2
        have HG := Lib.hid hG
        clear hG
        go_enter Tryd.func37, Tryd.ntmps37
        go_wp2_with (first | (go_at_call 44; refine hcc.mono ?_; rintro e w' ⟨rfl, ⟨nd, rfl⟩⟩) | (go_at_call 51; refine (hc2 _).mono ?_; rintro e w2 ⟨rfl, hb2⟩) | (go_at_call 34; refine (Tryd.utf8_ValidString s _ HS.out (HG.out.below (bt (pw_below_drewN (Below.refl _ _) _) hb2)).out).mono ?_; rintro e w3 ⟨rfl, hb3⟩))
        go_ret
        rw [HF.out]
        exact ⟨rfl, bt (bt (pw_below_drewN (Below.refl _ _) _) hb2) hb3⟩
end Go.Proofs.YtbjdipbhclihfaaDoor
