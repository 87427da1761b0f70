import Derived.Test.YtbjdipbhclihfaaDoorE6
set_option linter.unusedVariables false
set_option linter.unusedSimpArgs false
namespace Go.Proofs.YtbjdipbhclihfaaDoor
open Go.RowKit Go.Proofs Go.Proofs.YtbjdipbhclihfaaDoorW.PrintWords Plain
/-- What is wrong with a picture. -/
def picErr (k : Int) (mime text : ByteArray) (x h d c : Int) : Int := if picForm mime text = true then (if picRange k x h d c = true then 0 else 10) else 12
theorem range_nat {k x h d c : Int} (h0 : picRange k x h d c = true) : 0 ≤ k ∧ k ≤ 20 ∧ 0 ≤ x ∧ x ≤ 4294967295 ∧ 0 ≤ h ∧ h ≤ 4294967295 ∧ 0 ≤ d ∧ d ≤ 4294967295 ∧ 0 ≤ c ∧ c ≤ 4294967295 := by
  simp [picRange, outside] at h0
  omega
theorem write21g (k x h d c : Int) (mime text : ByteArray) (AD : Option Addr) (cD : Nat) (data : List Int) (w : World) (hd : (Kd.int .u8).C w AD data.length data) (hcd : data.length ≤ cD) (hG : Glob w)
    (hsz : mime.size + text.size + data.length + 32 ≤ 16777215) :
    Calls Tryd.prog 21 #[.agg #[.int .i64 k, .string mime, .string text, .int .i64 x, .int .i64 h, .int .i64 d, .int .i64 c, .slice AD data.length cD]] w fun e w' => ∃ u, e = .returned (.tuple #[u, .int .i64 (picErr k mime text x h d c)]) ∧ BYT w' w.heap.size u (if picErr k mime text x h d c = 0 then picBytes k mime text x h d c data else []) ∧ Below w.heap.size w w' := by
  have hm : Fits mime := Nat.le_trans (show mime.size ≤ 16777215 by omega) (by decide)
  have ht : Fits text := Nat.le_trans (show text.size ≤ 16777215 by omega) (by decide)
  by_cases hf : picForm mime text = true
  · by_cases hr : picRange k x h d c = true
    · have he : picErr k mime text x h d c = 0 := by simp [picErr, hf, hr]
      rw [he, if_pos rfl]
      obtain ⟨a1, -, a2, -, a3, -, a4, -, a5, -⟩ := range_nat hr
      obtain ⟨k, rfl⟩ := Int.eq_ofNat_of_zero_le a1
      obtain ⟨x, rfl⟩ := Int.eq_ofNat_of_zero_le a2
      obtain ⟨h, rfl⟩ := Int.eq_ofNat_of_zero_le a3
      obtain ⟨d, rfl⟩ := Int.eq_ofNat_of_zero_le a4
      obtain ⟨c, rfl⟩ := Int.eq_ofNat_of_zero_le a5
      refine write21_yes k x h d c mime text AD cD data w hd hcd hG hf hr ?_
      unfold picBytes
      simp only [List.length_append, bytesOf_length]
      simp only [big4, List.length_cons, List.length_nil]
      omega
    · have he : picErr k mime text x h d c = 10 := by simp [picErr, hf, hr]
      rw [he, if_neg (by decide)]
      exact (write21_range k mime text x h d c _ w hm ht hG hf (by simpa using hr)).mono fun e w' ⟨he, hb⟩ => ⟨_, he, Kd.R_nil _ _ _ _ _, hb⟩
  · have he : picErr k mime text x h d c = 12 := by simp [picErr, hf]
    rw [he, if_neg (by decide)]
    exact (write21_form k mime text x h d c _ w hm ht hG (by simpa using hf)).mono fun e w' ⟨he, hb⟩ => ⟨_, he, Kd.R_nil _ _ _ _ _, hb⟩
end Go.Proofs.YtbjdipbhclihfaaDoor
