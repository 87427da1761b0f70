import Derived.Test.YtbjdipbhclihfaaDoorE11
set_option linter.unusedVariables false
set_option linter.unusedSimpArgs false
namespace Go.Proofs.YtbjdipbhclihfaaDoor
open Go.RowKit Go.Proofs Go.Proofs.YtbjdipbhclihfaaDoorW.PrintWords Plain
/-! What bytes are as a picture, by places. -/
theorem fourS_no {bs : List Int} {a : Nat} (h : bs.length < a + 4) : fourS (some (bs.drop a)) = none := by
  show (if (bs.drop a).length < 4 then none else some ((bs.drop a).drop 4)) = none
  rw [List.length_drop, if_pos (by omega)]
theorem fourS_at {bs : List Int} {a : Nat} (h : a + 4 ≤ bs.length) : fourS (some (bs.drop a)) = some (bs.drop (a + 4)) := by
  show (if (bs.drop a).length < 4 then none else some ((bs.drop a).drop 4)) = _
  rw [List.length_drop, if_neg (by omega), List.drop_drop]
theorem fourV_at {bs : List Int} {a : Nat} (h : a + 4 ≤ bs.length) : fourV (some (bs.drop a)) = high56F bs a := by
  show (if (bs.drop a).length < 4 then 0 else be4 (bs.drop a)) = _
  unfold high56F
  rw [List.length_drop, if_neg (by omega), if_neg (by omega)]
theorem textS_no {bs : List Int} {a : Nat} (h : bs.length < a + 4 ∨ (bs.length : Int) < a + 4 + be4 (bs.drop a)) : textS (some (bs.drop a)) = none := by
  show (ptxtB (bs.drop a)).map _ = none
  unfold ptxtB
  rw [List.length_drop]
  by_cases h4 : bs.length - a < 4
  · rw [if_pos h4]; rfl
  · rw [if_neg h4, if_pos (by omega)]; rfl
theorem text_at {bs : List Int} {a n : Nat} (h : a + 4 + n ≤ bs.length) (hn : be4 (bs.drop a) = n) : textS (some (bs.drop a)) = some (bs.drop (a + 4 + n)) ∧ textV (some (bs.drop a)) = (bs.drop (a + 4)).take n := by
  have hp : ptxtB (bs.drop a) = some ((bs.drop (a + 4)).take n, bs.drop (a + 4 + n)) := by
    unfold ptxtB
    rw [List.length_drop, if_neg (by omega), if_neg (by omega), hn, Int.toNat_natCast, List.drop_drop, List.drop_drop]
  constructor
  · show (ptxtB (bs.drop a)).map _ = _
    rw [hp]; rfl
  · show (ptxtB (bs.drop a)).elim _ _ = _
    rw [hp]; rfl
theorem pErr_short {bs : List Int} (h : bs.length < 8 ∨ (bs.length : Int) < 8 + be4 (bs.drop 4)) : pErr bs = 11 := by
  apply pErr_none
  apply st8_of2
  by_cases h4 : bs.length < 4
  · have : st1 bs = none := by show fourS (some (bs.drop 0)) = none; exact fourS_no (by omega)
    show textS (st1 bs) = none
    rw [this]; rfl
  · have : st1 bs = some (bs.drop 4) := by show fourS (some (bs.drop 0)) = _; exact fourS_at (by omega)
    show textS (st1 bs) = none
    rw [this]
    exact textS_no (by omega)
theorem st2_ok {bs : List Int} {m : Nat} (h : 8 + m ≤ bs.length) (hm : be4 (bs.drop 4) = m) : st2 bs = some (bs.drop (8 + m)) ∧ pMime bs = strOfNums ((bs.drop 8).take m) ∧ pK bs = high56F bs 0 := by
  have h1 : st1 bs = some (bs.drop 4) := by show fourS (some (bs.drop 0)) = _; exact fourS_at (by omega)
  have := text_at (bs := bs) (a := 4) (n := m) (by omega) hm
  refine ⟨?_, ?_, ?_⟩
  · show textS (st1 bs) = _
    rw [h1]; exact this.1
  · show strOfNums (textV (st1 bs)) = _
    rw [h1, this.2]
  · show fourV (some (bs.drop 0)) = _
    exact fourV_at (by omega)
theorem st3_bad {bs : List Int} {a : Nat} (h2 : st2 bs = some (bs.drop a)) (h : bs.length < a + 4 ∨ (bs.length : Int) < a + 4 + be4 (bs.drop a)) : pErr bs = 11 := by
  apply pErr_none
  apply st8_of3
  show textS (st2 bs) = none
  rw [h2]
  exact textS_no h
theorem st3_ok {bs : List Int} {a t : Nat} (h2 : st2 bs = some (bs.drop a)) (h : a + 4 + t ≤ bs.length) (ht : be4 (bs.drop a) = t) : st3 bs = some (bs.drop (a + 4 + t)) ∧ pText bs = strOfNums ((bs.drop (a + 4)).take t) := by
  have := text_at (bs := bs) (a := a) (n := t) h ht
  constructor
  · show textS (st2 bs) = _
    rw [h2]; exact this.1
  · show strOfNums (textV (st2 bs)) = _
    rw [h2, this.2]
theorem st_end {bs : List Int} {a : Nat} (h3 : st3 bs = some (bs.drop a)) (h : a + 16 ≤ bs.length) : st7 bs = some (bs.drop (a + 16)) ∧ pX bs = high56F bs a ∧ pH bs = high56F bs (a + 4) ∧ pD bs = high56F bs (a + 8) ∧ pC bs = high56F bs (a + 12) := by
  have h4 : st4 bs = some (bs.drop (a + 4)) := by show fourS (st3 bs) = _; rw [h3]; exact fourS_at (by omega)
  have h5 : st5 bs = some (bs.drop (a + 8)) := by show fourS (st4 bs) = _; rw [h4]; exact fourS_at (by omega)
  have h6 : st6 bs = some (bs.drop (a + 12)) := by show fourS (st5 bs) = _; rw [h5]; exact fourS_at (by omega)
  have h7 : st7 bs = some (bs.drop (a + 16)) := by show fourS (st6 bs) = _; rw [h6]; exact fourS_at (by omega)
  refine ⟨h7, ?_, ?_, ?_, ?_⟩
  · show fourV (st3 bs) = _; rw [h3]; exact fourV_at (by omega)
  · show fourV (st4 bs) = _; rw [h4]; exact fourV_at (by omega)
  · show fourV (st5 bs) = _; rw [h5]; exact fourV_at (by omega)
  · show fourV (st6 bs) = _; rw [h6]; exact fourV_at (by omega)
theorem end_bad {bs : List Int} {a : Nat} (h3 : st3 bs = some (bs.drop a)) (h : bs.length < a + 20 ∨ (bs.length : Int) < a + 20 + be4 (bs.drop (a + 16))) : pErr bs = 11 := by
  apply pErr_none
  by_cases h16 : a + 16 ≤ bs.length
  · show textS (st7 bs) = none
    rw [(st_end h3 h16).1]
    exact textS_no (by omega)
  · have f : ∀ st : Option (List Int), st = none → fourS st = none := fun st h => by rw [h]; rfl
    have : st7 bs = none := by
      show fourS (fourS (fourS (fourS (st3 bs)))) = none
      rw [h3]
      by_cases c1 : a + 4 ≤ bs.length
      · rw [fourS_at c1]
        by_cases c2 : a + 4 + 4 ≤ bs.length
        · rw [fourS_at c2]
          by_cases c3 : a + 4 + 4 + 4 ≤ bs.length
          · rw [fourS_at c3, fourS_no (by omega)]
          · rw [fourS_no (by omega)]; rfl
        · rw [fourS_no (by omega)]; rfl
      · rw [fourS_no (by omega)]; rfl
    exact st8_of7 this
theorem end_ok {bs : List Int} {a d : Nat} (h3 : st3 bs = some (bs.drop a)) (h : a + 20 + d ≤ bs.length) (hd : be4 (bs.drop (a + 16)) = d) : st8 bs = some (bs.drop (a + 20 + d)) ∧ pData bs = (bs.drop (a + 20)).take d := by
  have := text_at (bs := bs) (a := a + 16) (n := d) (by omega) hd
  rw [show a + 16 + 4 = a + 20 from rfl] at this
  have h7 := (st_end h3 (by omega)).1
  constructor
  · show textS (st7 bs) = _
    rw [h7]; exact this.1
  · show textV (st7 bs) = _
    rw [h7, this.2]
theorem end_form {bs : List Int} {a d : Nat} (h3 : st3 bs = some (bs.drop a)) (h : a + 20 + d < bs.length) (hd : be4 (bs.drop (a + 16)) = d) : pErr bs = 12 := by
  unfold pErr
  rw [(end_ok h3 (by omega) hd).1]
  show (if (bs.drop (a + 20 + d)).length = 0 then _ else _) = _
  rw [List.length_drop, if_neg (by omega)]
theorem end_pic {bs : List Int} {a d : Nat} (h3 : st3 bs = some (bs.drop a)) (h : a + 20 + d = bs.length) (hd : be4 (bs.drop (a + 16)) = d) :
    pErr bs = picErr (pK bs) (pMime bs) (pText bs) (pX bs) (pH bs) (pD bs) (pC bs) ∧ pData bs = bs.drop (a + 20) := by
  have := end_ok h3 (by omega) hd
  constructor
  · unfold pErr
    rw [this.1]
    show (if (bs.drop (a + 20 + d)).length = 0 then _ else _) = _
    rw [List.length_drop, if_pos (by omega)]
  · rw [this.2, List.take_of_length_le (by rw [List.length_drop]; omega)]
end Go.Proofs.YtbjdipbhclihfaaDoor
