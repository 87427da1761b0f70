import Derived.Test.YtbjdipbhclihfaaDoorE4
set_option linter.unusedVariables false
set_option linter.unusedSimpArgs false
namespace Go.Proofs.YtbjdipbhclihfaaDoor
open Go.RowKit Go.Proofs Go.Proofs.YtbjdipbhclihfaaDoorW.PrintWords Plain
theorem row1i (W : World) (x : Int) : (Kd.int .i64).C (W.alloc (.cells #[.int .i64 x] 3)) (some ⟨W.heap.size, 0, none⟩) [x].length [x] := by
  refine C_lit1 rfl (blk_new W _) [x] (by show 1 ≤ 9223372036854775807; decide) fun j p hj => ?_
  match j, hj with
  | 0, hj => simp at hj; subst hj; exact ⟨_, rfl, rfl⟩
theorem row4i (W : World) (x y z u : Int) : (Kd.int .i64).C (W.alloc (.cells #[.int .i64 x, .int .i64 y, .int .i64 z, .int .i64 u] 3)) (some ⟨W.heap.size, 0, none⟩) [x, y, z, u].length [x, y, z, u] := by
  refine C_lit1 rfl (blk_new W _) [x, y, z, u] (by show 4 ≤ 9223372036854775807; decide) fun j p hj => ?_
  match j, hj with
  | 0, hj => simp at hj; subst hj; exact ⟨_, rfl, rfl⟩
  | 1, hj => simp at hj; subst hj; exact ⟨_, rfl, rfl⟩
  | 2, hj => simp at hj; subst hj; exact ⟨_, rfl, rfl⟩
  | 3, hj => simp at hj; subst hj; exact ⟨_, rfl, rfl⟩
/-- May a picture's texts be? -/
def picForm (mime text : ByteArray) : Bool := !(bytesOf mime).any (outside 32 126) && Lib.validD text.data.toList
/-- May a picture's numbers be? -/
def picRange (k w h b c : Int) : Bool := !outside 0 20 k && !([w, h, b, c].any (outside 0 4294967295))
/-- A picture as a value. -/
def PicV (k : Int) (mime text : ByteArray) (w h b c : Int) (u : Value) : Value := .agg #[.int .i64 k, .string mime, .string text, .int .i64 w, .int .i64 h, .int .i64 b, .int .i64 c, u]
set_option maxRecDepth 100000 in
theorem write21_form (k : Int) (mime text : ByteArray) (x h b c : Int) (u : Value) (w : World) (hm : Fits mime) (ht : Fits text) (hG : Glob w) (hf : picForm mime text = false) :
    Calls Tryd.prog 21 #[.agg #[.int .i64 k, .string mime, .string text, .int .i64 x, .int .i64 h, .int .i64 b, .int .i64 c, u]] w fun e w' => e = .returned (.tuple #[.slice none 0 0, .int .i64 12]) ∧ Below w.heap.size w w' := by
  have hb0 := below_alloc (Below.refl w.heap.size w) (.cells #[.int .i64 k, .string mime, .string text, .int .i64 x, .int .i64 h, .int .i64 b, .int .i64 c, u] 45)
  have hk0 := blk_new w (.cells #[.int .i64 k, .string mime, .string text, .int .i64 x, .int .i64 h, .int .i64 b, .int .i64 c, u] 45)
  have HL := Lib.hid (letters51 mime 32 126 (w.alloc (.cells #[.int .i64 k, .string mime, .string text, .int .i64 x, .int .i64 h, .int .i64 b, .int .i64 c, u] 45)) hm)
  have HV := Lib.hid (fun W h => Tryd.utf8_ValidString text W ht h)
  have HG := Lib.hid (hG.below hb0)
  have HB := Lib.hid hb0
  have HK := Lib.hid hk0
  unfold picForm at hf
  clear hm ht hG hb0 hk0
  go_enter Tryd.func21, Tryd.ntmps21
  go_wp2_with (fail)
  generalize w.alloc (.cells #[.int .i64 k, .string mime, .string text, .int .i64 x, .int .i64 h, .int .i64 b, .int .i64 c, u] 45) = w0 at *
  refine HL.out.mono ?_
  rintro e w1 ⟨rfl, hb1⟩
  cases hl : (bytesOf mime).any (outside 32 126) with
  | true =>
    have HB1 := Lib.hid (HB.out.trans (hb1.mono HB.out.size))
    clear hb1 hf HL
    go_wp2_with (fail)
    go_ret2
    exact ⟨rfl, HB1.out⟩
  | false =>
    rw [hl] at hf
    have hval : Lib.validD text.data.toList = false := by simpa using hf
    have hk1 := blk_below HK.out hb1
    have c2 := blk_cell hk1 2
    simp only [List.getElem?_toArray, List.getElem?_cons_zero, List.getElem?_cons_succ] at c2
    have HB1 := Lib.hid (HB.out.trans (hb1.mono HB.out.size))
    have HV1 := Lib.hid (HV.out w1 (HG.out.below hb1).out)
    rw [hval] at HV1
    clear hb1 hf hk1 HL HV hl hval
    go_wp2_with (fail)
    refine HV1.out.mono ?_
    rintro e w2 ⟨rfl, hb2⟩
    have HB2 := Lib.hid (HB1.out.trans (hb2.mono HB1.out.size))
    clear hb2 c2
    go_wp2_with (fail)
    go_ret2
    exact ⟨rfl, HB2.out⟩
set_option maxRecDepth 100000 in
theorem write21_range (k : Int) (mime text : ByteArray) (x h b c : Int) (u : Value) (w : World) (hm : Fits mime) (ht : Fits text) (hG : Glob w) (hf : picForm mime text = true) (hr : picRange k x h b c = false) :
    Calls Tryd.prog 21 #[.agg #[.int .i64 k, .string mime, .string text, .int .i64 x, .int .i64 h, .int .i64 b, .int .i64 c, u]] w fun e w' => e = .returned (.tuple #[.slice none 0 0, .int .i64 10]) ∧ Below w.heap.size w w' := by
  have hb0 := below_alloc (Below.refl w.heap.size w) (.cells #[.int .i64 k, .string mime, .string text, .int .i64 x, .int .i64 h, .int .i64 b, .int .i64 c, u] 45)
  have hk0 := blk_new w (.cells #[.int .i64 k, .string mime, .string text, .int .i64 x, .int .i64 h, .int .i64 b, .int .i64 c, u] 45)
  have hL := letters51 mime 32 126 (w.alloc (.cells #[.int .i64 k, .string mime, .string text, .int .i64 x, .int .i64 h, .int .i64 b, .int .i64 c, u] 45)) hm
  have hV := fun W h => Tryd.utf8_ValidString text W ht h
  unfold picForm at hf
  simp only [Bool.and_eq_true, Bool.not_eq_true'] at hf
  rw [hf.1] at hL
  rw [hf.2] at hV
  have HL := Lib.hid hL
  have HV := Lib.hid hV
  have HG := Lib.hid (hG.below hb0)
  have HB := Lib.hid hb0
  have HK := Lib.hid hk0
  unfold picRange at hr
  clear hm ht hG hb0 hk0 hL hV hf
  go_enter Tryd.func21, Tryd.ntmps21
  go_wp2_with (fail)
  generalize w.alloc (.cells #[.int .i64 k, .string mime, .string text, .int .i64 x, .int .i64 h, .int .i64 b, .int .i64 c, u] 45) = w0 at *
  refine HL.out.mono ?_
  rintro e w1 ⟨rfl, hb1⟩
  have hk1 := blk_below HK.out hb1
  have c2 := blk_cell hk1 2
  simp only [List.getElem?_toArray, List.getElem?_cons_zero, List.getElem?_cons_succ] at c2
  have HB1 := Lib.hid (HB.out.trans (hb1.mono HB.out.size))
  have HV1 := Lib.hid (HV.out w1 (HG.out.below hb1).out)
  have HK1 := Lib.hid hk1
  clear hb1 hk1 HL HV HK
  go_wp2_with (fail)
  refine HV1.out.mono ?_
  rintro e w2 ⟨rfl, hb2⟩
  have HB2 := Lib.hid (HB1.out.trans (hb2.mono HB1.out.size))
  have hk2 := blk_below HK1.out hb2
  have c0 := blk_cell hk2 0
  simp only [List.getElem?_toArray, List.getElem?_cons_zero, List.getElem?_cons_succ] at c0
  have hm2 := below_alloc (Below.refl w2.heap.size w2) (.cells #[.int .i64 k] 3)
  have HW := Lib.hid (within52 _ 1 [k] 0 20 _ (row1i w2 k))
  have HB3 := Lib.hid (HB2.out.trans (hm2.mono HB2.out.size))
  have HK3 := Lib.hid (blk_below hk2 hm2)
  clear hb2 hk2 hm2 c2 HV1 HK1 HB1 HB2
  go_wp2_with (fail)
  generalize w2.alloc (.cells #[.int .i64 k] 3) = w3 at *
  refine HW.out.mono ?_
  rintro e w4 ⟨rfl, hb4⟩
  have hk4 := blk_below HK3.out hb4
  have HB4 := Lib.hid (HB3.out.trans (hb4.mono HB3.out.size))
  cases ho : outside 0 20 k with
  | true =>
    have ha : ([k].any (outside 0 20)) = true := by simp [ho]
    rw [ha]
    clear hr hb4 hk4 HW HB3 HK3 ha ho c0
    go_wp2_with (fail)
    go_ret2
    exact ⟨rfl, HB4.out⟩
  | false =>
    have ha : ([k].any (outside 0 20)) = false := by simp [ho]
    rw [ha]
    rw [ho] at hr
    have hr2 : ([x, h, b, c].any (outside 0 4294967295)) = true := by
      cases hq : ([x, h, b, c].any (outside 0 4294967295)) with
      | true => rfl
      | false => rw [hq] at hr; cases hr
    have c3 := blk_cell hk4 3
    have c4 := blk_cell hk4 4
    have c5 := blk_cell hk4 5
    have c6 := blk_cell hk4 6
    simp only [List.getElem?_toArray, List.getElem?_cons_zero, List.getElem?_cons_succ] at c3 c4 c5 c6
    have hm4 := below_alloc (Below.refl w4.heap.size w4) (.cells #[.int .i64 x, .int .i64 h, .int .i64 b, .int .i64 c] 3)
    have hw4 := within52 _ 4 [x, h, b, c] 0 4294967295 _ (row4i w4 x h b c)
    rw [hr2] at hw4
    have HW4 := Lib.hid hw4
    have HB5 := Lib.hid (HB4.out.trans (hm4.mono HB4.out.size))
    clear hr hr2 hb4 hk4 HW HB3 HK3 ha ho c0 hw4 hm4 HB4
    go_wp2_with (fail)
    generalize w4.alloc (.cells #[.int .i64 x, .int .i64 h, .int .i64 b, .int .i64 c] 3) = w5 at *
    refine HW4.out.mono ?_
    rintro e w6 ⟨rfl, hb6⟩
    have HB6 := Lib.hid (HB5.out.trans (hb6.mono HB5.out.size))
    clear hb6 c3 c4 c5 c6
    go_wp2_with (fail)
    go_ret2
    exact ⟨rfl, HB6.out⟩
end Go.Proofs.YtbjdipbhclihfaaDoor
