import Derived.Test.YtbjdipbhclihfaaDoorE14
set_option linter.unusedVariables false
set_option linter.unusedSimpArgs false
namespace Go.Proofs.YtbjdipbhclihfaaDoor
open Go.RowKit Go.Proofs Go.Proofs.YtbjdipbhclihfaaDoorW.PrintWords Plain
/-! What reading hands back, zero values where something is wrong. -/
def rK (bs : List Int) : Int := if pErr bs = 0 then pK bs else 0
def rM (bs : List Int) : ByteArray := if pErr bs = 0 then pMime bs else ⟨#[]⟩
def rT (bs : List Int) : ByteArray := if pErr bs = 0 then pText bs else ⟨#[]⟩
def rX (bs : List Int) : Int := if pErr bs = 0 then pX bs else 0
def rH (bs : List Int) : Int := if pErr bs = 0 then pH bs else 0
def rD (bs : List Int) : Int := if pErr bs = 0 then pD bs else 0
def rC (bs : List Int) : Int := if pErr bs = 0 then pC bs else 0
def rData (bs : List Int) : List Int := if pErr bs = 0 then pData bs else []
theorem RdPic.all {w w' : World} {bs : List Int} {e : Ending} (h : RdPic w w' bs e) : ∃ A c, e = .returned (.tuple #[.agg #[.int .i64 (rK bs), .string (rM bs), .string (rT bs), .int .i64 (rX bs), .int .i64 (rH bs), .int .i64 (rD bs), .int .i64 (rC bs), .slice A (rData bs).length c], .int .i64 (pErr bs)]) ∧ (rData bs).length ≤ c ∧ (Kd.int .u8).C w' A (rData bs).length (rData bs) ∧ Below w.heap.size w w' := by
  obtain ⟨u, he, hu, hb⟩ := h
  unfold rK rM rT rX rH rD rC rData
  by_cases h0 : pErr bs = 0
  · simp only [h0, if_true] at he hu ⊢
    obtain ⟨A, c, rfl, hl, hC⟩ := hu
    exact ⟨A, c, he, hl, hC, hb⟩
  · simp only [if_neg h0] at he hu ⊢
    exact ⟨none, 0, he, Nat.le_refl _, C_nil8 _, hb⟩
theorem RefRP.all {w w' : World} {bs : List Int} {e : Ending} (h : RefRP w w' bs e) : ∃ A c, e = .returned (.tuple #[.agg #[.int .i64 (rK bs), .int .i64 (rX bs), .int .i64 (rH bs), .int .i64 (rD bs), .int .i64 (rC bs)], .string (rM bs), .string (rT bs), .slice A (rData bs).length c, .int .i64 (pErr bs)]) ∧ (rData bs).length ≤ c ∧ (Kd.int .u8).C w' A (rData bs).length (rData bs) ∧ Below w.heap.size w w' := by
  obtain ⟨u, he, hu, hb⟩ := h
  unfold rK rM rT rX rH rD rC rData
  by_cases h0 : pErr bs = 0
  · simp only [h0, if_true] at he hu ⊢
    obtain ⟨A, c, rfl, hl, hC⟩ := hu trivial
    exact ⟨A, c, he, hl, hC, hb⟩
  · simp only [if_neg h0] at he hu ⊢
    exact ⟨none, 0, he, Nat.le_refl _, C_nil8 _, hb⟩
set_option maxHeartbeats 1000000 in
set_option maxRecDepth 100000 in
theorem pics5 (k x h d c : Int) (mime text : ByteArray) (AD : Option Addr) (cD : Nat) (data : List Int) (A2 : Option Addr) (c2 : Nat) (bs : List Int) (w : World) (hr : (Kd.int .u8).C w AD data.length data) (hc : data.length ≤ cD) (hr2 : (Kd.int .u8).C w A2 bs.length bs) (hc2 : bs.length ≤ c2) (hby : ByteL bs) (hm : mime.size ≤ 9223372036854775807) (ht : text.size ≤ 9223372036854775807) (hG : Glob w) :
    Calls Tryd.prog 5 #[.agg #[.int .i64 k, .string mime, .string text, .int .i64 x, .int .i64 h, .int .i64 d, .int .i64 c, .slice AD data.length cD], .slice A2 bs.length c2] w fun e w' => e = .returned (.bool true) ∧ Below w.heap.size w w' := by
  have hb0 : Below w.heap.size w (w.alloc (.cells #[.int .i64 k, .string mime, .string text, .int .i64 x, .int .i64 h, .int .i64 d, .int .i64 c, .slice AD data.length cD] 45)) := below_alloc (Below.refl _ _) _
  have HR := Lib.hid (Kd.C_below hr hb0)
  have HR2 := Lib.hid (Kd.C_below hr2 hb0)
  have HC := Lib.hid hc
  have HC2 := Lib.hid hc2
  have HBY := Lib.hid hby
  have HG := Lib.hid (hG.below hb0)
  have HB0 := Lib.hid hb0
  have hk0 := blk_new w (.cells #[.int .i64 k, .string mime, .string text, .int .i64 x, .int .i64 h, .int .i64 d, .int .i64 c, .slice AD data.length cD] 45)
  have hl1 := C_len hr
  have hl2 := C_len hr2
  clear hr hr2 hc hc2 hG hb0 hby
  go_enter Tryd.func5, Tryd.ntmps5
  generalize hw0 : w.alloc (.cells #[.int .i64 k, .string mime, .string text, .int .i64 x, .int .i64 h, .int .i64 d, .int .i64 c, .slice AD data.length cD] 45) = w0 at *
  have HW0 := Lib.hid hw0
  clear hw0
  have HAW : ∀ W, Hid (Below w0.heap.size w0 W) → Calls Tryd.prog 10 #[] W fun e w' => e = .returned (.bool true) ∧ Below W.heap.size W w' := fun W h => awake10 W (HG.out.below h.out)
  replace HAW := Lib.hid HAW
  have HBR : Hid (Below w0.heap.size w0 w0) := Lib.hid (Below.refl _ _)
  by_cases g1 : (mime.size : Int) > 200
  · have hc0 := blk_cell hk0 0
    have hc1 := blk_cell hk0 1
    have hc2 := blk_cell hk0 2
    have hc3 := blk_cell hk0 3
    have hc4 := blk_cell hk0 4
    have hc5 := blk_cell hk0 5
    have hc6 := blk_cell hk0 6
    have hc7 := blk_cell hk0 7
    simp only [List.getElem?_toArray, List.getElem?_cons_zero, List.getElem?_cons_succ] at hc0 hc1 hc2 hc3 hc4 hc5 hc6 hc7
    go_wp2_with (fail)
    rw [HW0.out]
    refine (HAW.out _ HBR).mono ?_
    rintro e w9 ⟨rfl, hb9⟩
    have HB9 := Lib.hid (HB0.out.trans (hb9.mono HB0.out.size))
    clear hb9
    go_wp2_with (fail)
    go_ret
    exact ⟨rfl, HB9.out⟩
  · by_cases g2 : (text.size : Int) > 200
    · have hc0 := blk_cell hk0 0
      have hc1 := blk_cell hk0 1
      have hc2 := blk_cell hk0 2
      have hc3 := blk_cell hk0 3
      have hc4 := blk_cell hk0 4
      have hc5 := blk_cell hk0 5
      have hc6 := blk_cell hk0 6
      have hc7 := blk_cell hk0 7
      simp only [List.getElem?_toArray, List.getElem?_cons_zero, List.getElem?_cons_succ] at hc0 hc1 hc2 hc3 hc4 hc5 hc6 hc7
      go_wp2_with (fail)
      rw [HW0.out]
      refine (HAW.out _ HBR).mono ?_
      rintro e w9 ⟨rfl, hb9⟩
      have HB9 := Lib.hid (HB0.out.trans (hb9.mono HB0.out.size))
      clear hb9
      go_wp2_with (fail)
      go_ret
      exact ⟨rfl, HB9.out⟩
    · by_cases g3 : (data.length : Int) > 200
      · have hc0 := blk_cell hk0 0
        have hc1 := blk_cell hk0 1
        have hc2 := blk_cell hk0 2
        have hc3 := blk_cell hk0 3
        have hc4 := blk_cell hk0 4
        have hc5 := blk_cell hk0 5
        have hc6 := blk_cell hk0 6
        have hc7 := blk_cell hk0 7
        simp only [List.getElem?_toArray, List.getElem?_cons_zero, List.getElem?_cons_succ] at hc0 hc1 hc2 hc3 hc4 hc5 hc6 hc7
        go_wp2_with (fail)
        rw [HW0.out]
        refine (HAW.out _ HBR).mono ?_
        rintro e w9 ⟨rfl, hb9⟩
        have HB9 := Lib.hid (HB0.out.trans (hb9.mono HB0.out.size))
        clear hb9
        go_wp2_with (fail)
        go_ret
        exact ⟨rfl, HB9.out⟩
      · by_cases g4 : (bs.length : Int) > 500
        · have hc0 := blk_cell hk0 0
          have hc1 := blk_cell hk0 1
          have hc2 := blk_cell hk0 2
          have hc3 := blk_cell hk0 3
          have hc4 := blk_cell hk0 4
          have hc5 := blk_cell hk0 5
          have hc6 := blk_cell hk0 6
          have hc7 := blk_cell hk0 7
          simp only [List.getElem?_toArray, List.getElem?_cons_zero, List.getElem?_cons_succ] at hc0 hc1 hc2 hc3 hc4 hc5 hc6 hc7
          go_wp2_with (fail)
          rw [HW0.out]
          refine (HAW.out _ HBR).mono ?_
          rintro e w9 ⟨rfl, hb9⟩
          have HB9 := Lib.hid (HB0.out.trans (hb9.mono HB0.out.size))
          clear hb9
          go_wp2_with (fail)
          go_ret
          exact ⟨rfl, HB9.out⟩
        · have hc0 := blk_cell hk0 0
          have hc1 := blk_cell hk0 1
          have hc2 := blk_cell hk0 2
          have hc3 := blk_cell hk0 3
          have hc4 := blk_cell hk0 4
          have hc5 := blk_cell hk0 5
          have hc6 := blk_cell hk0 6
          have hc7 := blk_cell hk0 7
          simp only [List.getElem?_toArray, List.getElem?_cons_zero, List.getElem?_cons_succ] at hc0 hc1 hc2 hc3 hc4 hc5 hc6 hc7
          go_wp2_with (fail)
          rw [HW0.out]
          refine (write21g k x h d c mime text AD cD data w0 HR.out HC.out HG.out (by omega)).mono ?_
          rintro e w2 ⟨u, rfl, hu, hb2⟩
          have HB2 := Lib.hid hb2
          have hk2 := blk_below hk0 hb2
          obtain ⟨A3, c3, rfl, hl3, hC3⟩ := RB.of_BYT hu
          have HX := Lib.hid hC3
          have HLX := Lib.hid hl3
          clear hb2 hu hc0 hc1 hc2 hc3 hc4 hc5 hc6 hc7 hk0 hl3 hC3
          have hc0 := blk_cell hk2 0
          have hc1 := blk_cell hk2 1
          have hc2 := blk_cell hk2 2
          have hc3 := blk_cell hk2 3
          have hc4 := blk_cell hk2 4
          have hc5 := blk_cell hk2 5
          have hc6 := blk_cell hk2 6
          have hc7 := blk_cell hk2 7
          simp only [List.getElem?_toArray, List.getElem?_cons_zero, List.getElem?_cons_succ] at hc0 hc1 hc2 hc3 hc4 hc5 hc6 hc7
          obtain ⟨ee, hee⟩ : ∃ ee : Int, picErr k mime text x h d c = ee := ⟨_, rfl⟩
          rw [hee] at HX HLX ⊢
          obtain ⟨xx, hxx⟩ : ∃ xx : List Int, (if ee = 0 then picBytes k mime text x h d c data else []) = xx := ⟨_, rfl⟩
          rw [hxx] at HX HLX ⊢
          have HEE := Lib.hid hee
          have HXX := Lib.hid hxx
          clear hee hxx
          go_wp2_with (fail)
          refine (ref22 k x h d c mime text AD cD data w2 (Kd.C_below HR.out HB2.out) HC.out (by omega)).mono ?_
          rintro e w3 hrp
          obtain ⟨u, rfl, hu, hb3⟩ := hrp
          rw [HEE.out, HXX.out] at hu
          rw [HEE.out]
          have HB3 := Lib.hid (HB2.out.trans (hb3.mono HB2.out.size))
          have hk3 := blk_below hk2 hb3
          obtain ⟨A4, c4, rfl, hl4, hC4⟩ := RB.of_BYT hu
          have HX3 := Lib.hid (Kd.C_below HX.out hb3)
          have HY3 := Lib.hid hC4
          have HLY := Lib.hid hl4
          clear hb3 hu hc0 hc1 hc2 hc3 hc4 hc5 hc6 hc7 hk2 HB2 hl4 hC4 HX
          go_wp2_with (fail)
          refine (bytes18 A3 c3 xx A4 c4 xx w3 HX3.out HLX.out HY3.out HLY.out).mono ?_
          rintro e w4 ⟨rfl, ⟨n4, rfl⟩⟩
          rw [decide_eq_true rfl]
          have HB4 := Lib.hid (pw_below_drewN HB3.out n4)
          clear hk3 HB3 HX3 HY3
          generalize w3.drewN n4 = w4 at *
          have HRD := Lib.hid (read23 A2 c2 bs w4 (Kd.C_below HR2.out HB4.out) HC2.out HBY.out (by omega) (HG.out.below HB4.out))
          go_wp2_with (fail)
          refine HRD.out.mono ?_
          rintro e w5 hrd
          obtain ⟨A5, c5, rfl, hl5, hC5, hb5⟩ := hrd.all
          have HRF : ∀ W, Below w0.heap.size w0 W → Calls Tryd.prog 24 #[.slice A2 bs.length c2] W fun r W' => RefRP W W' bs r := fun W hW => ref24 A2 c2 bs W (Kd.C_below HR2.out hW) HC2.out HBY.out (by omega)
          replace HRF := Lib.hid HRF
          have HRR : Hid (∀ W W' e, RefRP W W' bs e → _) := Lib.hid fun W W' e h => RefRP.all h
          clear hrd HRD
          generalize rK bs = rk at *
          generalize rM bs = rm at *
          generalize rT bs = rt at *
          generalize rX bs = rx at *
          generalize rH bs = rh at *
          generalize rD bs = rd0 at *
          generalize rC bs = rc at *
          generalize rData bs = rdata at *
          generalize pErr bs = re at *
          have hm5 : Below w5.heap.size w5 (w5.alloc (.cells #[.int .i64 rk, .string rm, .string rt, .int .i64 rx, .int .i64 rh, .int .i64 rd0, .int .i64 rc, .slice A5 rdata.length c5] 45)) := below_alloc (Below.refl _ _) _
          have HB5 := Lib.hid (HB4.out.trans ((hb5.trans (hm5.mono hb5.size)).mono HB4.out.size))
          have hk5 := blk_new w5 (.cells #[.int .i64 rk, .string rm, .string rt, .int .i64 rx, .int .i64 rh, .int .i64 rd0, .int .i64 rc, .slice A5 rdata.length c5] 45)
          have HD5 := Lib.hid (Kd.C_below hC5 hm5)
          have HLD := Lib.hid hl5
          clear hb5 hm5 hC5 hl5 HB4
          go_wp2_with (fail)
          generalize w5.alloc (.cells #[.int .i64 rk, .string rm, .string rt, .int .i64 rx, .int .i64 rh, .int .i64 rd0, .int .i64 rc, .slice A5 rdata.length c5] 45) = w6 at *
          refine (HRF.out w6 HB5.out).mono ?_
          rintro e w7 hrf
          obtain ⟨A7, c7, rfl, hl7, hC7, hb7⟩ := HRR.out _ _ _ hrf
          have hm7 : Below w7.heap.size w7 (w7.alloc (.cells #[.int .i64 rk, .int .i64 rx, .int .i64 rh, .int .i64 rd0, .int .i64 rc] 47)) := below_alloc (Below.refl _ _) _
          have HB7 := Lib.hid (HB5.out.trans ((hb7.trans (hm7.mono hb7.size)).mono HB5.out.size))
          have hk7 := blk_below hk5 (hb7.trans (hm7.mono hb7.size))
          have hn7 := blk_new w7 (.cells #[.int .i64 rk, .int .i64 rx, .int .i64 rh, .int .i64 rd0, .int .i64 rc] 47)
          have HD7 := Lib.hid (Kd.C_below HD5.out (hb7.trans (hm7.mono hb7.size)))
          have HE7 := Lib.hid (Kd.C_below hC7 hm7)
          have HLE := Lib.hid hl7
          clear hb7 hm7 hk5 HD5 hC7 hl7 HB5 HRF HRR hrf
          have hc0 := blk_cell hk7 0
          have hc1 := blk_cell hk7 1
          have hc2 := blk_cell hk7 2
          have hc3 := blk_cell hk7 3
          have hc4 := blk_cell hk7 4
          have hc5 := blk_cell hk7 5
          have hc6 := blk_cell hk7 6
          have hc7 := blk_cell hk7 7
          simp only [List.getElem?_toArray, List.getElem?_cons_zero, List.getElem?_cons_succ] at hc0 hc1 hc2 hc3 hc4 hc5 hc6 hc7
          have hn0 := blk_cell hn7 0
          have hn1 := blk_cell hn7 1
          have hn2 := blk_cell hn7 2
          have hn3 := blk_cell hn7 3
          have hn4 := blk_cell hn7 4
          simp only [List.getElem?_toArray, List.getElem?_cons_zero, List.getElem?_cons_succ] at hn0 hn1 hn2 hn3 hn4
          go_wp2_with (fail)
          generalize w7.alloc (.cells #[.int .i64 rk, .int .i64 rx, .int .i64 rh, .int .i64 rd0, .int .i64 rc] 47) = w8 at *
          refine (picture25 rk rx rh rd0 rc rm rt A5 c5 A7 c7 rdata w8 HD7.out HLD.out HE7.out HLE.out).mono ?_
          rintro e w10 ⟨rfl, hb10⟩
          have HB10 := Lib.hid (HB7.out.trans (hb10.mono HB7.out.size))
          clear hk7 hn7 hc0 hc1 hc2 hc3 hc4 hc5 hc6 hc7 hn0 hn1 hn2 hn3 hn4 HB7 HD7 HE7 hb10
          go_wp2_with (fail)
          refine (HAW.out _ HB10).mono ?_
          rintro e w9 ⟨rfl, hb9⟩
          have HB9 := Lib.hid (fin3 HB0.out HB10.out hb9)
          clear hb9
          go_wp2_with (fail)
          go_ret
          exact ⟨rfl, HB9.out⟩
end Go.Proofs.YtbjdipbhclihfaaDoor
