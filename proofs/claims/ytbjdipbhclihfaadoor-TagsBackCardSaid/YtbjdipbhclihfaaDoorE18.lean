import Derived.Test.YtbjdipbhclihfaaDoorE17
import Derived.Deep.DeepCutAuto
import Derived.Deep.CutBlock
set_option linter.unusedVariables false
set_option linter.unusedSimpArgs false
namespace Go.Proofs.YtbjdipbhclihfaaDoor
open Go.RowKit Go.Proofs Go.Proofs.YtbjdipbhclihfaaDoorW.PrintWords Plain
theorem ByteL.app {a b : List Int} (ha : ByteL a) (hb : ByteL b) : ByteL (a ++ b) := fun x hx => (List.mem_append.1 hx).elim (ha x) (hb x)
theorem low4_byte (n : Int) : ByteL (low4 n) := by
  intro x hx
  simp only [low4, List.mem_cons, List.mem_nil_iff, or_false] at hx
  omega
theorem big4_byte (n : Int) : ByteL (big4 n) := by
  intro x hx
  simp only [big4, List.mem_cons, List.mem_nil_iff, or_false] at hx
  omega
theorem cb_byte (v : ByteArray) (L : List ByteArray) : ByteL (commentsBytes v L) := by
  unfold commentsBytes
  refine ByteL.app (ByteL.app (ByteL.app (low4_byte _) (bytesOf_byte v)) (low4_byte _)) ?_
  intro x hx
  obtain ⟨l, hl, hxl⟩ := List.mem_flatten.1 hx
  obtain ⟨s, _, rfl⟩ := List.mem_map.1 hl
  exact ByteL.app (low4_byte _) (bytesOf_byte s) x hxl
theorem pb_byte (k x h d c : Int) (mime text : ByteArray) (data : List Int) (hD : ByteL data) : ByteL (picBytes k mime text x h d c data) := by
  unfold picBytes
  exact ByteL.app (ByteL.app (ByteL.app (ByteL.app (ByteL.app (ByteL.app (ByteL.app (ByteL.app (ByteL.app (ByteL.app (big4_byte _) (big4_byte _)) (bytesOf_byte _)) (big4_byte _)) (bytesOf_byte _)) (big4_byte _)) (big4_byte _)) (big4_byte _)) (big4_byte _)) (big4_byte _)) hD
theorem pb_len (k x h d c : Int) (mime text : ByteArray) (data : List Int) : (picBytes k mime text x h d c data).length = 32 + mime.size + text.size + data.length := by
  unfold picBytes
  simp only [List.length_append, bytesOf_length, big4_len]
  omega
theorem RdCom.at_ {w w' : World} {bs : List Int} {e : Ending} {v : ByteArray} {L : List ByteArray} {z : Int} (h : RdCom w w' bs e) (hr : readB bs = (v, L, z)) : ∃ A c, e = .returned (.tuple #[.agg #[.string v, .slice A L.length c], .int .i64 z]) ∧ L.length ≤ c ∧ Kd.string.C w' A L.length L ∧ Below w.heap.size w w' := by
  unfold RdCom at h
  rw [hr] at h
  obtain ⟨u, he, ⟨A, c, rfl, hl, hC⟩, hb⟩ := h
  exact ⟨A, c, he, hl, hC, hb⟩
theorem RdPic.at_ {w w' : World} {bs : List Int} {e : Ending} {k x h d c : Int} {m t : ByteArray} {data : List Int} (hp : RdPic w w' bs e) (he : pErr bs = 0 ∧ pK bs = k ∧ pMime bs = m ∧ pText bs = t ∧ pX bs = x ∧ pH bs = h ∧ pD bs = d ∧ pC bs = c ∧ pData bs = data) : ∃ A cc, e = .returned (.tuple #[.agg #[.int .i64 k, .string m, .string t, .int .i64 x, .int .i64 h, .int .i64 d, .int .i64 c, .slice A data.length cc], .int .i64 0]) ∧ data.length ≤ cc ∧ (Kd.int .u8).C w' A data.length data ∧ Below w.heap.size w w' := by
  obtain ⟨e0, e1, e2, e3, e4, e5, e6, e7, e8⟩ := he
  have := hp.all
  simp only [rK, rM, rT, rX, rH, rD, rC, rData, if_pos e0, e1, e2, e3, e4, e5, e6, e7, e8, e0] at this
  exact this
theorem r_back {bs : List Int} (hb : ByteL bs) (h : pErr bs = 0) : picErr (rK bs) (rM bs) (rT bs) (rX bs) (rH bs) (rD bs) (rC bs) = 0 ∧ picBytes (rK bs) (rM bs) (rT bs) (rX bs) (rH bs) (rD bs) (rC bs) (rData bs) = bs := by
  simp only [rK, rM, rT, rX, rH, rD, rC, rData, if_pos h]
  exact pic_write_read hb h
set_option maxHeartbeats 4000000 in
set_option maxRecDepth 100000 in
theorem back6 (v : ByteArray) (AL : Option Addr) (cL : Nat) (L : List ByteArray) (k x h d c : Int) (mime text : ByteArray) (AD : Option Addr) (cD : Nat) (data : List Int) (A2 : Option Addr) (c2 : Nat) (bs : List Int) (w : World)
    (hrl : Kd.string.C w AL L.length L) (hcl : L.length ≤ cL) (hr : (Kd.int .u8).C w AD data.length data) (hc : data.length ≤ cD) (hbd : ByteL data) (hr2 : (Kd.int .u8).C w A2 bs.length bs) (hc2 : bs.length ≤ c2) (hby : ByteL bs) (hG : Glob w) :
    Calls Tryd.prog 6 #[.agg #[.string v, .slice AL L.length cL], .agg #[.int .i64 k, .string mime, .string text, .int .i64 x, .int .i64 h, .int .i64 d, .int .i64 c, .slice AD data.length cD], .slice A2 bs.length c2] w fun e w' => e = .returned (.bool true) ∧ Below w.heap.size w w' := by
  have hb0 : Below w.heap.size w ((w.alloc (.cells #[.string v, .slice AL L.length cL] 24)).alloc (.cells #[.int .i64 k, .string mime, .string text, .int .i64 x, .int .i64 h, .int .i64 d, .int .i64 c, .slice AD data.length cD] 45)) := below_alloc (below_alloc (Below.refl _ _) _) _
  have HRL := Lib.hid (Kd.C_below hrl hb0)
  have HR := Lib.hid (Kd.C_below hr hb0)
  have HR2 := Lib.hid (Kd.C_below hr2 hb0)
  have HCL := Lib.hid hcl
  have HC := Lib.hid hc
  have HC2 := Lib.hid hc2
  have HBY := Lib.hid hby
  have HBD := Lib.hid hbd
  have HG := Lib.hid (hG.below hb0)
  have HB0 := Lib.hid hb0
  have hk0 := blk_alloc (blk_new w (.cells #[.string v, .slice AL L.length cL] 24)) (.cells #[.int .i64 k, .string mime, .string text, .int .i64 x, .int .i64 h, .int .i64 d, .int .i64 c, .slice AD data.length cD] 45)
  have hp0 := blk_new (w.alloc (.cells #[.string v, .slice AL L.length cL] 24)) (.cells #[.int .i64 k, .string mime, .string text, .int .i64 x, .int .i64 h, .int .i64 d, .int .i64 c, .slice AD data.length cD] 45)
  rw [show (w.alloc (.cells #[.string v, .slice AL L.length cL] 24)).heap.size = w.heap.size + 1 from by simp] at hp0
  have hfew := few9 v AL cL L _ HRL.out HCL.out
  have hl1 := C_len hr
  have hl2 := C_len hr2
  clear hrl hr hr2 hcl hc hc2 hG hb0 hby hbd
  go_enter Tryd.func6, Tryd.ntmps6
  go_wp2_with (fail)
  generalize (w.alloc (.cells #[.string v, .slice AL L.length cL] 24)).alloc (.cells #[.int .i64 k, .string mime, .string text, .int .i64 x, .int .i64 h, .int .i64 d, .int .i64 c, .slice AD data.length cD] 45) = w0 at *
  have HAW : ∀ W, Hid (Below w0.heap.size w0 W) → Calls Tryd.prog 10 #[] W fun e w' => e = .returned (.bool true) ∧ Below W.heap.size W w' := fun W h => awake10 W (HG.out.below h.out)
  replace HAW := Lib.hid HAW
  cases hf : fewB v L with
  | false =>
    rw [hf] at hfew
    have hq0 := blk_cell hk0 0
    have hq1 := blk_cell hk0 1
    simp only [List.getElem?_toArray, List.getElem?_cons_zero, List.getElem?_cons_succ] at hq0 hq1
    go_wp2_with (fail)
    refine hfew.mono ?_
    rintro e w1 ⟨rfl, hb1⟩
    have HB1 := Lib.hid hb1
    clear hfew hb1
    go_wp2_with (fail)
    refine (HAW.out _ HB1).mono ?_
    rintro e w9 ⟨rfl, hb9⟩
    have HB9 := Lib.hid (fin3 HB0.out HB1.out hb9)
    clear hb9
    go_wp2_with (fail)
    go_ret
    exact ⟨rfl, HB9.out⟩
  | true =>
    rw [hf] at hfew
    have hq0 := blk_cell hk0 0
    have hq1 := blk_cell hk0 1
    simp only [List.getElem?_toArray, List.getElem?_cons_zero, List.getElem?_cons_succ] at hq0 hq1
    go_wp2_with (fail)
    refine hfew.mono ?_
    rintro e w1 ⟨rfl, hb1⟩
    have HB1 := Lib.hid hb1
    have hk1 := blk_below hk0 hb1
    have hp1 := blk_below hp0 hb1
    clear hfew hb1 hq0 hq1 hk0 hp0
    have hc0 := blk_cell hp1 0
    have hc1 := blk_cell hp1 1
    have hc2 := blk_cell hp1 2
    have hc3 := blk_cell hp1 3
    have hc4 := blk_cell hp1 4
    have hc5 := blk_cell hp1 5
    have hc6 := blk_cell hp1 6
    have hc7 := blk_cell hp1 7
    simp only [List.getElem?_toArray, List.getElem?_cons_zero, List.getElem?_cons_succ] at hc0 hc1 hc2 hc3 hc4 hc5 hc6 hc7
    by_cases g1 : (mime.size : Int) > 200
    · go_wp2_with (fail)
      refine (HAW.out _ HB1).mono ?_
      rintro e w9 ⟨rfl, hb9⟩
      have HB9 := Lib.hid (fin3 HB0.out HB1.out hb9)
      clear hb9
      go_wp2_with (fail)
      go_ret
      exact ⟨rfl, HB9.out⟩
    · by_cases g2 : (text.size : Int) > 200
      · go_wp2_with (fail)
        refine (HAW.out _ HB1).mono ?_
        rintro e w9 ⟨rfl, hb9⟩
        have HB9 := Lib.hid (fin3 HB0.out HB1.out hb9)
        clear hb9
        go_wp2_with (fail)
        go_ret
        exact ⟨rfl, HB9.out⟩
      · by_cases g3 : (data.length : Int) > 200
        · go_wp2_with (fail)
          refine (HAW.out _ HB1).mono ?_
          rintro e w9 ⟨rfl, hb9⟩
          have HB9 := Lib.hid (fin3 HB0.out HB1.out hb9)
          clear hb9
          go_wp2_with (fail)
          go_ret
          exact ⟨rfl, HB9.out⟩
        · by_cases g4 : (bs.length : Int) > 500
          · go_wp2_with (fail)
            refine (HAW.out _ HB1).mono ?_
            rintro e w9 ⟨rfl, hb9⟩
            have HB9 := Lib.hid (fin3 HB0.out HB1.out hb9)
            clear hb9
            go_wp2_with (fail)
            go_ret
            exact ⟨rfl, HB9.out⟩
          · have hsz := cb_len v L hf
            have HSZ := Lib.hid hsz
            have HFL := Lib.hid (few_len v L hf)
            clear hsz hf
            have hq0 := blk_cell hk1 0
            have hq1 := blk_cell hk1 1
            simp only [List.getElem?_toArray, List.getElem?_cons_zero, List.getElem?_cons_succ] at hq0 hq1
            go_wp2_with (fail)
            refine (write11g v AL cL L w1 (Kd.C_below HRL.out HB1.out) HSZ.out (HG.out.below HB1.out)).mono ?_
            rintro e w2 ⟨u, rfl, hu, hb2⟩
            have HB2 := Lib.hid (HB1.out.trans (hb2.mono HB1.out.size))
            have HK2 := Lib.hid (blk_below hk1 hb2)
            have HP2 := Lib.hid (blk_below hp1 hb2)
            have HU := Lib.hid hu
            clear hb2 hu hc0 hc1 hc2 hc3 hc4 hc5 hc6 hc7 hq0 hq1 hk1 hp1 HB1
            obtain ⟨e1, he1⟩ : ∃ e1 : Int, (if writeOk v L = true then (0 : Int) else 12) = e1 := ⟨_, rfl⟩
            have HOK : Hid (e1 = 0 → writeOk v L = true) := Lib.hid (by
              intro h
              by_cases hw : writeOk v L = true
              · exact hw
              · rw [if_neg hw] at he1; omega)
            rw [he1]
            clear he1
            go_upto_if 56 with (fail)
            go_cut [9, 10] (fun s9 s10 wx => Hid (Below w0.heap.size w0 wx) ∧ Hid (wx.heap[w.heap.size + 1]? = some (.cells #[.int .i64 k, .string mime, .string text, .int .i64 x, .int .i64 h, .int .i64 d, .int .i64 c, .slice AD data.length cD] 45 (0, 0))))
            case first =>
              by_cases h1 : e1 = 0
              case neg =>
                have he1 : (e1 == 0) = false := by simpa using h1
                go_wp2_with (fail)
                go_meet
                case rel => exact ⟨HB2, HP2⟩
              case pos =>
                have hw := HOK.out h1
                have hu := HU.out
                rw [if_pos hw] at hu
                obtain ⟨A3, c3, rfl, hl3, hC3⟩ := RB.of_BYT hu
                have HRW := Lib.hid (read_write hw (by have := HFL.out.1; omega) (by have := HFL.out.2.1; omega) (fun s hs => by have := HFL.out.2.2 s hs; omega))
                have HRD := Lib.hid (read19 A3 c3 (commentsBytes v L) w2 hC3 hl3 (cb_byte v L) HSZ.out (HG.out.below HB2.out))
                subst h1
                clear hw hu hl3 hC3 HU HOK
                go_wp2_with (fail)
                refine HRD.out.mono ?_
                rintro e w3 hrd
                obtain ⟨A5, c5, rfl, hl5, hC5, hb5⟩ := hrd.at_ HRW.out
                have hm5 : Below w3.heap.size w3 (w3.alloc (.cells #[.string v, .slice A5 L.length c5] 24)) := below_alloc (Below.refl _ _) _
                have HB5 := Lib.hid (HB2.out.trans ((hb5.trans (hm5.mono hb5.size)).mono HB2.out.size))
                have hk5 := blk_new w3 (.cells #[.string v, .slice A5 L.length c5] 24)
                have HK5 := Lib.hid (blk_below HK2.out (hb5.trans (hm5.mono hb5.size)))
                have HP5 := Lib.hid (blk_below HP2.out (hb5.trans (hm5.mono hb5.size)))
                have HD5 := Lib.hid (Kd.C_below hC5 hm5)
                have HLD := Lib.hid hl5
                clear hb5 hm5 hC5 hl5 hrd HRD HRW
                have hq0 := blk_cell hk5 0
                have hq1 := blk_cell hk5 1
                simp only [List.getElem?_toArray, List.getElem?_cons_zero, List.getElem?_cons_succ] at hq0 hq1
                have hr0 := blk_cell HK5.out 0
                have hr1 := blk_cell HK5.out 1
                simp only [List.getElem?_toArray, List.getElem?_cons_zero, List.getElem?_cons_succ] at hr0 hr1
                clear hk5
                go_wp2_with (fail)
                generalize w3.alloc (.cells #[.string v, .slice A5 L.length c5] 24) = w6 at *
                refine (texts15 A5 c5 L AL cL L w6 HD5.out HLD.out (Kd.C_below HRL.out HB5.out) HCL.out).mono ?_
                rintro e w8 ⟨rfl, ⟨n8, rfl⟩⟩
                rw [decide_eq_true rfl]
                have HB8 := Lib.hid (pw_below_drewN HB5.out n8)
                have HP8 := Lib.hid (blk_drewN HP5.out n8)
                clear hq0 hq1 hr0 hr1
                go_wp2_with (fail)
                go_meet
                case rel => exact ⟨HB8, HP8⟩
            case rest =>
              clear HB2 HK2 HP2 HU HOK
              obtain ⟨HB2, HP2⟩ := hcut
              generalize wc = w2 at *
              have hc0 := blk_cell HP2.out 0
              have hc1 := blk_cell HP2.out 1
              have hc2 := blk_cell HP2.out 2
              have hc3 := blk_cell HP2.out 3
              have hc4 := blk_cell HP2.out 4
              have hc5 := blk_cell HP2.out 5
              have hc6 := blk_cell HP2.out 6
              have hc7 := blk_cell HP2.out 7
              simp only [List.getElem?_toArray, List.getElem?_cons_zero, List.getElem?_cons_succ] at hc0 hc1 hc2 hc3 hc4 hc5 hc6 hc7
              go_wp2_with (fail)
              refine (write21g k x h d c mime text AD cD data w2 (Kd.C_below HR.out HB2.out) HC.out (HG.out.below HB2.out) (by omega)).mono ?_
              rintro e w3 ⟨u, rfl, hu, hb3⟩
              have HB3 := Lib.hid (HB2.out.trans (hb3.mono HB2.out.size))
              have HP3 := Lib.hid (blk_below HP2.out hb3)
              have HU := Lib.hid hu
              clear hb3 hu hc0 hc1 hc2 hc3 hc4 hc5 hc6 hc7 HB2 HP2
              obtain ⟨e1, he1⟩ : ∃ e1 : Int, picErr k mime text x h d c = e1 := ⟨_, rfl⟩
              have HOK : Hid (picErr k mime text x h d c = e1) := Lib.hid he1
              rw [he1] at HU ⊢
              clear he1
              go_upto_if 85 with (fail)
              go_cut [13, 14] (fun s9 s10 wx => Hid (Below w0.heap.size w0 wx))
              case first =>
                by_cases h1 : e1 = 0
                case neg =>
                  have he1 : (e1 == 0) = false := by simpa using h1
                  go_wp2_with (fail)
                  go_meet
                  case rel => exact HB3
                case pos =>
                  have hu := HU.out
                  rw [if_pos h1] at hu
                  obtain ⟨A3, c3, rfl, hl3, hC3⟩ := RB.of_BYT hu
                  have HRW := Lib.hid (pic_read_write (HOK.out.trans h1) (show mime.size ≤ 4294967295 by omega) (show text.size ≤ 4294967295 by omega) (show data.length ≤ 4294967295 by omega) HBD.out)
                  have HRD := Lib.hid (read23 A3 c3 (picBytes k mime text x h d c data) w3 hC3 hl3 (pb_byte k x h d c mime text data HBD.out) (by rw [pb_len]; omega) (HG.out.below HB3.out))
                  subst h1
                  clear hu hl3 hC3 HU HOK
                  go_wp2_with (fail)
                  refine HRD.out.mono ?_
                  rintro e w4 hrd
                  obtain ⟨A5, c5, rfl, hl5, hC5, hb5⟩ := hrd.at_ HRW.out
                  have hm5 : Below w4.heap.size w4 (w4.alloc (.cells #[.int .i64 k, .string mime, .string text, .int .i64 x, .int .i64 h, .int .i64 d, .int .i64 c, .slice A5 data.length c5] 45)) := below_alloc (Below.refl _ _) _
                  have HB5 := Lib.hid (HB3.out.trans ((hb5.trans (hm5.mono hb5.size)).mono HB3.out.size))
                  have hk5 := blk_new w4 (.cells #[.int .i64 k, .string mime, .string text, .int .i64 x, .int .i64 h, .int .i64 d, .int .i64 c, .slice A5 data.length c5] 45)
                  have HP5 := Lib.hid (blk_below HP3.out (hb5.trans (hm5.mono hb5.size)))
                  have HD5 := Lib.hid (Kd.C_below hC5 hm5)
                  have HLD := Lib.hid hl5
                  clear hb5 hm5 hC5 hl5 hrd HRD HRW
                  have hq0 := blk_cell hk5 0
                  have hq1 := blk_cell hk5 1
                  have hq2 := blk_cell hk5 2
                  have hq3 := blk_cell hk5 3
                  have hq4 := blk_cell hk5 4
                  have hq5 := blk_cell hk5 5
                  have hq6 := blk_cell hk5 6
                  have hq7 := blk_cell hk5 7
                  simp only [List.getElem?_toArray, List.getElem?_cons_zero, List.getElem?_cons_succ] at hq0 hq1 hq2 hq3 hq4 hq5 hq6 hq7
                  have hr0 := blk_cell HP5.out 0
                  have hr1 := blk_cell HP5.out 1
                  have hr2 := blk_cell HP5.out 2
                  have hr3 := blk_cell HP5.out 3
                  have hr4 := blk_cell HP5.out 4
                  have hr5 := blk_cell HP5.out 5
                  have hr6 := blk_cell HP5.out 6
                  have hr7 := blk_cell HP5.out 7
                  simp only [List.getElem?_toArray, List.getElem?_cons_zero, List.getElem?_cons_succ] at hr0 hr1 hr2 hr3 hr4 hr5 hr6 hr7
                  clear hk5
                  go_wp2_with (fail)
                  generalize w4.alloc (.cells #[.int .i64 k, .string mime, .string text, .int .i64 x, .int .i64 h, .int .i64 d, .int .i64 c, .slice A5 data.length c5] 45) = w6 at *
                  refine (picture25 k x h d c mime text A5 c5 AD cD data w6 HD5.out HLD.out (Kd.C_below HR.out HB5.out) HC.out).mono ?_
                  rintro e w8 ⟨rfl, hb8⟩
                  have HB8 := Lib.hid (HB5.out.trans (hb8.mono HB5.out.size))
                  clear hq0 hq1 hq2 hq3 hq4 hq5 hq6 hq7 hr0 hr1 hr2 hr3 hr4 hr5 hr6 hr7 hb8
                  go_wp2_with (fail)
                  go_meet
                  case rel => exact HB8
              case rest =>
                clear HP3 HU HOK
                replace HB3 := hcut
                clear hcut
                generalize wc = w3 at *
                have HRD := Lib.hid (read19 A2 c2 bs w3 (Kd.C_below HR2.out HB3.out) HC2.out HBY.out (by omega) (HG.out.below HB3.out))
                have HWR := Lib.hid (write_read HBY.out)
                go_wp2_with (fail)
                refine HRD.out.mono ?_
                rintro e w4 hrd
                obtain ⟨u, rfl, ⟨A5, c5, rfl, hl5, hC5⟩, hb5⟩ := hrd
                clear HRD
                generalize (readB bs).1 = rv at *
                generalize (readB bs).2.1 = rl at *
                generalize (readB bs).2.2 = e1 at *
                have hm5 : Below w4.heap.size w4 (w4.alloc (.cells #[.string rv, .slice A5 rl.length c5] 24)) := below_alloc (Below.refl _ _) _
                have HB5 := Lib.hid (HB3.out.trans ((hb5.trans (hm5.mono hb5.size)).mono HB3.out.size))
                have HK5 := Lib.hid (blk_new w4 (.cells #[.string rv, .slice A5 rl.length c5] 24))
                have HD5 := Lib.hid (Kd.C_below hC5 hm5)
                have HLD := Lib.hid hl5
                clear hb5 hm5 hC5 hl5 HB3
                go_upto_if 105 with (fail)
                generalize hg4 : w4.heap.size = g4 at *
                generalize w4.alloc (.cells #[.string rv, .slice A5 rl.length c5] 24) = w5 at *
                go_cut [17, 18] (fun s9 s10 wx => Hid (Below w0.heap.size w0 wx))
                case first =>
                  by_cases h1 : e1 = 0
                  case neg =>
                    have he1 : (e1 == 0) = false := by simpa using h1
                    clear hg4
                    go_wp2_with (fail)
                    go_meet
                    case rel => exact HB5
                  case pos =>
                    have HW := Lib.hid (HWR.out h1)
                    subst h1
                    clear HWR hg4
                    have hq0 := blk_cell HK5.out 0
                    have hq1 := blk_cell HK5.out 1
                    simp only [List.getElem?_toArray, List.getElem?_cons_zero, List.getElem?_cons_succ] at hq0 hq1
                    go_wp2_with (fail)
                    have hwr := write11g rv A5 c5 rl w5 HD5.out (by rw [HW.out.2]; omega) (HG.out.below HB5.out)
                    rw [if_pos HW.out.1, if_pos HW.out.1, HW.out.2] at hwr
                    refine hwr.mono ?_
                    rintro e w6 ⟨u, rfl, hu, hb6⟩
                    obtain ⟨A6, c6, rfl, hl6, hC6⟩ := RB.of_BYT hu
                    have HB6 := Lib.hid (HB5.out.trans (hb6.mono HB5.out.size))
                    have HX6 := Lib.hid hC6
                    have HLX := Lib.hid hl6
                    clear hu hb6 hl6 hC6 hwr hq0 hq1 HK5 HD5
                    go_wp2_with (fail)
                    refine (bytes18 A6 c6 bs A2 c2 bs w6 HX6.out HLX.out (Kd.C_below HR2.out HB6.out) HC2.out).mono ?_
                    rintro e w8 ⟨rfl, ⟨n8, rfl⟩⟩
                    rw [decide_eq_true rfl]
                    have HB8 := Lib.hid (pw_below_drewN HB6.out n8)
                    go_wp2_with (fail)
                    go_meet
                    case rel => exact HB8
                case rest =>
                  clear HB5 HK5 HD5 HLD HWR hg4
                  replace HB3 := hcut
                  clear hcut
                  generalize wc = w3 at *
                  have HRD := Lib.hid (read23 A2 c2 bs w3 (Kd.C_below HR2.out HB3.out) HC2.out HBY.out (by omega) (HG.out.below HB3.out))
                  have HWR := Lib.hid (r_back HBY.out)
                  go_wp2_with (fail)
                  refine HRD.out.mono ?_
                  rintro e w4 hrd
                  obtain ⟨A5, c5, rfl, hl5, hC5, hb5⟩ := hrd.all
                  clear HRD hrd
                  generalize rK bs = rk at *
                  generalize rM bs = rm at *
                  generalize rT bs = rt at *
                  generalize rX bs = rx at *
                  generalize rH bs = rh at *
                  generalize rD bs = rd0 at *
                  generalize rC bs = rc at *
                  generalize rData bs = rdata at *
                  generalize pErr bs = e1 at *
                  have hm5 : Below w4.heap.size w4 (w4.alloc (.cells #[.int .i64 rk, .string rm, .string rt, .int .i64 rx, .int .i64 rh, .int .i64 rd0, .int .i64 rc, .slice A5 rdata.length c5] 45)) := below_alloc (Below.refl _ _) _
                  have HB5 := Lib.hid (HB3.out.trans ((hb5.trans (hm5.mono hb5.size)).mono HB3.out.size))
                  have HK5 := Lib.hid (blk_new w4 (.cells #[.int .i64 rk, .string rm, .string rt, .int .i64 rx, .int .i64 rh, .int .i64 rd0, .int .i64 rc, .slice A5 rdata.length c5] 45))
                  have HD5 := Lib.hid (Kd.C_below hC5 hm5)
                  have HLD := Lib.hid hl5
                  clear hb5 hm5 hC5 hl5 HB3
                  go_upto_if 125 with (fail)
                  generalize hg4 : w4.heap.size = g4 at *
                  generalize w4.alloc (.cells #[.int .i64 rk, .string rm, .string rt, .int .i64 rx, .int .i64 rh, .int .i64 rd0, .int .i64 rc, .slice A5 rdata.length c5] 45) = w5 at *
                  go_cut [21, 22] (fun s9 s10 wx => Hid (Below w0.heap.size w0 wx))
                  case first =>
                    by_cases h1 : e1 = 0
                    case neg =>
                      have he1 : (e1 == 0) = false := by simpa using h1
                      clear hg4
                      go_wp2_with (fail)
                      go_meet
                      case rel => exact HB5
                    case pos =>
                      have HW := Lib.hid (HWR.out h1)
                      subst h1
                      clear HWR hg4
                      have hq0 := blk_cell HK5.out 0
                      have hq1 := blk_cell HK5.out 1
                      have hq2 := blk_cell HK5.out 2
                      have hq3 := blk_cell HK5.out 3
                      have hq4 := blk_cell HK5.out 4
                      have hq5 := blk_cell HK5.out 5
                      have hq6 := blk_cell HK5.out 6
                      have hq7 := blk_cell HK5.out 7
                      simp only [List.getElem?_toArray, List.getElem?_cons_zero, List.getElem?_cons_succ] at hq0 hq1 hq2 hq3 hq4 hq5 hq6 hq7
                      go_wp2_with (fail)
                      have hlen := pb_len rk rx rh rd0 rc rm rt rdata
                      rw [HW.out.2] at hlen
                      have hwr := write21g rk rx rh rd0 rc rm rt A5 c5 rdata w5 HD5.out HLD.out (HG.out.below HB5.out) (by omega)
                      rw [HW.out.1, if_pos rfl, HW.out.2] at hwr
                      refine hwr.mono ?_
                      rintro e w6 ⟨u, rfl, hu, hb6⟩
                      obtain ⟨A6, c6, rfl, hl6, hC6⟩ := RB.of_BYT hu
                      have HB6 := Lib.hid (HB5.out.trans (hb6.mono HB5.out.size))
                      have HX6 := Lib.hid hC6
                      have HLX := Lib.hid hl6
                      clear hu hb6 hl6 hC6 hwr hq0 hq1 hq2 hq3 hq4 hq5 hq6 hq7 HK5 HD5 hlen
                      go_wp2_with (fail)
                      refine (bytes18 A6 c6 bs A2 c2 bs w6 HX6.out HLX.out (Kd.C_below HR2.out HB6.out) HC2.out).mono ?_
                      rintro e w8 ⟨rfl, ⟨n8, rfl⟩⟩
                      rw [decide_eq_true rfl]
                      have HB8 := Lib.hid (pw_below_drewN HB6.out n8)
                      go_wp2_with (fail)
                      go_meet
                      case rel => exact HB8
                  case rest =>
                    clear HB5 HK5 HD5 HLD HWR hg4
                    replace HB3 := hcut
                    clear hcut
                    go_wp2_with (fail)
                    refine (HAW.out _ HB3).mono ?_
                    rintro e w9 ⟨rfl, hb9⟩
                    have HB9 := Lib.hid (fin3 HB0.out HB3.out hb9)
                    clear hb9
                    go_wp2_with (fail)
                    go_ret
                    exact ⟨rfl, HB9.out⟩

end Go.Proofs.YtbjdipbhclihfaaDoor
