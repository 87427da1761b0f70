import Derived.Test.YtbjdipbhclihfaaDoorE7
set_option linter.unusedVariables false
set_option linter.unusedSimpArgs false
namespace Go.Proofs.YtbjdipbhclihfaaDoor
open Go.RowKit Go.Proofs Go.Proofs.YtbjdipbhclihfaaDoorW.PrintWords Plain
/-- What the reference's Picture hands back. -/
def RefPic (w w' : World) (k x h d c : Int) (mime text : ByteArray) (data : List Int) (e : Ending) : Prop :=
  ∃ u, e = .returned (.tuple #[u, .int .i64 (picErr k mime text x h d c)]) ∧ BYT w' w.heap.size u (if picErr k mime text x h d c = 0 then picBytes k mime text x h d c data else []) ∧ Below w.heap.size w w'
theorem RefPic.bad {w w' : World} {k x h d c : Int} {mime text : ByteArray} {data : List Int} {y : Int} (he : picErr k mime text x h d c = y) (hy : y ≠ 0) (hb : Below w.heap.size w w') : RefPic w w' k x h d c mime text data (.returned (.tuple #[.slice none 0 0, .int .i64 y])) := by
  unfold RefPic
  rw [he, if_neg hy]
  exact ⟨_, rfl, Kd.R_nil _ _ _ _ _, hb⟩
theorem own_len {W : World} {base n m size : Nat} {e : TypeId} {v : Value} {xs : List Value} (h : W.ownsRow base e size v n xs) (hn : n = m) : W.ownsRow base e size v m xs := hn ▸ h
/-- Number i of five. -/
def five (k x h d c : Int) : List Int := [k, x, h, d, c]
def goodN (i : Nat) (q : Int) : Prop := 0 ≤ q ∧ q ≤ 4294967295 ∧ (i = 0 → q ≤ 20)
theorem range_good {k x h d c : Int} (hg : ∀ (i : Nat) (q : Int), (five k x h d c)[i]? = some q → goodN i q) : picRange k x h d c = true := by
  have g0 := hg 0 k rfl
  have g1 := hg 1 x rfl
  have g2 := hg 2 h rfl
  have g3 := hg 3 d rfl
  have g4 := hg 4 c rfl
  unfold goodN at g0 g1 g2 g3 g4
  simp [picRange, outside]
  omega
theorem range_bad {k x h d c : Int} {i : Nat} {q : Int} (hq : (five k x h d c)[i]? = some q) (hg : ¬ goodN i q) : picRange k x h d c = false := by
  cases hr : picRange k x h d c with
  | false => rfl
  | true =>
    exfalso
    have hh := range_nat hr
    apply hg
    have hi : i < 5 := (List.getElem?_eq_some_iff.1 hq).1
    unfold goodN
    match i, hi, hq with
    | 0, _, hq | 1, _, hq | 2, _, hq | 3, _, hq | 4, _, hq =>
      simp [five] at hq
      subst hq
      simp
      omega
set_option maxHeartbeats 1000000 in
set_option maxRecDepth 100000 in
theorem ref22 (k x h d c : Int) (mime text : ByteArray) (AD : Option Addr) (cD : Nat) (data : List Int) (w : World) (hd : (Kd.int .u8).C w AD data.length data) (hcd : data.length ≤ cD)
    (hsz : mime.size + text.size + data.length + 32 ≤ 16777215) :
    Calls Tryd.prog 22 #[.agg #[.int .i64 k, .int .i64 x, .int .i64 h, .int .i64 d, .int .i64 c], .string mime, .string text, .slice AD data.length cD] w fun e w' => RefPic w w' k x h d c mime text data e := by
  have HD := Lib.hid hd
  have HCD := Lib.hid hcd
  have HB0 := Lib.hid (below_alloc (Below.refl w.heap.size w) (.cells #[.int .i64 k, .int .i64 x, .int .i64 h, .int .i64 d, .int .i64 c] 47))
  have HK0 := Lib.hid (blk_new w (.cells #[.int .i64 k, .int .i64 x, .int .i64 h, .int .i64 d, .int .i64 c] 47))
  have hte := fun W => text41 text W (by omega)
  clear hd hcd
  go_enter Tryd.func22, Tryd.ntmps22
  go_wp2_with (fail)
  generalize w.alloc (.cells #[.int .i64 k, .int .i64 x, .int .i64 h, .int .i64 d, .int .i64 c] 47) = w1 at *
  go_loopg [10] mime.size (fun gg s10 wr => ∃ kk : Nat, kk ≤ mime.size ∧ mime.size - kk ≤ gg ∧ s10 = .int .i64 kk ∧ Hid (∀ b ∈ mime.data.toList.take kk, outside 32 126 b.toNat = false) ∧ w1 = wr)
  case atStart => exact ⟨0, Nat.zero_le _, by omega, rfl, Lib.hid (by simp), rfl⟩
  case round =>
    obtain ⟨kk, hkk, hg, rfl, HT, rfl⟩ := hrel
    by_cases hlt : kk < mime.size
    · have hltz : (kk : Int) < (mime.size : Int) := by omega
      have hll : kk < mime.data.toList.length := by rw [data_length]; exact hlt
      by_cases hbig : outside 32 126 (mime[kk].toNat : Int) = true
      · have HE := Lib.hid (show picErr k mime text x h d c = 12 by
          have ha : (bytesOf mime).any (outside 32 126) = true := by
            rw [List.any_eq_true]
            exact ⟨(mime[kk].toNat : Int), by unfold bytesOf; rw [List.mem_map]; exact ⟨mime.data.toList[kk], List.getElem_mem hll, rfl⟩, hbig⟩
          simp [picErr, picForm, ha])
        by_cases h1 : (mime[kk].toNat : Int) < 32
        · clear hbig hte
          go_wp2_with (fail)
          go_ret2
          exact RefPic.bad HE.out (by decide) HB0.out
        · have h2 : (mime[kk].toNat : Int) > 126 := by
            unfold outside at hbig
            simp only [Bool.or_eq_true, decide_eq_true_eq] at hbig
            omega
          clear hbig hte
          go_wp2_with (fail)
          go_ret2
          exact RefPic.bad HE.out (by decide) HB0.out
      · have hb2 : outside 32 126 (mime[kk].toNat : Int) = false := by simpa using hbig
        have h1 : ¬ (mime[kk].toNat : Int) < 32 := by unfold outside at hb2; simp only [Bool.or_eq_false_iff, decide_eq_false_iff_not] at hb2; exact hb2.1
        have h2 : ¬ (mime[kk].toNat : Int) > 126 := by unfold outside at hb2; simp only [Bool.or_eq_false_iff, decide_eq_false_iff_not] at hb2; exact hb2.2
        have HT2 : Hid (∀ b ∈ mime.data.toList.take (kk + 1), outside 32 126 b.toNat = false) := by
          rw [List.take_succ_eq_append_getElem hll]
          refine Lib.hid fun b hb => ?_
          rcases List.mem_append.1 hb with h | h
          · exact HT.out b h
          · rw [List.mem_singleton.1 h]
            exact hb2
        clear hbig hb2
        go_wp2_with (fail)
        go_roundg (mime.size - (kk + 1))
        case measure => omega
        case rel => exact ⟨kk + 1, by omega, by omega, by go_num, HT2, rfl⟩
    · have hltz : ¬ (kk : Int) < (mime.size : Int) := by omega
      have hm : (bytesOf mime).any (outside 32 126) = false := by
        have h := HT.out
        rw [List.take_of_length_le (by rw [data_length]; omega)] at h
        rw [List.any_eq_false]
        intro y hy
        unfold bytesOf at hy
        obtain ⟨b, hb, rfl⟩ := List.mem_map.1 hy
        simp [h b hb]
      cases hv : Lib.validD text.data.toList with
      | false =>
        have HE := Lib.hid (show picErr k mime text x h d c = 12 by simp [picErr, picForm, hm, hv])
        rw [hv] at hte
        clear hm hv
        go_wp2_with (fail)
        refine (hte _).mono ?_
        rintro e w2 ⟨rfl, ⟨n2, rfl⟩⟩
        go_wp2_with (fail)
        go_ret2
        exact RefPic.bad HE.out (by decide) (pw_below_drewN HB0.out _)
      | true =>
        have HF := Lib.hid (show picForm mime text = true by simp [picForm, hm, hv])
        rw [hv] at hte
        clear hm hv HT
        go_wp2_with (fail)
        refine (hte _).mono ?_
        rintro e w2 ⟨rfl, ⟨n2, rfl⟩⟩
        have HB2 := Lib.hid (pw_below_drewN HB0.out n2)
        have HK2 := Lib.hid (blk_drewN HK0.out n2)
        generalize w1.drewN n2 = w2 at *
        clear HB0 HK0 hte
        go_wp2_with (fail)
        go_loopg [11] 5 (fun gg s11 wr => ∃ kk : Nat, kk ≤ 5 ∧ 5 - kk ≤ gg ∧ s11 = .int .i64 kk ∧ Hid (∀ (i : Nat) (q : Int), i < kk → (five k x h d c)[i]? = some q → goodN i q) ∧ w2 = wr)
        case atStart => exact ⟨0, by omega, by omega, rfl, Lib.hid (fun i q hi => by omega), rfl⟩
        case round =>
          obtain ⟨kk, hkk, hg, rfl, HT, rfl⟩ := hrel
          by_cases hlt : kk < 5
          · have hltz : (kk : Int) < 5 := by omega
            obtain ⟨q, hq1, hq2⟩ : ∃ q : Int, (five k x h d c)[kk]? = some q ∧ w2.cell? ⟨w.heap.size, kk, none⟩ = some (.int .i64 q) := by
              have hc := blk_cell HK2.out kk
              match kk, hlt with
              | 0, _ => exact ⟨k, rfl, hc⟩
              | 1, _ => exact ⟨x, rfl, hc⟩
              | 2, _ => exact ⟨h, rfl, hc⟩
              | 3, _ => exact ⟨d, rfl, hc⟩
              | 4, _ => exact ⟨c, rfl, hc⟩
            have HQ := Lib.hid hq1
            clear hq1
            by_cases hgd : goodN kk q
            · have HT2 : Hid (∀ (i : Nat) (q : Int), i < kk + 1 → (five k x h d c)[i]? = some q → goodN i q) := by
                refine Lib.hid fun i r hi hr => ?_
                rcases Nat.lt_or_ge i kk with h | h
                · exact HT.out i r h hr
                · obtain rfl : i = kk := by omega
                  rw [HQ.out] at hr
                  cases hr
                  exact hgd
              unfold goodN at hgd
              have h1 : ¬ q < 0 := by omega
              have h2 : ¬ q > 4294967295 := by omega
              by_cases h0 : kk = 0
              · have h3 : ¬ q > 20 := by have := hgd.2.2 h0; omega
                subst h0
                clear hgd
                go_wp2_with (fail)
                go_roundg (5 - (0 + 1))
                case measure => omega
                case rel => exact ⟨0 + 1, by omega, by omega, by go_num, HT2, rfl⟩
              · have h0z : ¬ (kk : Int) = 0 := by omega
                clear hgd
                go_wp2_with (fail)
                go_roundg (5 - (kk + 1))
                case measure => omega
                case rel => exact ⟨kk + 1, by omega, by omega, by go_num, HT2, rfl⟩
            · have HE := Lib.hid (show picErr k mime text x h d c = 10 by simp [picErr, HF.out, range_bad HQ.out hgd])
              unfold goodN at hgd
              by_cases h1 : q < 0
              · clear hgd
                go_wp2_with (fail)
                go_ret2
                exact RefPic.bad HE.out (by decide) HB2.out
              · by_cases h2 : q > 4294967295
                · clear hgd
                  go_wp2_with (fail)
                  go_ret2
                  exact RefPic.bad HE.out (by decide) HB2.out
                · have h0 : kk = 0 := by omega
                  have h3 : q > 20 := by omega
                  subst h0
                  clear hgd
                  go_wp2_with (fail)
                  go_ret2
                  exact RefPic.bad HE.out (by decide) HB2.out
          · have hltz : ¬ (kk : Int) < 5 := by omega
            obtain rfl : kk = 5 := by omega
            have hrg : picRange k x h d c = true := range_good fun i q hq => HT.out i q (List.getElem?_eq_some_iff.1 hq).1 hq
            have HE := Lib.hid (show picErr k mime text x h d c = 0 by simp [picErr, HF.out, hrg])
            obtain ⟨a1, b1, a2, b2, a3, b3, a4, b4, a5, b5⟩ := range_nat hrg
            obtain ⟨k, rfl⟩ := Int.eq_ofNat_of_zero_le a1
            obtain ⟨x, rfl⟩ := Int.eq_ofNat_of_zero_le a2
            obtain ⟨h, rfl⟩ := Int.eq_ofNat_of_zero_le a3
            obtain ⟨d, rfl⟩ := Int.eq_ofNat_of_zero_le a4
            obtain ⟨c, rfl⟩ := Int.eq_ofNat_of_zero_le a5
            have b4len : ∀ n : Int, (big4 n).length = 4 := fun _ => rfl
            have e0 := blk_cell HK2.out 0
            simp only [List.getElem?_toArray, List.getElem?_cons_zero, List.getElem?_cons_succ] at e0
            clear hrg HT
            go_wp2_with (fail)
            go_at_call 54
            refine (big54 k w2 (by omega)).mono ?_
            rintro e w3 ⟨v3, rfl, hu, hb⟩
            have HV3 : Hid (BYT w3 w.heap.size v3 (big4 (k : Int))) := Lib.hid (Kd.R_lower hu HB2.out.size)
            have HB3 := Lib.hid (HB2.out.trans (hb.mono HB2.out.size))
            have HK3 := Lib.hid (blk_below HK2.out hb)
            clear hu hb HB2 HK2 e0
            go_wp2_with (fail)
            go_at_call 54
            refine (big54 mime.size w3 (by omega)).mono ?_
            rintro e w4 ⟨u, rfl, hu, hb⟩
            obtain ⟨A4, c4, rfl, hl, hC⟩ := RB.of_BYT hu
            have HC4 := Lib.hid hC
            have HV4 := Lib.hid (Kd.R_below HV3.out hb)
            have HB4 := Lib.hid (HB3.out.trans (hb.mono HB3.out.size))
            have HK4 := Lib.hid (blk_below HK3.out hb)
            clear hu hC hl hb HV3 HB3 HK3
            go_wp2_with (at_builtin; refine Kd.R_append_row (Value.int .u8) (0 : Int) (h1 := fun _ => rfl) (w0 := w) w.heap.size rfl (.tmp 60) (.tmp 63) 27 5 (.int .u8 0) 1 rfl Tryd.underlying27 infoB rfl (by decide) _ (big4 (k : Int)) (big4 (mime.size : Int)) A4 (big4 (mime.size : Int)).length c4 (fun _ => True) rfl rfl (fun _ _ => trivial) HV4.out HC4.out HB4.out HB4.out.size (by simp only [List.length_append, bytesOf_length, b4len]; omega) ?_)
            intro v5 w5 hR hB hg _
            have n0 := Kd.R_ne HV4.out HK4.out (by decide)
            have HK5 := Lib.hid (blk_grown HK4.out hg n0)
            have HV5 : Hid (BYT w5 w.heap.size v5 (big4 (k : Int) ++ big4 (mime.size : Int))) := Lib.hid hR
            have HB5 := Lib.hid hB
            clear hR hB hg n0 HV4 HB4 HK4 HC4
            go_wp2_with (at_builtin; refine print_append_str (w0 := w) w.heap.size rfl (.tmp 65) (.tmp 66) 27 9 5 rfl Tryd.underlying27 Tryd.underlying9 infoB _ (big4 (k : Int) ++ big4 (mime.size : Int)) mime rfl rfl (Kd.own_of_R HV5.out) HB5.out HB5.out.size (by simp only [List.length_append, bytesOf_length, b4len]; omega) ?_)
            intro v6 w6 hR hB hg
            have n0 := Kd.R_ne HV5.out HK5.out (by decide)
            have HK6 := Lib.hid (blk_grown HK5.out hg n0)
            have HV6 : Hid (BYT w6 w.heap.size v6 (big4 (k : Int) ++ big4 (mime.size : Int) ++ bytesOf mime)) := Lib.hid (by first | exact BYT.app (own_len hR (by simp only [List.length_append, b4len]; try omega)) | exact BYT.app (by simpa [Nat.add_assoc, b4len] using hR))
            have HB6 := Lib.hid hB
            clear hR hB hg n0 HV5 HB5 HK5
            go_wp2_with (fail)
            go_at_call 54
            refine (big54 text.size w6 (by omega)).mono ?_
            rintro e w7 ⟨u, rfl, hu, hb⟩
            obtain ⟨A7, c7, rfl, hl, hC⟩ := RB.of_BYT hu
            have HC7 := Lib.hid hC
            have HV7 := Lib.hid (Kd.R_below HV6.out hb)
            have HB7 := Lib.hid (HB6.out.trans (hb.mono HB6.out.size))
            have HK7 := Lib.hid (blk_below HK6.out hb)
            clear hu hC hl hb HV6 HB6 HK6
            go_wp2_with (at_builtin; refine Kd.R_append_row (Value.int .u8) (0 : Int) (h1 := fun _ => rfl) (w0 := w) w.heap.size rfl (.tmp 68) (.tmp 71) 27 5 (.int .u8 0) 1 rfl Tryd.underlying27 infoB rfl (by decide) _ (big4 (k : Int) ++ big4 (mime.size : Int) ++ bytesOf mime) (big4 (text.size : Int)) A7 (big4 (text.size : Int)).length c7 (fun _ => True) rfl rfl (fun _ _ => trivial) HV7.out HC7.out HB7.out HB7.out.size (by simp only [List.length_append, bytesOf_length, b4len]; omega) ?_)
            intro v8 w8 hR hB hg _
            have n0 := Kd.R_ne HV7.out HK7.out (by decide)
            have HK8 := Lib.hid (blk_grown HK7.out hg n0)
            have HV8 : Hid (BYT w8 w.heap.size v8 (big4 (k : Int) ++ big4 (mime.size : Int) ++ bytesOf mime ++ big4 (text.size : Int))) := Lib.hid hR
            have HB8 := Lib.hid hB
            clear hR hB hg n0 HV7 HB7 HK7 HC7
            go_wp2_with (at_builtin; refine print_append_str (w0 := w) w.heap.size rfl (.tmp 73) (.tmp 74) 27 9 5 rfl Tryd.underlying27 Tryd.underlying9 infoB _ (big4 (k : Int) ++ big4 (mime.size : Int) ++ bytesOf mime ++ big4 (text.size : Int)) text rfl rfl (Kd.own_of_R HV8.out) HB8.out HB8.out.size (by simp only [List.length_append, bytesOf_length, b4len]; omega) ?_)
            intro v9 w9 hR hB hg
            have n0 := Kd.R_ne HV8.out HK8.out (by decide)
            have HK9 := Lib.hid (blk_grown HK8.out hg n0)
            have HV9 : Hid (BYT w9 w.heap.size v9 (big4 (k : Int) ++ big4 (mime.size : Int) ++ bytesOf mime ++ big4 (text.size : Int) ++ bytesOf text)) := Lib.hid (by first | exact BYT.app (own_len hR (by simp only [List.length_append, b4len]; try omega)) | exact BYT.app (by simpa [Nat.add_assoc, b4len] using hR))
            have HB9 := Lib.hid hB
            clear hR hB hg n0 HV8 HB8 HK8
            have HPx : Hid (BYT w9 w.heap.size v9 (picPre k mime text x h d c data.length 0)) := Lib.hid (by
              rw [picPre_zero]
              have := HV9.out
              simpa using this)
            clear HV9
            go_wp2_with (fail)
            go_loopg [12, 13] 4 (fun gg s12 s13 wr => ∃ i : Nat, i ≤ 4 ∧ 4 - i ≤ gg ∧ s13 = .int .i64 ((i : Int) + 1) ∧ Hid (BYT wr w.heap.size s12 (picPre k mime text x h d c data.length i)) ∧ Hid (Below w.heap.size w wr) ∧ Hid (wr.heap[w.heap.size]? = some (.cells #[.int .i64 (k : Int), .int .i64 (x : Int), .int .i64 (h : Int), .int .i64 (d : Int), .int .i64 (c : Int)] 47 (0, 0))))
            case atStart => exact ⟨0, by omega, by omega, rfl, HPx, HB9, HK9⟩
            case round =>
              clear HPx HB9 HK9
              obtain ⟨i, hi4, hgg, rfl, HV10, HB10, HK10⟩ := hrel
              by_cases hlt2 : i < 4
              · have hltz2 : (i : Int) + 1 < 5 := by omega
                have hst := picPre_step k mime text x h d c data.length i (by show i < 5; omega)
                have hle := picPre_len k mime text x h d c data.length i (by omega)
                obtain ⟨q, hq1, hq2, hq3⟩ : ∃ q : Nat, (picNums x h d c data.length)[i]'(by show i < 5; omega) = (q : Int) ∧ q ≤ 1099511627776 ∧ wr.cell? ⟨w.heap.size, i + 1, none⟩ = some (.int .i64 (q : Int)) := by
                  have hc := blk_cell HK10.out (i + 1)
                  match i, hlt2 with
                  | 0, _ => exact ⟨x, rfl, by omega, hc⟩
                  | 1, _ => exact ⟨h, rfl, by omega, hc⟩
                  | 2, _ => exact ⟨d, rfl, by omega, hc⟩
                  | 3, _ => exact ⟨c, rfl, by omega, hc⟩
                rw [hq1] at hst
                have HST := Lib.hid hst
                have HLE := Lib.hid hle
                clear hst hle hq1
                go_wp2_with (fail)
                go_at_call 54
                refine (big54 q wr hq2).mono ?_
                rintro e w11 ⟨u, rfl, hu, hb⟩
                obtain ⟨A11, c11, rfl, hl, hC⟩ := RB.of_BYT hu
                have HC11 := Lib.hid hC
                have HV11 := Lib.hid (Kd.R_below HV10.out hb)
                have HB11 := Lib.hid (HB10.out.trans (hb.mono HB10.out.size))
                have HK11 := Lib.hid (blk_below HK10.out hb)
                clear hu hC hl hb HV10 HB10 HK10
                go_wp2_with (at_builtin; refine Kd.R_append_row (Value.int .u8) (0 : Int) (h1 := fun _ => rfl) (w0 := w) w.heap.size rfl (.tmp 80) (.tmp 84) 27 5 (.int .u8 0) 1 rfl Tryd.underlying27 infoB rfl (by decide) _ (picPre k mime text x h d c data.length i) (big4 (q : Int)) A11 (big4 (q : Int)).length c11 (fun _ => True) rfl rfl (fun _ _ => trivial) HV11.out HC11.out HB11.out HB11.out.size (by rw [HLE.out, b4len]; omega) ?_)
                intro v12 w12 hR hB hg _
                have n0 := Kd.R_ne HV11.out HK11.out (by decide)
                have HK12 := Lib.hid (blk_grown HK11.out hg n0)
                have HV12 : Hid (BYT w12 w.heap.size v12 (picPre k mime text x h d c data.length i ++ big4 (q : Int))) := Lib.hid hR
                have HB12 := Lib.hid hB
                clear hR hB hg n0 HV11 HB11 HK11 HC11
                rw [← HST.out] at HV12
                go_wp2_with (fail)
                go_roundg (4 - (i + 1))
                case measure => omega
                case rel => exact ⟨i + 1, by omega, by omega, by go_num, HV12, HB12, HK12⟩
              · have hltz2 : ¬ (i : Int) + 1 < 5 := by omega
                obtain rfl : i = 4 := by omega
                have hst := picPre_step k mime text x h d c data.length 4 (by show 4 < 5; omega)
                have hle := picPre_len k mime text x h d c data.length 4 (by omega)
                have hle5 := picPre_len k mime text x h d c data.length 5 (by omega)
                have HST : Hid (picPre k mime text x h d c data.length 5 = picPre k mime text x h d c data.length 4 ++ big4 (data.length : Int)) := Lib.hid hst
                have HLE := Lib.hid hle
                have HLE5 := Lib.hid hle5
                clear hst hle hle5
                go_wp2_with (fail)
                go_at_call 54
                refine (big54 data.length wr (by omega)).mono ?_
                rintro e w11 ⟨u, rfl, hu, hb⟩
                obtain ⟨A11, c11, rfl, hl, hC⟩ := RB.of_BYT hu
                have HC11 := Lib.hid hC
                have HV11 := Lib.hid (Kd.R_below HV10.out hb)
                have HB11 := Lib.hid (HB10.out.trans (hb.mono HB10.out.size))
                have HK11 := Lib.hid (blk_below HK10.out hb)
                clear hu hC hl hb HV10 HB10 HK10
                go_wp2_with (at_builtin; refine Kd.R_append_row (Value.int .u8) (0 : Int) (h1 := fun _ => rfl) (w0 := w) w.heap.size rfl (.tmp 86) (.tmp 89) 27 5 (.int .u8 0) 1 rfl Tryd.underlying27 infoB rfl (by decide) _ (picPre k mime text x h d c data.length 4) (big4 (data.length : Int)) A11 (big4 (data.length : Int)).length c11 (fun _ => True) rfl rfl (fun _ _ => trivial) HV11.out HC11.out HB11.out HB11.out.size (by rw [HLE.out, b4len]; omega) ?_)
                intro v12 w12 hR hB hg _
                have n0 := Kd.R_ne HV11.out HK11.out (by decide)
                have HK12 := Lib.hid (blk_grown HK11.out hg n0)
                have HV12 : Hid (BYT w12 w.heap.size v12 (picPre k mime text x h d c data.length 4 ++ big4 (data.length : Int))) := Lib.hid hR
                have HB12 := Lib.hid hB
                clear hR hB hg n0 HV11 HB11 HK11 HC11
                rw [← HST.out] at HV12
                go_wp2_with (at_builtin; refine Kd.R_append_row (Value.int .u8) (0 : Int) (h1 := fun _ => rfl) (w0 := w) w.heap.size rfl (.tmp 91) (.tmp 92) 27 5 (.int .u8 0) 1 rfl Tryd.underlying27 infoB rfl (by decide) _ (picPre k mime text x h d c data.length 5) data AD data.length cD (fun _ => True) rfl rfl (fun _ _ => trivial) HV12.out (Kd.C_below HD.out HB12.out) HB12.out HB12.out.size (by rw [HLE5.out]; omega) ?_)
                intro v13 w13 hR hB _ _
                rw [picPre_full] at hR
                have HR13 := Lib.hid hR
                have HB13 := Lib.hid hB
                clear hR hB
                go_wp2_with (fail)
                go_ret2
                unfold RefPic
                rw [HE.out, if_pos rfl]
                exact ⟨_, rfl, HR13.out, HB13.out⟩
end Go.Proofs.YtbjdipbhclihfaaDoor
