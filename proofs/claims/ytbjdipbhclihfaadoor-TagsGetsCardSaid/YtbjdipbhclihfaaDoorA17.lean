import Derived.Test.YtbjdipbhclihfaaDoorA16
set_option linter.unusedVariables false
namespace Go.Proofs.YtbjdipbhclihfaaDoor
open Go.RowKit Go.Proofs Go.Proofs.YtbjdipbhclihfaaDoorW.PrintWords Plain
theorem fin3 {w w0 W W' : World} (h0 : Below w.heap.size w w0) (h1 : Below w0.heap.size w0 W) (h2 : Below W.heap.size W W') : Below w.heap.size w W' := h0.trans ((h1.trans (h2.mono h1.size)).mono h0.size)
theorem fm_step {α β : Type} (f : α → Option β) (L : List α) (kk : Nat) (h : kk < L.length) : (L.take (kk + 1)).filterMap f = (L.take kk).filterMap f ++ (f L[kk]).toList := by
  rw [List.take_succ_eq_append_getElem h, List.filterMap_append]
  cases hg : f L[kk] <;> simp [hg]
theorem low4_len (n : Int) : (low4 n).length = 4 := rfl
theorem few_len (v : ByteArray) (L : List ByteArray) (h : fewB v L = true) : v.size ≤ 200 ∧ L.length ≤ 20 ∧ ∀ s ∈ L, s.size ≤ 200 := by
  unfold fewB at h
  simp only [Bool.and_eq_true, List.all_eq_true, decide_eq_true_eq] at h
  exact ⟨h.2, h.1.2, h.1.1⟩
theorem cb_len (v : ByteArray) (L : List ByteArray) (h : fewB v L = true) : (commentsBytes v L).length ≤ 16777215 := by
  obtain ⟨h1, h2, h3⟩ := few_len v L h
  unfold commentsBytes
  simp only [List.length_append, bytesOf_length, low4_len, List.length_flatten]
  have : ∀ L : List ByteArray, (∀ s ∈ L, s.size ≤ 200) → (L.map fun s => low4 s.size ++ bytesOf s).flatten.length ≤ 204 * L.length := by
    intro L
    induction L with
    | nil => intro _; simp
    | cons s L ih =>
      intro hs
      have a := ih (fun x hx => hs x (by simp [hx]))
      have b := hs s (by simp)
      simp only [List.map_cons, List.flatten_cons, List.length_append, bytesOf_length, low4_len, List.length_cons]
      omega
  have := this L h3
  rw [List.length_flatten] at this
  omega
theorem write11 (v : ByteArray) (A : Option Addr) (c : Nat) (L : List ByteArray) (w : World) (hr : Kd.string.C w A L.length L) (h : fewB v L = true) (hG : Glob w) :
    Calls Tryd.prog 11 #[.agg #[.string v, .slice A L.length c]] w fun e w' => ∃ u, e = .returned (.tuple #[u, .int .i64 (if writeOk v L = true then 0 else 12)]) ∧ Below w.heap.size w w' := by
  obtain ⟨h1, h2, h3⟩ := few_len v L h
  have hf : Fits v := Nat.le_trans h1 (by decide)
  have hF : ∀ s ∈ L, Fits s := fun s hs => Nat.le_trans (h3 s hs) (by decide)
  unfold writeOk
  cases hv : Lib.validD v.data.toList with
  | false => exact (write11_no1 v A c L w hv hf hG).mono fun e w' ⟨he, hb⟩ => ⟨_, he, hb⟩
  | true =>
    cases hL : L.any fun s => !commentB s with
    | true => exact (write11_no2 v A c L w hr hv hL hf hF hG).mono fun e w' ⟨he, hb⟩ => ⟨_, he, hb⟩
    | false => exact (write11_yes v A c L w hr hv hL hf hF hG (cb_len v L h)).mono fun e w' ⟨u, he, _, hb⟩ => ⟨u, he, hb⟩
set_option maxHeartbeats 4000000 in
set_option maxRecDepth 100000 in
theorem gets3 (v nm : ByteArray) (A : Option Addr) (c : Nat) (L : List ByteArray) (A2 : Option Addr) (c2 : Nat) (l : List ByteArray) (w : World) (hr : Kd.string.C w A L.length L) (hc : L.length ≤ c) (hr2 : Kd.string.C w A2 l.length l) (hc2 : l.length ≤ c2) (hG : Glob w) (hnm : nm.size ≤ 9223372036854775807) :
    Calls Tryd.prog 3 #[.agg #[.string v, .slice A L.length c], .string nm, .slice A2 l.length c2] w fun e w' => e = .returned (.bool true) ∧ Below w.heap.size w w' := by
  have HNM := Lib.hid hnm
  have hb0 : Below w.heap.size w (w.alloc (.cells #[.string v, .slice A L.length c] 24)) := below_alloc (Below.refl _ _) _
  have HR := Lib.hid (Kd.C_below hr hb0)
  have HR2 := Lib.hid (Kd.C_below hr2 hb0)
  have HC := Lib.hid hc
  have HC2 := Lib.hid hc2
  have HG := Lib.hid (hG.below hb0)
  have HB0 := Lib.hid hb0
  have hk0 := blk_new w (.cells #[.string v, .slice A L.length c] 24)
  have hfew := few9 v A c L _ HR.out HC.out
  clear hr hr2 hc hc2 hG hb0 hnm
  go_enter Tryd.func3, Tryd.ntmps3
  go_wp2_with (fail)
  generalize w.alloc (.cells #[.string v, .slice A L.length c] 24) = w0 at *
  have HAW : ∀ W, Hid (Below w0.heap.size w0 W) → Calls Tryd.prog 10 #[] W fun e w' => e = .returned (.bool true) ∧ Below W.heap.size W w' := fun W h => awake10 W (HG.out.below h.out)
  replace HAW := Lib.hid HAW
  cases hf : fewB v L with
  | false =>
    rw [hf] at hfew
    refine hfew.mono ?_
    rintro e w1 ⟨rfl, hb1⟩
    have HB1 := Lib.hid hb1
    clear hfew hb1
    go_wp2_with (fail)
    refine (HAW.out w1 HB1).mono ?_
    rintro e w2 ⟨rfl, hb2⟩
    have HB2 := Lib.hid (HB0.out.trans ((HB1.out.trans (hb2.mono HB1.out.size)).mono HB0.out.size))
    clear hb2 HB1
    go_wp2_with (fail)
    go_ret
    exact ⟨rfl, HB2.out⟩
  | true =>
    rw [hf] at hfew
    refine hfew.mono ?_
    rintro e w1 ⟨rfl, hb1⟩
    have HB1 := Lib.hid hb1
    clear hfew hb1
    by_cases hl : l.length > 20
    · have hl' : (l.length : Int) > 20 := by omega
      go_wp2_with (fail)
      refine (HAW.out _ HB1).mono ?_
      rintro e w9 ⟨rfl, hb9⟩
      have HB9 := Lib.hid (fin3 HB0.out HB1.out hb9)
      clear hb9
      go_wp2_with (fail)
      go_ret
      exact ⟨rfl, HB9.out⟩
    · have hl' : ¬ (l.length : Int) > 20 := by omega
      by_cases hn : nm.size > 100
      · have hn' : (nm.size : Int) > 100 := by omega
        go_wp2_with (fail)
        refine (HAW.out _ HB1).mono ?_
        rintro e w9 ⟨rfl, hb9⟩
        have HB9 := Lib.hid (fin3 HB0.out HB1.out hb9)
        clear hb9
        go_wp2_with (fail)
        go_ret
        exact ⟨rfl, HB9.out⟩
      · have hn' : ¬ (nm.size : Int) > 100 := by omega
        go_wp2_with (fail)
        go_loopg [7] nm.size (fun gg s7 wr => ∃ kk : Nat, kk ≤ nm.size ∧ nm.size - kk ≤ gg ∧ s7 = .int .i64 kk ∧ Hid (∀ b ∈ nm.data.toList.take kk, b.toNat < 128) ∧ w1 = wr)
        case atStart => exact ⟨0, Nat.zero_le _, by omega, rfl, Lib.hid (by simp), rfl⟩
        case round =>
          obtain ⟨kk, hkk, hg, rfl, HT, rfl⟩ := hrel
          by_cases hlt : kk < nm.size
          · have hltz : (kk : Int) < (nm.size : Int) := by omega
            have hll : kk < nm.data.toList.length := by rw [data_length]; exact hlt
            by_cases hbig : nm[kk].toNat > 127
            · have hbz : (nm[kk].toNat : Int) > 127 := by omega
              go_wp2_with (fail)
              refine (HAW.out _ HB1).mono ?_
              rintro e w9 ⟨rfl, hb9⟩
              have HB9 := Lib.hid (fin3 HB0.out HB1.out hb9)
              clear hb9
              go_wp2_with (fail)
              go_ret
              exact ⟨rfl, HB9.out⟩
            · have hbz : ¬ (nm[kk].toNat : Int) > 127 := by omega
              have HT2 : Hid (∀ b ∈ nm.data.toList.take (kk + 1), b.toNat < 128) := by
                rw [List.take_succ_eq_append_getElem hll]
                refine Lib.hid fun b hb => ?_
                rcases List.mem_append.1 hb with h | h
                · exact HT.out b h
                · rw [List.mem_singleton.1 h]
                  have : nm.data.toList[kk] = nm[kk] := rfl
                  rw [this]
                  omega
              go_wp2_with (fail)
              go_roundg (nm.size - (kk + 1))
              case measure => omega
              case rel => exact ⟨kk + 1, by omega, by omega, by go_num, HT2, rfl⟩
          · have hltz : ¬ (kk : Int) < (nm.size : Int) := by omega
            have hasc : Asc7 nm := by
              have h := HT.out
              rw [List.take_of_length_le (by rw [data_length]; omega)] at h
              exact h
            have HASC := Lib.hid hasc
            clear hasc HT
            have hk1 := blk_below hk0 HB1.out
            have hc0 := blk_cell hk1 0
            have hc1 := blk_cell hk1 1
            simp only [List.getElem?_toArray, List.getElem?_cons_zero, List.getElem?_cons_succ] at hc0 hc1
            go_wp2_with (fail)
            refine (write11 v A c L w1 (Kd.C_below HR.out HB1.out) hf (HG.out.below HB1.out)).mono ?_
            rintro e w2 ⟨u, rfl, hb2⟩
            have HB2 := Lib.hid (HB1.out.trans (hb2.mono HB1.out.size))
            have hk2 := blk_below hk1 hb2
            clear hb2 hc0 hc1 hk1 HB1
            by_cases hwo : writeOk v L = true
            case neg =>
              rw [if_neg hwo]
              go_wp2_with (fail)
              refine (HAW.out _ HB2).mono ?_
              rintro e w9 ⟨rfl, hb9⟩
              have HB9 := Lib.hid (fin3 HB0.out HB2.out hb9)
              clear hb9
              go_wp2_with (fail)
              go_ret
              exact ⟨rfl, HB9.out⟩
            case pos =>
              rw [if_pos hwo]
              obtain ⟨hv2, hL20, hs200⟩ := few_len v L hf
              have hcom : ∀ s ∈ L, commentB s = true := by
                intro s hs
                unfold writeOk at hwo
                simp only [Bool.and_eq_true, Bool.not_eq_true', List.any_eq_false] at hwo
                have := hwo.2 s hs
                simpa using this
              have HS := Lib.hid hs200
              have HCOM := Lib.hid hcom
              have HK2 := Lib.hid hk2
              clear hs200 hcom hk2
              go_wp2_with (fail)
              go_loopg [10, 11] L.length (fun gg s10 s11 wr => ∃ kk : Nat, kk ≤ L.length ∧ L.length - kk ≤ gg ∧ s11 = .int .i64 kk ∧ Hid (STR wr w2.heap.size s10 ((L.take kk).filterMap (wantF nm))) ∧ Hid (Below w2.heap.size w2 wr))
              case atStart => exact ⟨0, Nat.zero_le _, by omega, rfl, Lib.hid (Kd.R_nil _ _ _ _ _), Lib.hid (Below.refl _ _)⟩
              case round =>
                obtain ⟨kk, hkk, hg, rfl, HV, HB⟩ := hrel
                have HK3 := Lib.hid (blk_below HK2.out HB.out)
                have hc0 := blk_cell HK3.out 0
                have hc1 := blk_cell HK3.out 1
                simp only [List.getElem?_toArray, List.getElem?_cons_zero, List.getElem?_cons_succ] at hc0 hc1
                have HB3 := Lib.hid (HB2.out.trans (HB.out.mono HB2.out.size))
                by_cases hlt : kk < L.length
                · have hltz : (kk : Int) < (L.length : Int) := by omega
                  have hst := fm_step (wantF nm) L kk hlt
                  obtain ⟨ad, rfl, hcell⟩ := str_at HR.out kk hlt
                  replace hcell := pw_cell_below HB3.out hcell
                  have hsz := HS.out L[kk] (List.getElem_mem hlt)
                  have hcm := HCOM.out L[kk] (List.getElem_mem hlt)
                  have hle : ((L.take kk).filterMap (wantF nm)).length ≤ kk := Nat.le_trans (List.length_filterMap_le _ _) (by rw [List.length_take]; omega)
                  generalize L[kk] = s at hst hcell hsz hcm
                  generalize hnx : (L.take (kk + 1)).filterMap (wantF nm) = nx at hst
                  have HNX := Lib.hid hnx
                  clear hnx
                  generalize (L.take kk).filterMap (wantF nm) = pre at hst HV hle
                  obtain ⟨h0, h1, -, -⟩ := com_some s hcm
                  have hcom12 := fun W => comment12 s W (by omega)
                  unfold wantF at hst
                  generalize comF s = q at hst h0 h1 hcom12
                  obtain ⟨q, rfl⟩ : ∃ q' : Nat, q = (q' : Int) := ⟨q.toNat, by omega⟩
                  have HCOM12 := Lib.hid hcom12
                  clear hcom12 hcm
                  simp only [Int.toNat_natCast, h0, true_and] at hst
                  have hqq : (q : Int) + 1 ≤ (s.size : Int) := by omega
                  have hsame := fun W => same13 (s.extract 0 q) nm W (Nat.le_trans (extract_le _ _ _) (by omega))
                  have HSAME := Lib.hid hsame
                  clear hsame
                  have HDR := fun n => pw_below_drewN (Below.refl wr.heap.size wr) n
                  cases hsm : sameB (s.extract 0 q) nm with
                  | false =>
                    rw [hsm] at hst HSAME
                    have HST := Lib.hid (show nx = pre by simpa using hst)
                    clear hst hsm
                    go_wp2_with (first | (go_at_call 12; refine (HCOM12.out _).mono ?_; rintro e w' ⟨rfl, ⟨nd, rfl⟩⟩) | (go_at_call 13; refine (HSAME.out _).mono ?_; rintro e w' ⟨rfl, ⟨ne, rfl⟩⟩))
                    go_roundg (L.length - (kk + 1))
                    case measure => omega
                    case rel => exact ⟨kk + 1, by omega, by omega, by go_num, by rw [HNX.out, HST.out]; exact Lib.hid (Kd.R_below HV.out (HDR _)), Lib.hid (pw_below_drewN HB.out _)⟩
                  | true =>
                    rw [hsm] at hst HSAME
                    have HST := Lib.hid (show nx = pre ++ [s.extract (q + 1) s.size] by simpa using hst)
                    clear hst hsm
                    go_wp2_with (first | (go_at_call 12; refine (HCOM12.out _).mono ?_; rintro e w' ⟨rfl, ⟨nd, rfl⟩⟩) | (go_at_call 13; refine (HSAME.out _).mono ?_; rintro e w' ⟨rfl, ⟨ne, rfl⟩⟩) | (at_builtin; refine Kd.R_append_row Value.string ByteArray.empty (h1 := fun _ => rfl) (w0 := w2) w2.heap.size rfl (.tmp 74) (.tmp 83) 22 9 (.string ⟨#[]⟩) 16 rfl Tryd.underlying22 infoS rfl (by decide) _ pre [s.extract (q + 1) s.size] _ 1 1 (fun _ => True) rfl rfl (fun _ _ => trivial) (Kd.R_below HV.out (below_alloc (HDR (nd + ne)) _)) (row1s (wr.drewN (nd + ne)) (s.extract (q + 1) s.size)) (below_alloc (pw_below_drewN HB.out _) _) (Nat.le_trans HB.out.size (below_alloc (HDR (nd + ne)) _).size) (by omega) ?_; intro v1 w4 hR4 hB4 _ _; have HR4 := Lib.hid hR4; have HB4 := Lib.hid hB4; clear hR4 hB4))
                    go_roundg (L.length - (kk + 1))
                    case measure => omega
                    case rel => exact ⟨kk + 1, by omega, by omega, by go_num, by rw [HNX.out, HST.out]; exact HR4, HB4⟩
                · have hltz : ¬ (kk : Int) < (L.length : Int) := by omega
                  go_wp2_with (fail)
                  rw [List.take_of_length_le (show L.length ≤ kk by omega)] at HV
                  rw [← want_all nm L HCOM.out HASC.out] at HV
                  obtain ⟨AW, cw, rfl, hlw, hCW⟩ := Kd.R_reads HV.out
                  refine (with14 v A c L A2 c2 l wr (Kd.C_below HR.out HB3.out) HC.out (Kd.C_below HR2.out HB3.out) HC2.out (by omega)).mono ?_
                  rintro e w4 ⟨ud, rfl, hud, hb4⟩
                  obtain ⟨AD, cd, rfl, hld, hCD⟩ := Kd.R_reads hud
                  have hm4 : Below w4.heap.size w4 (w4.alloc (.cells #[.string v, .slice AD (L ++ l).length cd] 24)) := below_alloc (Below.refl _ _) _
                  have hk4 := blk_new w4 (.cells #[.string v, .slice AD (L ++ l).length cd] 24)
                  have hkc := blk_below (blk_below HK3.out hb4) hm4
                  have HW4 := Lib.hid (Kd.C_below hCW (hb4.trans (hm4.mono hb4.size)))
                  have HD4 := Lib.hid (Kd.C_below hCD hm4)
                  have HLW := Lib.hid hlw
                  have HLD := Lib.hid hld
                  have HB5 := Lib.hid (HB3.out.trans ((hb4.trans (hm4.mono hb4.size)).mono HB3.out.size))
                  have HR5 := Lib.hid (Kd.C_below HR.out HB5.out)
                  have HR25 := Lib.hid (Kd.C_below HR2.out HB5.out)
                  clear HV HB3 HB HK3 hc0 hc1 hud hCD hCW hb4 hm4 hlw hld
                  obtain ⟨nd, hnd⟩ : ∃ nd, (L ++ l).length = nd := ⟨_, rfl⟩
                  obtain ⟨nw, hnw⟩ : ∃ nw, (getB nm L).length = nw := ⟨_, rfl⟩
                  rw [hnd] at hk4 HD4 HLD hkc HW4 HR5 HR25 HB5
                  rw [hnw] at HW4 HLW
                  have HND := Lib.hid hnd
                  have HNW := Lib.hid hnw
                  simp only [hnd, hnw]
                  clear hnd hnw
                  have hc5 := blk_cell hkc 1
                  simp only [List.getElem?_toArray, List.getElem?_cons_zero, List.getElem?_cons_succ] at hc5
                  go_wp2_with (at_builtin; refine Kd.R_append_row Value.string ByteArray.empty (h1 := fun _ => rfl) (w0 := w4.alloc (.cells #[.string v, .slice AD nd cd] 24)) (w4.alloc (.cells #[.string v, .slice AD nd cd] 24)).heap.size rfl (.tmp 88) (.tmp 90) 22 9 (.string ⟨#[]⟩) 16 rfl Tryd.underlying22 infoS rfl (by decide) _ [] L A L.length c (fun _ => True) rfl rfl (fun _ _ => trivial) (Kd.R_nil _ _ _ _ _) HR5.out (Below.refl _ _) (Nat.le_refl _) (by simp; omega) ?_)
                  intro v6 w6 hR6 hB6 _ _
                  have hsz5 : (w4.alloc (.cells #[.string v, .slice AD nd cd] 24)).heap.size = w4.heap.size + 1 := by simp
                  rw [← hsz5] at hR6 hB6
                  generalize w4.alloc (.cells #[.string v, .slice AD nd cd] 24) = w5 at *
                  have HR6 := Lib.hid hR6
                  have HB6 := Lib.hid hB6
                  clear hR6 hB6 hc5
                  go_wp2_with (at_builtin; refine Kd.R_append_row Value.string ByteArray.empty (h1 := fun _ => rfl) (w0 := w5) w5.heap.size rfl (.tmp 92) (.tmp 93) 22 9 (.string ⟨#[]⟩) 16 rfl Tryd.underlying22 infoS rfl (by decide) _ L l A2 l.length c2 (fun _ => True) rfl rfl (fun _ _ => trivial) HR6.out (Kd.C_below HR25.out HB6.out) HB6.out HB6.out.size (by omega) ?_)
                  intro v7 w7 hR7 hB7 _ _
                  rw [← hsz5] at hR7 hB7
                  obtain ⟨AX, cx, rfl, hlx, hCX⟩ := Kd.R_reads hR7
                  have hkc7 := blk_below hkc hB7
                  have hk47 := blk_below hk4 hB7
                  have HX7 := Lib.hid hCX
                  have HLX := Lib.hid hlx
                  have HW7 := Lib.hid (Kd.C_below HW4.out hB7)
                  have HD7 := Lib.hid (Kd.C_below HD4.out hB7)
                  have HB7 := Lib.hid (HB5.out.trans (hB7.mono HB5.out.size))
                  clear hR7 hB7 HR6 HB6 hkc hk4 HW4 HD4 HR5 HR25 HB5 hCX hlx
                  rw [HND.out] at HX7 HLX
                  rw [HND.out]
                  have hc7 := blk_cell hkc7 0
                  have hc7' := blk_cell hkc7 1
                  simp only [List.getElem?_toArray, List.getElem?_cons_zero, List.getElem?_cons_succ] at hc7 hc7'
                  go_wp2_with (fail)
                  go_at_call 16
                  refine (get16 v nm A c L w7 (Kd.C_below HR.out HB7.out) HC.out (by omega) (fun s hs => Nat.lt_of_le_of_lt (HS.out s hs) (by decide)) (by omega) (HG.out.below HB7.out)).mono ?_
                  rintro e w8 ⟨u8, rfl, hu8, hb8⟩
                  obtain ⟨AG, cg, rfl, hlg, hCG⟩ := Kd.R_reads hu8
                  have HB8 := Lib.hid (HB7.out.trans (hb8.mono HB7.out.size))
                  have HG8 := Lib.hid hCG
                  have HLG := Lib.hid hlg
                  have HW8 := Lib.hid (Kd.C_below HW7.out hb8)
                  have HD8 := Lib.hid (Kd.C_below HD7.out hb8)
                  have HX8 := Lib.hid (Kd.C_below HX7.out hb8)
                  have hkc8 := blk_below hkc7 hb8
                  have hk48 := blk_below hk47 hb8
                  clear hu8 hCG hlg hb8 HB7 HW7 HD7 HX7 hkc7 hk47 hc7 hc7'
                  rw [HNW.out] at HG8 HLG ⊢
                  go_wp2_with (fail)
                  go_at_call 15
                  have HT := texts15 AG cg (getB nm L) AW cw (getB nm L) w8
                  rw [HNW.out] at HT
                  refine (HT HG8.out HLG.out HW8.out HLW.out).mono ?_
                  rintro e w9 ⟨rfl, n9, rfl⟩
                  rw [decide_eq_true rfl]
                  have hd9 := pw_below_drewN (Below.refl w8.heap.size w8) n9
                  have HB9 := Lib.hid (pw_below_drewN HB8.out n9)
                  have HD9 := Lib.hid (Kd.C_below HD8.out hd9)
                  have HX9 := Lib.hid (Kd.C_below HX8.out hd9)
                  have hkc9 := blk_drewN hkc8 n9
                  have hk49 := blk_drewN hk48 n9
                  clear HT hd9 HB8 HG8 HW8 HD8 HX8 hkc8 hk48
                  have d1 := blk_cell hkc9 0
                  have d2 := blk_cell hk49 0
                  have d3 := blk_cell hk49 1
                  simp only [List.getElem?_toArray, List.getElem?_cons_zero, List.getElem?_cons_succ] at d1 d2 d3
                  go_wp2_with (fail)
                  generalize w8.drewN n9 = w9 at *
                  go_at_call 15
                  have HT := texts15 AD cd (L ++ l) AX cx (L ++ l) w9
                  rw [HND.out] at HT
                  refine (HT HD9.out HLD.out HX9.out HLX.out).mono ?_
                  rintro e w10 ⟨rfl, n10, rfl⟩
                  rw [decide_eq_true rfl]
                  have HB10 := Lib.hid (pw_below_drewN HB9.out n10)
                  clear HT HB9 HD9 HX9 d1 d2 d3 hkc9 hk49
                  go_wp2_with (fail)
                  go_at_call 10
                  refine (HAW.out _ HB10).mono ?_
                  rintro e w11 ⟨rfl, hb11⟩
                  have HB11 := Lib.hid (fin3 HB0.out HB10.out hb11)
                  clear hb11
                  go_wp2_with (fail)
                  go_ret
                  exact ⟨rfl, HB11.out⟩
end Go.Proofs.YtbjdipbhclihfaaDoor
