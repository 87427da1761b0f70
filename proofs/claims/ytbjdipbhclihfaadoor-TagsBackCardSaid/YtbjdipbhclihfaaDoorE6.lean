import Derived.Test.YtbjdipbhclihfaaDoorE5
set_option linter.unusedVariables false
set_option linter.unusedSimpArgs false
namespace Go.Proofs.YtbjdipbhclihfaaDoor
open Go.RowKit Go.Proofs Go.Proofs.YtbjdipbhclihfaaDoorW.PrintWords Go.Proofs.YtbjdipbhclihfaaDoorW.PrintLast Plain
theorem rows5 {W : World} {u1 u2 u3 u4 u5 : Value} {x1 x2 x3 x4 x5 : List Int} (h1 : RB W u1 x1) (h2 : RB W u2 x2) (h3 : RB W u3 x3) (h4 : RB W u4 x4) (h5 : RB W u5 x5) : RR (W.alloc (.cells #[u1, u2, u3, u4, u5] 27)) (.slice (some ⟨W.heap.size, 0, none⟩) 5 5) [x1, x2, x3, x4, x5] := by
  have hb : Below W.heap.size W (W.alloc (.cells #[u1, u2, u3, u4, u5] 27)) := below_alloc (Below.refl _ _) _
  refine ⟨_, _, rfl, C_lit1 rfl (blk_new W _) [x1, x2, x3, x4, x5] (by show 5 ≤ 9223372036854775807; decide) fun j p hj => ?_⟩
  match j, hj with
  | 0, hj => simp at hj; subst hj; obtain ⟨A, c, rfl, hl, hC⟩ := h1; exact ⟨_, rfl, A, c, rfl, hl, Kd.C_below hC hb⟩
  | 1, hj => simp at hj; subst hj; obtain ⟨A, c, rfl, hl, hC⟩ := h2; exact ⟨_, rfl, A, c, rfl, hl, Kd.C_below hC hb⟩
  | 2, hj => simp at hj; subst hj; obtain ⟨A, c, rfl, hl, hC⟩ := h3; exact ⟨_, rfl, A, c, rfl, hl, Kd.C_below hC hb⟩
  | 3, hj => simp at hj; subst hj; obtain ⟨A, c, rfl, hl, hC⟩ := h4; exact ⟨_, rfl, A, c, rfl, hl, Kd.C_below hC hb⟩
  | 4, hj => simp at hj; subst hj; obtain ⟨A, c, rfl, hl, hC⟩ := h5; exact ⟨_, rfl, A, c, rfl, hl, Kd.C_below hC hb⟩
/-- The bytes of a picture. -/
def picBytes (k : Int) (mime text : ByteArray) (x h b c : Int) (data : List Int) : List Int :=
  big4 k ++ big4 mime.size ++ bytesOf mime ++ big4 text.size ++ bytesOf text ++ big4 x ++ big4 h ++ big4 b ++ big4 c ++ big4 data.length ++ data
/-- The numbers behind a picture's texts. -/
def picNums (x h d c n : Int) : List Int := [x, h, d, c, n]
def picPre (k : Int) (mime text : ByteArray) (x h d c n : Int) (i : Nat) : List Int :=
  [big4 k, big4 (mime.size : Int), bytesOf mime, big4 (text.size : Int), bytesOf text].flatten ++ (((picNums x h d c n).take i).map big4).flatten
theorem picPre_zero (k : Int) (mime text : ByteArray) (x h d c n : Int) : picPre k mime text x h d c n 0 = [big4 k, big4 (mime.size : Int), bytesOf mime, big4 (text.size : Int), bytesOf text].flatten := by simp [picPre]
theorem picPre_step (k : Int) (mime text : ByteArray) (x h d c n : Int) (i : Nat) (hi : i < (picNums x h d c n).length) : picPre k mime text x h d c n (i + 1) = picPre k mime text x h d c n i ++ big4 (picNums x h d c n)[i] := by
  unfold picPre
  rw [List.take_succ_eq_append_getElem hi, List.map_append, List.flatten_append]
  simp
theorem picPre_full (k : Int) (mime text : ByteArray) (x h d c : Int) (data : List Int) : picPre k mime text x h d c data.length 5 ++ data = picBytes k mime text x h d c data := by
  simp [picPre, picBytes, picNums]
theorem picPre_len (k : Int) (mime text : ByteArray) (x h d c n : Int) (i : Nat) (hi : i ≤ 5) : (picPre k mime text x h d c n i).length = 12 + mime.size + text.size + 4 * i := by
  match i, hi with
  | 0, _ | 1, _ | 2, _ | 3, _ | 4, _ | 5, _ => simp [picPre, picNums, big4, bytesOf_length]; try omega
def write21.T5 : Bool × List (List Nat × List Nat) := (true, [([], []), ([0], [0]), ([1], [1]), ([], []), ([3], [3]), ([4], [4]), ([5, 2], [5]), ([], []), ([7], [7]), ([8], [8]), ([], []), ([10], [10]), ([11], [11]), ([12, 6], [12]), ([], []), ([14], [14]), ([15], [15]), ([2, 6, 9, 13, 16], [2, 6, 9, 13, 16]), ([17, 13], [17]), ([18, 18, 0, 1, 2, 3, 4, 5, 6, 7, 8, 9, 10, 11, 12, 13, 14, 15, 16, 17, 18], [18])])
def write21.B5 : List Nat := [0, 1, 3, 0, 8, 24, 63, 0, 128, 384, 0, 1024, 3072, 7295, 0, 16384, 49152, 131071, 262143, 524287]
theorem write21.tab5 : rtab .any (opsOf Tryd.f21 5) = write21.T5 := by kernel_rfl
theorem write21.bits5 : waitsOk write21.T5.2 write21.B5 = true := by kernel_rfl
set_option maxHeartbeats 4000000 in
set_option maxRecDepth 100000 in
theorem write21_yes (k x h d c : Nat) (mime text : ByteArray) (AD : Option Addr) (cD : Nat) (data : List Int) (w : World) (hd : (Kd.int .u8).C w AD data.length data) (hcd : data.length ≤ cD) (hG : Glob w) (hf : picForm mime text = true) (hr : picRange k x h d c = true)
    (hsz : (picBytes k mime text x h d c data).length ≤ 16777215) :
    Calls Tryd.prog 21 #[.agg #[.int .i64 (k : Int), .string mime, .string text, .int .i64 (x : Int), .int .i64 (h : Int), .int .i64 (d : Int), .int .i64 (c : Int), .slice AD data.length cD]] w fun e w' => ∃ u, e = .returned (.tuple #[u, .int .i64 0]) ∧ BYT w' w.heap.size u (picBytes k mime text x h d c data) ∧ Below w.heap.size w w' := by
  have hlen : mime.size + text.size + data.length + 32 ≤ 16777215 := by
    unfold picBytes at hsz
    simp only [List.length_append, bytesOf_length] at hsz
    simp only [big4, List.length_cons, List.length_nil] at hsz
    omega
  have hrk : k ≤ 20 ∧ x ≤ 4294967295 ∧ h ≤ 4294967295 ∧ d ≤ 4294967295 ∧ c ≤ 4294967295 := by
    have hr' := hr
    simp [picRange, outside] at hr'
    omega
  have hm : Fits mime := Nat.le_trans (show mime.size ≤ 16777215 by omega) (by decide)
  have ht : Fits text := Nat.le_trans (show text.size ≤ 16777215 by omega) (by decide)
  have HK := Lib.hid (show k ≤ 1099511627776 by omega)
  have HM := Lib.hid (show mime.size ≤ 1099511627776 by omega)
  have HT := Lib.hid (show text.size ≤ 1099511627776 by omega)
  have HL5 : Hid (([big4 (k : Int), big4 (mime.size : Int), bytesOf mime, big4 (text.size : Int), bytesOf text] : List (List Int)).flatten.length ≤ 1099511627776) := by
    apply Lib.hid
    simp [big4, bytesOf_length]
    omega
  have HSZ := Lib.hid hsz
  have HLEN := Lib.hid hlen
  have HRK := Lib.hid hrk
  have hb0 := below_alloc (Below.refl w.heap.size w) (.cells #[.int .i64 (k : Int), .string mime, .string text, .int .i64 (x : Int), .int .i64 (h : Int), .int .i64 (d : Int), .int .i64 (c : Int), .slice AD data.length cD] 45)
  have hk0 := blk_new w (.cells #[.int .i64 (k : Int), .string mime, .string text, .int .i64 (x : Int), .int .i64 (h : Int), .int .i64 (d : Int), .int .i64 (c : Int), .slice AD data.length cD] 45)
  have hL := letters51 mime 32 126 (w.alloc (.cells #[.int .i64 (k : Int), .string mime, .string text, .int .i64 (x : Int), .int .i64 (h : Int), .int .i64 (d : Int), .int .i64 (c : Int), .slice AD data.length cD] 45)) hm
  have hV := fun W h => Tryd.utf8_ValidString text W ht h
  unfold picForm at hf
  simp only [Bool.and_eq_true, Bool.not_eq_true'] at hf
  rw [hf.1] at hL
  rw [hf.2] at hV
  have HL := Lib.hid hL
  have HV := Lib.hid hV
  have HG := Lib.hid (hG.below hb0)
  have HB := Lib.hid hb0
  have HKb := Lib.hid hk0
  have HD := Lib.hid hd
  have HCD := Lib.hid hcd
  unfold picRange at hr
  simp only [Bool.and_eq_true, Bool.not_eq_true'] at hr
  obtain ⟨hr1, hr2⟩ := hr
  have HR1 := Lib.hid (show ([(k : Int)].any (outside 0 20)) = false by simp [hr1])
  have HR2 := Lib.hid hr2
  clear hm ht hG hb0 hk0 hL hV hf hr1 hr2 hsz hlen hrk hd hcd
  go_enter Tryd.func21, Tryd.ntmps21
  go_wp2_with (fail)
  generalize w.alloc (.cells #[.int .i64 (k : Int), .string mime, .string text, .int .i64 (x : Int), .int .i64 (h : Int), .int .i64 (d : Int), .int .i64 (c : Int), .slice AD data.length cD] 45) = w0 at *
  refine HL.out.mono ?_
  rintro e w1 ⟨rfl, hb1⟩
  have hk1 := blk_below HKb.out hb1
  have c2 := blk_cell hk1 2
  simp only [List.getElem?_toArray, List.getElem?_cons_zero, List.getElem?_cons_succ] at c2
  have HB1 := Lib.hid (HB.out.trans (hb1.mono HB.out.size))
  have HV1 := Lib.hid (HV.out w1 (HG.out.below hb1).out)
  have HK1 := Lib.hid hk1
  clear hb1 hk1 HL HV HKb
  go_wp2_with (fail)
  refine HV1.out.mono ?_
  rintro e w2 ⟨rfl, hb2⟩
  have HB2 := Lib.hid (HB1.out.trans (hb2.mono HB1.out.size))
  have hk2 := blk_below HK1.out hb2
  have c0 := blk_cell hk2 0
  simp only [List.getElem?_toArray, List.getElem?_cons_zero, List.getElem?_cons_succ] at c0
  have hm2 := below_alloc (Below.refl w2.heap.size w2) (.cells #[.int .i64 (k : Int)] 3)
  have hw2 := within52 _ 1 [(k : Int)] 0 20 _ (row1i w2 k)
  rw [HR1.out] at hw2
  have HW := Lib.hid hw2
  have HB3 := Lib.hid (HB2.out.trans (hm2.mono HB2.out.size))
  have HK3 := Lib.hid (blk_below hk2 hm2)
  clear hb2 hk2 hm2 c2 HV1 HK1 HB1 HB2 hw2
  go_wp2_with (fail)
  generalize w2.alloc (.cells #[.int .i64 (k : Int)] 3) = w3 at *
  refine HW.out.mono ?_
  rintro e w4 ⟨rfl, hb4⟩
  have hk4 := blk_below HK3.out hb4
  have HB4 := Lib.hid (HB3.out.trans (hb4.mono HB3.out.size))
  have c3 := blk_cell hk4 3
  have c4 := blk_cell hk4 4
  have c5 := blk_cell hk4 5
  have c6 := blk_cell hk4 6
  simp only [List.getElem?_toArray, List.getElem?_cons_zero, List.getElem?_cons_succ] at c3 c4 c5 c6
  have hm4 := below_alloc (Below.refl w4.heap.size w4) (.cells #[.int .i64 (x : Int), .int .i64 (h : Int), .int .i64 (d : Int), .int .i64 (c : Int)] 3)
  have hw4 := within52 _ 4 [(x : Int), (h : Int), (d : Int), (c : Int)] 0 4294967295 _ (row4i w4 x h d c)
  rw [HR2.out] at hw4
  have HW4 := Lib.hid hw4
  have HB5 := Lib.hid (HB4.out.trans (hm4.mono HB4.out.size))
  have HK5 := Lib.hid (blk_below hk4 hm4)
  clear hb4 hk4 HW HB3 HK3 c0 hw4 hm4 HB4
  go_wp2_with (fail)
  generalize w4.alloc (.cells #[.int .i64 (x : Int), .int .i64 (h : Int), .int .i64 (d : Int), .int .i64 (c : Int)] 3) = w5 at *
  refine HW4.out.mono ?_
  rintro e w6 ⟨rfl, hb6⟩
  have HB6 := Lib.hid (HB5.out.trans (hb6.mono HB5.out.size))
  have hk6 := blk_below HK5.out hb6
  clear hb6 c3 c4 c5 c6 HW4 HK5 HB5
  go_wp2_with (fail)
  have c0 := blk_cell hk6 0
  have c1 := blk_cell hk6 1
  have c2 := blk_cell hk6 2
  simp only [List.getElem?_toArray, List.getElem?_cons_zero, List.getElem?_cons_succ] at c0 c1 c2
  have C0 := Aside0.mk c0
  have C1 := Aside0.mk c1
  have C2 := Aside0.mk c2
  have HB := Aside0.mk HB6.out
  have BK := Aside0.mk hk6
  clear c0 c1 c2 hk6
  refine start_ (n := 20) (S := fun w' => True) (ds := []) #[false, false, false, false, false, false, false, false, false, false, false, false, false, false, false, false, false, false, false, false] (by kernel_rfl) rfl rfl trivial (fun hHeld => ?_)
  refine with_tabW write21.tab5 write21.bits5 (fun HT_ HW_ => ?_)
  refine inv_at [0, 1, 2, 3, 4, 5, 6, 7, 8, 9, 10, 11, 12, 13, 14, 15, 16, 17, 18, 19] (fun a0_ b a w' => ∃ (u1 : Value) (u2 : Value) (u3 : Value) (u4 : Value) (u5 : Value) (u6 : Value) (u7 : Value) (m19_ : Value), a = putSel a0_ b [(0, 37, .pointer (some ⟨w.heap.size, 0, none⟩)), (1, 38, .int .i64 (k : Int)), (2, 39, u1), (3, 40, .pointer (some ⟨w.heap.size, 1, none⟩)), (4, 41, .string mime), (5, 42, .int .i64 (mime.size : Int)), (6, 43, u2), (7, 44, .pointer (some ⟨w.heap.size, 1, none⟩)), (8, 45, .string mime), (9, 46, u3), (10, 47, .pointer (some ⟨w.heap.size, 2, none⟩)), (11, 48, .string text), (12, 49, .int .i64 (text.size : Int)), (13, 50, u4), (14, 51, .pointer (some ⟨w.heap.size, 2, none⟩)), (15, 52, .string text), (16, 53, u5), (17, 54, u6), (18, 55, u7), (19, 4, m19_)] ∧ (w'.cell? ⟨w.heap.size, 0, none⟩ = some (.int .i64 (k : Int))) ∧ (w'.cell? ⟨w.heap.size, 1, none⟩ = some (.string mime)) ∧ (w'.cell? ⟨w.heap.size, 2, none⟩ = some (.string text)) ∧ (w'.heap[w.heap.size]? = some (.cells #[.int .i64 (k : Int), .string mime, .string text, .int .i64 (x : Int), .int .i64 (h : Int), .int .i64 (d : Int), .int .i64 (c : Int), .slice AD data.length cD] 45 (0, 0))) ∧ (Below w.heap.size w w') ∧ (b 2 = true → RB w' u1 (big4 (k : Int))) ∧ (b 6 = true → RB w' u2 (big4 (mime.size : Int))) ∧ (b 9 = true → RB w' u3 (bytesOf mime)) ∧ (b 13 = true → RB w' u4 (big4 (text.size : Int))) ∧ (b 16 = true → RB w' u5 (bytesOf text)) ∧ (b 17 = true → RR w' u6 [big4 (k : Int), big4 (mime.size : Int), bytesOf mime, big4 (text.size : Int), bytesOf text]) ∧ (b 18 = true → BYT w' w.heap.size u7 [big4 (k : Int), big4 (mime.size : Int), bytesOf mime, big4 (text.size : Int), bytesOf text].flatten) ∧ (b 19 = true → (m19_ : Value) = u7)) HT_.out HW_.out (by kernel_rfl) (by kernel_rfl) ?_ ?_ ?_
  · exact ⟨.bool false, .bool false, .bool false, .bool false, .bool false, .bool false, .bool false, .bool false, by simp only [putSel, Bool.false_eq_true, if_false], C0.out, C1.out, C2.out, BK.out, below_drew HB.out, fun h_ => absurd h_ (by decide), fun h_ => absurd h_ (by decide), fun h_ => absurd h_ (by decide), fun h_ => absurd h_ (by decide), fun h_ => absurd h_ (by decide), fun h_ => absurd h_ (by decide), fun h_ => absurd h_ (by decide), fun h_ => absurd h_ (by decide)⟩
  · skip
    clear BK C0 C1 C2 HB
    refine steps_cons ?_ ?_
    · rintro b a w' ⟨u1, u2, u3, u4, u5, u6, u7, m19_, ha, Q_C0, Q_C1, Q_C2, Q_BK, Q_HB, Q_R1, Q_R2, Q_R3, Q_R4, Q_R5, Q_R6, Q_R7, Q_X19_⟩ hb_ hon hoff
      refine ⟨_, rfl, fun K hK => ?_⟩
      have e1 : a.tmps[1]? = some (.pointer (some ⟨w.heap.size, 0, none⟩)) := by rw [ha]; exact (putSel_off rfl).trans rfl
      replace ha := Aside0.mk ha
      have C0 := Aside0.mk Q_C0
      have C1 := Aside0.mk Q_C1
      have C2 := Aside0.mk Q_C2
      have BK := Aside0.mk Q_BK
      have HB := Aside0.mk Q_HB
      refine value_ (w1 := w') (v := .pointer (some ⟨w.heap.size, 0, none⟩)) (by rfl) rfl ?_ ?_
      · go_simp
        (try simp only [i64_w])
        try rfl
      refine hK.out _ _ ⟨u1, u2, u3, u4, u5, u6, u7, m19_, (by rw [ha.out]; exact putSel_upk 0 hb_ rfl rfl rfl), Q_C0, Q_C1, Q_C2, Q_BK, Q_HB, fun h0_ => absurd ((hoff 2 (by kernel_rfl)).symm.trans h0_) (by decide), fun h0_ => absurd ((hoff 6 (by kernel_rfl)).symm.trans h0_) (by decide), Q_R3, fun h0_ => absurd ((hoff 13 (by kernel_rfl)).symm.trans h0_) (by decide), Q_R5, fun h0_ => absurd ((hoff 17 (by kernel_rfl)).symm.trans h0_) (by decide), fun h0_ => absurd ((hoff 18 (by kernel_rfl)).symm.trans h0_) (by decide), fun h0_ => absurd ((hoff 19 (by kernel_rfl)).symm.trans h0_) (by decide)⟩
    refine steps_cons ?_ ?_
    · rintro b a w' ⟨u1, u2, u3, u4, u5, u6, u7, m19_, ha, Q_C0, Q_C1, Q_C2, Q_BK, Q_HB, Q_R1, Q_R2, Q_R3, Q_R4, Q_R5, Q_R6, Q_R7, Q_X19_⟩ hb_ hon hoff
      refine ⟨_, rfl, fun K hK => ?_⟩
      have e37 : a.tmps[37]? = some (.pointer (some ⟨w.heap.size, 0, none⟩)) := by rw [ha]; exact putSel_on (e := (0, 37, .pointer (some ⟨w.heap.size, 0, none⟩))) 0 rfl rfl (hon 0 (by kernel_rfl)) rfl
      replace ha := Aside0.mk ha
      have C0 := Aside0.mk Q_C0
      have C1 := Aside0.mk Q_C1
      have C2 := Aside0.mk Q_C2
      have BK := Aside0.mk Q_BK
      have HB := Aside0.mk Q_HB
      have c0 := C0.out
      refine value_ (w1 := w') (v := .int .i64 (k : Int)) (by rfl) rfl ?_ ?_
      · go_simp
        (try simp only [i64_w])
        try rfl
      refine hK.out _ _ ⟨u1, u2, u3, u4, u5, u6, u7, m19_, (by rw [ha.out]; exact putSel_upk 1 hb_ rfl rfl rfl), Q_C0, Q_C1, Q_C2, Q_BK, Q_HB, fun h0_ => absurd ((hoff 2 (by kernel_rfl)).symm.trans h0_) (by decide), fun h0_ => absurd ((hoff 6 (by kernel_rfl)).symm.trans h0_) (by decide), Q_R3, fun h0_ => absurd ((hoff 13 (by kernel_rfl)).symm.trans h0_) (by decide), Q_R5, fun h0_ => absurd ((hoff 17 (by kernel_rfl)).symm.trans h0_) (by decide), fun h0_ => absurd ((hoff 18 (by kernel_rfl)).symm.trans h0_) (by decide), fun h0_ => absurd ((hoff 19 (by kernel_rfl)).symm.trans h0_) (by decide)⟩
    refine steps_cons ?_ ?_
    · rintro b a w' ⟨u1, u2, u3, u4, u5, u6, u7, m19_, ha, Q_C0, Q_C1, Q_C2, Q_BK, Q_HB, Q_R1, Q_R2, Q_R3, Q_R4, Q_R5, Q_R6, Q_R7, Q_X19_⟩ hb_ hon hoff
      refine ⟨_, rfl, fun K hK => ?_⟩
      have e38 : a.tmps[38]? = some (.int .i64 (k : Int)) := by rw [ha]; exact putSel_on (e := (1, 38, .int .i64 (k : Int))) 1 rfl rfl (hon 1 (by kernel_rfl)) rfl
      replace ha := Aside0.mk ha
      have C0 := Aside0.mk Q_C0
      have C1 := Aside0.mk Q_C1
      have C2 := Aside0.mk Q_C2
      have BK := Aside0.mk Q_BK
      have HB := Aside0.mk Q_HB
      refine goes_ (N := some 39) Tryd.func53 (by kernel_rfl) rfl #[.int .i64 (k : Int), .int .i64 4] (by rfl) rfl rfl (by first | (simp only [List.map_toArray, List.map_cons, List.map_nil, Act.eval, Array.getD_eq_getD_getElem?, Option.getD_some, e38]; done) | (simp only [List.map_toArray, List.map_cons, List.map_nil, Act.eval, Array.getD_eq_getD_getElem?, Option.getD_some, e38]; rfl)) ?_
      refine (high53 (k) _ HK.out).mono ?_
      rintro e_ w1 ⟨u, rfl, hu, hb⟩
      refine ⟨_, rfl, ?_⟩
      refine hK.out _ _ ⟨u, u2, u3, u4, u5, u6, u7, m19_, (by rw [ha.out]; exact putSel_upk 2 hb_ rfl rfl rfl), pw_cell_below hb C0.out, pw_cell_below hb C1.out, pw_cell_below hb C2.out, blk_below BK.out hb, bt HB.out hb, fun _ => RB.of_BYT hu, fun h0_ => absurd ((hoff 6 (by kernel_rfl)).symm.trans h0_) (by decide), fun h0_ => RB.below (Q_R3 h0_) hb, fun h0_ => absurd ((hoff 13 (by kernel_rfl)).symm.trans h0_) (by decide), fun h0_ => RB.below (Q_R5 h0_) hb, fun h0_ => absurd ((hoff 17 (by kernel_rfl)).symm.trans h0_) (by decide), fun h0_ => absurd ((hoff 18 (by kernel_rfl)).symm.trans h0_) (by decide), fun h0_ => absurd ((hoff 19 (by kernel_rfl)).symm.trans h0_) (by decide)⟩
    refine steps_cons ?_ ?_
    · rintro b a w' ⟨u1, u2, u3, u4, u5, u6, u7, m19_, ha, Q_C0, Q_C1, Q_C2, Q_BK, Q_HB, Q_R1, Q_R2, Q_R3, Q_R4, Q_R5, Q_R6, Q_R7, Q_X19_⟩ hb_ hon hoff
      refine ⟨_, rfl, fun K hK => ?_⟩
      have e1 : a.tmps[1]? = some (.pointer (some ⟨w.heap.size, 0, none⟩)) := by rw [ha]; exact (putSel_off rfl).trans rfl
      replace ha := Aside0.mk ha
      have C0 := Aside0.mk Q_C0
      have C1 := Aside0.mk Q_C1
      have C2 := Aside0.mk Q_C2
      have BK := Aside0.mk Q_BK
      have HB := Aside0.mk Q_HB
      refine value_ (w1 := w') (v := .pointer (some ⟨w.heap.size, 1, none⟩)) (by rfl) rfl ?_ ?_
      · go_simp
        (try simp only [i64_w])
        try rfl
      refine hK.out _ _ ⟨u1, u2, u3, u4, u5, u6, u7, m19_, (by rw [ha.out]; exact putSel_upk 3 hb_ rfl rfl rfl), Q_C0, Q_C1, Q_C2, Q_BK, Q_HB, Q_R1, fun h0_ => absurd ((hoff 6 (by kernel_rfl)).symm.trans h0_) (by decide), Q_R3, fun h0_ => absurd ((hoff 13 (by kernel_rfl)).symm.trans h0_) (by decide), Q_R5, fun h0_ => absurd ((hoff 17 (by kernel_rfl)).symm.trans h0_) (by decide), fun h0_ => absurd ((hoff 18 (by kernel_rfl)).symm.trans h0_) (by decide), fun h0_ => absurd ((hoff 19 (by kernel_rfl)).symm.trans h0_) (by decide)⟩
    refine steps_cons ?_ ?_
    · rintro b a w' ⟨u1, u2, u3, u4, u5, u6, u7, m19_, ha, Q_C0, Q_C1, Q_C2, Q_BK, Q_HB, Q_R1, Q_R2, Q_R3, Q_R4, Q_R5, Q_R6, Q_R7, Q_X19_⟩ hb_ hon hoff
      refine ⟨_, rfl, fun K hK => ?_⟩
      have e40 : a.tmps[40]? = some (.pointer (some ⟨w.heap.size, 1, none⟩)) := by rw [ha]; exact putSel_on (e := (3, 40, .pointer (some ⟨w.heap.size, 1, none⟩))) 3 rfl rfl (hon 3 (by kernel_rfl)) rfl
      replace ha := Aside0.mk ha
      have C0 := Aside0.mk Q_C0
      have C1 := Aside0.mk Q_C1
      have C2 := Aside0.mk Q_C2
      have BK := Aside0.mk Q_BK
      have HB := Aside0.mk Q_HB
      have c1 := C1.out
      refine value_ (w1 := w') (v := .string mime) (by rfl) rfl ?_ ?_
      · go_simp
        (try simp only [i64_w])
        try rfl
      refine hK.out _ _ ⟨u1, u2, u3, u4, u5, u6, u7, m19_, (by rw [ha.out]; exact putSel_upk 4 hb_ rfl rfl rfl), Q_C0, Q_C1, Q_C2, Q_BK, Q_HB, Q_R1, fun h0_ => absurd ((hoff 6 (by kernel_rfl)).symm.trans h0_) (by decide), Q_R3, fun h0_ => absurd ((hoff 13 (by kernel_rfl)).symm.trans h0_) (by decide), Q_R5, fun h0_ => absurd ((hoff 17 (by kernel_rfl)).symm.trans h0_) (by decide), fun h0_ => absurd ((hoff 18 (by kernel_rfl)).symm.trans h0_) (by decide), fun h0_ => absurd ((hoff 19 (by kernel_rfl)).symm.trans h0_) (by decide)⟩
    refine steps_cons ?_ ?_
    · rintro b a w' ⟨u1, u2, u3, u4, u5, u6, u7, m19_, ha, Q_C0, Q_C1, Q_C2, Q_BK, Q_HB, Q_R1, Q_R2, Q_R3, Q_R4, Q_R5, Q_R6, Q_R7, Q_X19_⟩ hb_ hon hoff
      refine ⟨_, rfl, fun K hK => ?_⟩
      have e41 : a.tmps[41]? = some (.string mime) := by rw [ha]; exact putSel_on (e := (4, 41, .string mime)) 4 rfl rfl (hon 4 (by kernel_rfl)) rfl
      replace ha := Aside0.mk ha
      have C0 := Aside0.mk Q_C0
      have C1 := Aside0.mk Q_C1
      have C2 := Aside0.mk Q_C2
      have BK := Aside0.mk Q_BK
      have HB := Aside0.mk Q_HB
      refine value_ (w1 := w') (v := .int .i64 (mime.size : Int)) (by rfl) rfl ?_ ?_
      · go_simp
        (try simp only [i64_w])
        try rfl
      refine hK.out _ _ ⟨u1, u2, u3, u4, u5, u6, u7, m19_, (by rw [ha.out]; exact putSel_upk 5 hb_ rfl rfl rfl), Q_C0, Q_C1, Q_C2, Q_BK, Q_HB, Q_R1, fun h0_ => absurd ((hoff 6 (by kernel_rfl)).symm.trans h0_) (by decide), Q_R3, fun h0_ => absurd ((hoff 13 (by kernel_rfl)).symm.trans h0_) (by decide), Q_R5, fun h0_ => absurd ((hoff 17 (by kernel_rfl)).symm.trans h0_) (by decide), fun h0_ => absurd ((hoff 18 (by kernel_rfl)).symm.trans h0_) (by decide), fun h0_ => absurd ((hoff 19 (by kernel_rfl)).symm.trans h0_) (by decide)⟩
    refine steps_cons ?_ ?_
    · rintro b a w' ⟨u1, u2, u3, u4, u5, u6, u7, m19_, ha, Q_C0, Q_C1, Q_C2, Q_BK, Q_HB, Q_R1, Q_R2, Q_R3, Q_R4, Q_R5, Q_R6, Q_R7, Q_X19_⟩ hb_ hon hoff
      refine ⟨_, rfl, fun K hK => ?_⟩
      have e42 : a.tmps[42]? = some (.int .i64 (mime.size : Int)) := by rw [ha]; exact putSel_on (e := (5, 42, .int .i64 (mime.size : Int))) 5 rfl rfl (hon 5 (by kernel_rfl)) rfl
      replace ha := Aside0.mk ha
      have C0 := Aside0.mk Q_C0
      have C1 := Aside0.mk Q_C1
      have C2 := Aside0.mk Q_C2
      have BK := Aside0.mk Q_BK
      have HB := Aside0.mk Q_HB
      have R1 := Aside0.mk (Q_R1 (hon 2 (by kernel_rfl)))
      refine goes_ (N := some 43) Tryd.func53 (by kernel_rfl) rfl #[.int .i64 (mime.size : Int), .int .i64 4] (by rfl) rfl rfl (by first | (simp only [List.map_toArray, List.map_cons, List.map_nil, Act.eval, Array.getD_eq_getD_getElem?, Option.getD_some, e42]; done) | (simp only [List.map_toArray, List.map_cons, List.map_nil, Act.eval, Array.getD_eq_getD_getElem?, Option.getD_some, e42]; rfl)) ?_
      refine (high53 (mime.size) _ HM.out).mono ?_
      rintro e_ w1 ⟨u, rfl, hu, hb⟩
      refine ⟨_, rfl, ?_⟩
      refine hK.out _ _ ⟨u1, u, u3, u4, u5, u6, u7, m19_, (by rw [ha.out]; exact putSel_upk 6 hb_ rfl rfl rfl), pw_cell_below hb C0.out, pw_cell_below hb C1.out, pw_cell_below hb C2.out, blk_below BK.out hb, bt HB.out hb, fun _ => RB.below R1.out hb, fun _ => RB.of_BYT hu, fun h0_ => RB.below (Q_R3 h0_) hb, fun h0_ => absurd ((hoff 13 (by kernel_rfl)).symm.trans h0_) (by decide), fun h0_ => RB.below (Q_R5 h0_) hb, fun h0_ => absurd ((hoff 17 (by kernel_rfl)).symm.trans h0_) (by decide), fun h0_ => absurd ((hoff 18 (by kernel_rfl)).symm.trans h0_) (by decide), fun h0_ => absurd ((hoff 19 (by kernel_rfl)).symm.trans h0_) (by decide)⟩
    refine steps_cons ?_ ?_
    · rintro b a w' ⟨u1, u2, u3, u4, u5, u6, u7, m19_, ha, Q_C0, Q_C1, Q_C2, Q_BK, Q_HB, Q_R1, Q_R2, Q_R3, Q_R4, Q_R5, Q_R6, Q_R7, Q_X19_⟩ hb_ hon hoff
      refine ⟨_, rfl, fun K hK => ?_⟩
      have e1 : a.tmps[1]? = some (.pointer (some ⟨w.heap.size, 0, none⟩)) := by rw [ha]; exact (putSel_off rfl).trans rfl
      replace ha := Aside0.mk ha
      have C0 := Aside0.mk Q_C0
      have C1 := Aside0.mk Q_C1
      have C2 := Aside0.mk Q_C2
      have BK := Aside0.mk Q_BK
      have HB := Aside0.mk Q_HB
      refine value_ (w1 := w') (v := .pointer (some ⟨w.heap.size, 1, none⟩)) (by rfl) rfl ?_ ?_
      · go_simp
        (try simp only [i64_w])
        try rfl
      refine hK.out _ _ ⟨u1, u2, u3, u4, u5, u6, u7, m19_, (by rw [ha.out]; exact putSel_upk 7 hb_ rfl rfl rfl), Q_C0, Q_C1, Q_C2, Q_BK, Q_HB, Q_R1, Q_R2, fun h0_ => absurd ((hoff 9 (by kernel_rfl)).symm.trans h0_) (by decide), Q_R4, Q_R5, fun h0_ => absurd ((hoff 17 (by kernel_rfl)).symm.trans h0_) (by decide), fun h0_ => absurd ((hoff 18 (by kernel_rfl)).symm.trans h0_) (by decide), fun h0_ => absurd ((hoff 19 (by kernel_rfl)).symm.trans h0_) (by decide)⟩
    refine steps_cons ?_ ?_
    · rintro b a w' ⟨u1, u2, u3, u4, u5, u6, u7, m19_, ha, Q_C0, Q_C1, Q_C2, Q_BK, Q_HB, Q_R1, Q_R2, Q_R3, Q_R4, Q_R5, Q_R6, Q_R7, Q_X19_⟩ hb_ hon hoff
      refine ⟨_, rfl, fun K hK => ?_⟩
      have e44 : a.tmps[44]? = some (.pointer (some ⟨w.heap.size, 1, none⟩)) := by rw [ha]; exact putSel_on (e := (7, 44, .pointer (some ⟨w.heap.size, 1, none⟩))) 7 rfl rfl (hon 7 (by kernel_rfl)) rfl
      replace ha := Aside0.mk ha
      have C0 := Aside0.mk Q_C0
      have C1 := Aside0.mk Q_C1
      have C2 := Aside0.mk Q_C2
      have BK := Aside0.mk Q_BK
      have HB := Aside0.mk Q_HB
      have c1 := C1.out
      refine value_ (w1 := w') (v := .string mime) (by rfl) rfl ?_ ?_
      · go_simp
        (try simp only [i64_w])
        try rfl
      refine hK.out _ _ ⟨u1, u2, u3, u4, u5, u6, u7, m19_, (by rw [ha.out]; exact putSel_upk 8 hb_ rfl rfl rfl), Q_C0, Q_C1, Q_C2, Q_BK, Q_HB, Q_R1, Q_R2, fun h0_ => absurd ((hoff 9 (by kernel_rfl)).symm.trans h0_) (by decide), Q_R4, Q_R5, fun h0_ => absurd ((hoff 17 (by kernel_rfl)).symm.trans h0_) (by decide), fun h0_ => absurd ((hoff 18 (by kernel_rfl)).symm.trans h0_) (by decide), fun h0_ => absurd ((hoff 19 (by kernel_rfl)).symm.trans h0_) (by decide)⟩
    refine steps_cons ?_ ?_
    · rintro b a w' ⟨u1, u2, u3, u4, u5, u6, u7, m19_, ha, Q_C0, Q_C1, Q_C2, Q_BK, Q_HB, Q_R1, Q_R2, Q_R3, Q_R4, Q_R5, Q_R6, Q_R7, Q_X19_⟩ hb_ hon hoff
      refine ⟨_, rfl, fun K hK => ?_⟩
      have e45 : a.tmps[45]? = some (.string mime) := by rw [ha]; exact putSel_on (e := (8, 45, .string mime)) 8 rfl rfl (hon 8 (by kernel_rfl)) rfl
      replace ha := Aside0.mk ha
      have C0 := Aside0.mk Q_C0
      have C1 := Aside0.mk Q_C1
      have C2 := Aside0.mk Q_C2
      have BK := Aside0.mk Q_BK
      have HB := Aside0.mk Q_HB
      obtain ⟨A2, c2, w1, hcv, hC2, hl2, hb, _⟩ := bytes_conv mime (Nat.le_trans HM.out (by decide)) w'
      refine value_ (w1 := w1) (v := .slice A2 (bytesOf mime).length c2) (by rfl) rfl ?_ ?_
      · go_simp
      refine hK.out _ _ ⟨u1, u2, (.slice A2 (bytesOf mime).length c2), u4, u5, u6, u7, m19_, (by rw [ha.out]; exact putSel_upk 9 hb_ rfl rfl rfl), pw_cell_below hb C0.out, pw_cell_below hb C1.out, pw_cell_below hb C2.out, blk_below BK.out hb, bt HB.out hb, fun h0_ => RB.below (Q_R1 h0_) hb, fun h0_ => RB.below (Q_R2 h0_) hb, fun _ => ⟨A2, c2, rfl, hl2, hC2⟩, fun h0_ => RB.below (Q_R4 h0_) hb, fun h0_ => RB.below (Q_R5 h0_) hb, fun h0_ => absurd ((hoff 17 (by kernel_rfl)).symm.trans h0_) (by decide), fun h0_ => absurd ((hoff 18 (by kernel_rfl)).symm.trans h0_) (by decide), fun h0_ => absurd ((hoff 19 (by kernel_rfl)).symm.trans h0_) (by decide)⟩
    refine steps_cons ?_ ?_
    · rintro b a w' ⟨u1, u2, u3, u4, u5, u6, u7, m19_, ha, Q_C0, Q_C1, Q_C2, Q_BK, Q_HB, Q_R1, Q_R2, Q_R3, Q_R4, Q_R5, Q_R6, Q_R7, Q_X19_⟩ hb_ hon hoff
      refine ⟨_, rfl, fun K hK => ?_⟩
      have e1 : a.tmps[1]? = some (.pointer (some ⟨w.heap.size, 0, none⟩)) := by rw [ha]; exact (putSel_off rfl).trans rfl
      replace ha := Aside0.mk ha
      have C0 := Aside0.mk Q_C0
      have C1 := Aside0.mk Q_C1
      have C2 := Aside0.mk Q_C2
      have BK := Aside0.mk Q_BK
      have HB := Aside0.mk Q_HB
      refine value_ (w1 := w') (v := .pointer (some ⟨w.heap.size, 2, none⟩)) (by rfl) rfl ?_ ?_
      · go_simp
        (try simp only [i64_w])
        try rfl
      refine hK.out _ _ ⟨u1, u2, u3, u4, u5, u6, u7, m19_, (by rw [ha.out]; exact putSel_upk 10 hb_ rfl rfl rfl), Q_C0, Q_C1, Q_C2, Q_BK, Q_HB, Q_R1, Q_R2, Q_R3, fun h0_ => absurd ((hoff 13 (by kernel_rfl)).symm.trans h0_) (by decide), Q_R5, fun h0_ => absurd ((hoff 17 (by kernel_rfl)).symm.trans h0_) (by decide), fun h0_ => absurd ((hoff 18 (by kernel_rfl)).symm.trans h0_) (by decide), fun h0_ => absurd ((hoff 19 (by kernel_rfl)).symm.trans h0_) (by decide)⟩
    refine steps_cons ?_ ?_
    · rintro b a w' ⟨u1, u2, u3, u4, u5, u6, u7, m19_, ha, Q_C0, Q_C1, Q_C2, Q_BK, Q_HB, Q_R1, Q_R2, Q_R3, Q_R4, Q_R5, Q_R6, Q_R7, Q_X19_⟩ hb_ hon hoff
      refine ⟨_, rfl, fun K hK => ?_⟩
      have e47 : a.tmps[47]? = some (.pointer (some ⟨w.heap.size, 2, none⟩)) := by rw [ha]; exact putSel_on (e := (10, 47, .pointer (some ⟨w.heap.size, 2, none⟩))) 10 rfl rfl (hon 10 (by kernel_rfl)) rfl
      replace ha := Aside0.mk ha
      have C0 := Aside0.mk Q_C0
      have C1 := Aside0.mk Q_C1
      have C2 := Aside0.mk Q_C2
      have BK := Aside0.mk Q_BK
      have HB := Aside0.mk Q_HB
      have c2 := C2.out
      refine value_ (w1 := w') (v := .string text) (by rfl) rfl ?_ ?_
      · go_simp
        (try simp only [i64_w])
        try rfl
      refine hK.out _ _ ⟨u1, u2, u3, u4, u5, u6, u7, m19_, (by rw [ha.out]; exact putSel_upk 11 hb_ rfl rfl rfl), Q_C0, Q_C1, Q_C2, Q_BK, Q_HB, Q_R1, Q_R2, Q_R3, fun h0_ => absurd ((hoff 13 (by kernel_rfl)).symm.trans h0_) (by decide), Q_R5, fun h0_ => absurd ((hoff 17 (by kernel_rfl)).symm.trans h0_) (by decide), fun h0_ => absurd ((hoff 18 (by kernel_rfl)).symm.trans h0_) (by decide), fun h0_ => absurd ((hoff 19 (by kernel_rfl)).symm.trans h0_) (by decide)⟩
    refine steps_cons ?_ ?_
    · rintro b a w' ⟨u1, u2, u3, u4, u5, u6, u7, m19_, ha, Q_C0, Q_C1, Q_C2, Q_BK, Q_HB, Q_R1, Q_R2, Q_R3, Q_R4, Q_R5, Q_R6, Q_R7, Q_X19_⟩ hb_ hon hoff
      refine ⟨_, rfl, fun K hK => ?_⟩
      have e48 : a.tmps[48]? = some (.string text) := by rw [ha]; exact putSel_on (e := (11, 48, .string text)) 11 rfl rfl (hon 11 (by kernel_rfl)) rfl
      replace ha := Aside0.mk ha
      have C0 := Aside0.mk Q_C0
      have C1 := Aside0.mk Q_C1
      have C2 := Aside0.mk Q_C2
      have BK := Aside0.mk Q_BK
      have HB := Aside0.mk Q_HB
      refine value_ (w1 := w') (v := .int .i64 (text.size : Int)) (by rfl) rfl ?_ ?_
      · go_simp
        (try simp only [i64_w])
        try rfl
      refine hK.out _ _ ⟨u1, u2, u3, u4, u5, u6, u7, m19_, (by rw [ha.out]; exact putSel_upk 12 hb_ rfl rfl rfl), Q_C0, Q_C1, Q_C2, Q_BK, Q_HB, Q_R1, Q_R2, Q_R3, fun h0_ => absurd ((hoff 13 (by kernel_rfl)).symm.trans h0_) (by decide), Q_R5, fun h0_ => absurd ((hoff 17 (by kernel_rfl)).symm.trans h0_) (by decide), fun h0_ => absurd ((hoff 18 (by kernel_rfl)).symm.trans h0_) (by decide), fun h0_ => absurd ((hoff 19 (by kernel_rfl)).symm.trans h0_) (by decide)⟩
    refine steps_cons ?_ ?_
    · rintro b a w' ⟨u1, u2, u3, u4, u5, u6, u7, m19_, ha, Q_C0, Q_C1, Q_C2, Q_BK, Q_HB, Q_R1, Q_R2, Q_R3, Q_R4, Q_R5, Q_R6, Q_R7, Q_X19_⟩ hb_ hon hoff
      refine ⟨_, rfl, fun K hK => ?_⟩
      have e49 : a.tmps[49]? = some (.int .i64 (text.size : Int)) := by rw [ha]; exact putSel_on (e := (12, 49, .int .i64 (text.size : Int))) 12 rfl rfl (hon 12 (by kernel_rfl)) rfl
      replace ha := Aside0.mk ha
      have C0 := Aside0.mk Q_C0
      have C1 := Aside0.mk Q_C1
      have C2 := Aside0.mk Q_C2
      have BK := Aside0.mk Q_BK
      have HB := Aside0.mk Q_HB
      have R1 := Aside0.mk (Q_R1 (hon 2 (by kernel_rfl)))
      have R2 := Aside0.mk (Q_R2 (hon 6 (by kernel_rfl)))
      refine goes_ (N := some 50) Tryd.func53 (by kernel_rfl) rfl #[.int .i64 (text.size : Int), .int .i64 4] (by rfl) rfl rfl (by first | (simp only [List.map_toArray, List.map_cons, List.map_nil, Act.eval, Array.getD_eq_getD_getElem?, Option.getD_some, e49]; done) | (simp only [List.map_toArray, List.map_cons, List.map_nil, Act.eval, Array.getD_eq_getD_getElem?, Option.getD_some, e49]; rfl)) ?_
      refine (high53 (text.size) _ HT.out).mono ?_
      rintro e_ w1 ⟨u, rfl, hu, hb⟩
      refine ⟨_, rfl, ?_⟩
      refine hK.out _ _ ⟨u1, u2, u3, u, u5, u6, u7, m19_, (by rw [ha.out]; exact putSel_upk 13 hb_ rfl rfl rfl), pw_cell_below hb C0.out, pw_cell_below hb C1.out, pw_cell_below hb C2.out, blk_below BK.out hb, bt HB.out hb, fun _ => RB.below R1.out hb, fun _ => RB.below R2.out hb, fun h0_ => RB.below (Q_R3 h0_) hb, fun _ => RB.of_BYT hu, fun h0_ => RB.below (Q_R5 h0_) hb, fun h0_ => absurd ((hoff 17 (by kernel_rfl)).symm.trans h0_) (by decide), fun h0_ => absurd ((hoff 18 (by kernel_rfl)).symm.trans h0_) (by decide), fun h0_ => absurd ((hoff 19 (by kernel_rfl)).symm.trans h0_) (by decide)⟩
    refine steps_cons ?_ ?_
    · rintro b a w' ⟨u1, u2, u3, u4, u5, u6, u7, m19_, ha, Q_C0, Q_C1, Q_C2, Q_BK, Q_HB, Q_R1, Q_R2, Q_R3, Q_R4, Q_R5, Q_R6, Q_R7, Q_X19_⟩ hb_ hon hoff
      refine ⟨_, rfl, fun K hK => ?_⟩
      have e1 : a.tmps[1]? = some (.pointer (some ⟨w.heap.size, 0, none⟩)) := by rw [ha]; exact (putSel_off rfl).trans rfl
      replace ha := Aside0.mk ha
      have C0 := Aside0.mk Q_C0
      have C1 := Aside0.mk Q_C1
      have C2 := Aside0.mk Q_C2
      have BK := Aside0.mk Q_BK
      have HB := Aside0.mk Q_HB
      refine value_ (w1 := w') (v := .pointer (some ⟨w.heap.size, 2, none⟩)) (by rfl) rfl ?_ ?_
      · go_simp
        (try simp only [i64_w])
        try rfl
      refine hK.out _ _ ⟨u1, u2, u3, u4, u5, u6, u7, m19_, (by rw [ha.out]; exact putSel_upk 14 hb_ rfl rfl rfl), Q_C0, Q_C1, Q_C2, Q_BK, Q_HB, Q_R1, Q_R2, Q_R3, Q_R4, fun h0_ => absurd ((hoff 16 (by kernel_rfl)).symm.trans h0_) (by decide), fun h0_ => absurd ((hoff 17 (by kernel_rfl)).symm.trans h0_) (by decide), fun h0_ => absurd ((hoff 18 (by kernel_rfl)).symm.trans h0_) (by decide), fun h0_ => absurd ((hoff 19 (by kernel_rfl)).symm.trans h0_) (by decide)⟩
    refine steps_cons ?_ ?_
    · rintro b a w' ⟨u1, u2, u3, u4, u5, u6, u7, m19_, ha, Q_C0, Q_C1, Q_C2, Q_BK, Q_HB, Q_R1, Q_R2, Q_R3, Q_R4, Q_R5, Q_R6, Q_R7, Q_X19_⟩ hb_ hon hoff
      refine ⟨_, rfl, fun K hK => ?_⟩
      have e51 : a.tmps[51]? = some (.pointer (some ⟨w.heap.size, 2, none⟩)) := by rw [ha]; exact putSel_on (e := (14, 51, .pointer (some ⟨w.heap.size, 2, none⟩))) 14 rfl rfl (hon 14 (by kernel_rfl)) rfl
      replace ha := Aside0.mk ha
      have C0 := Aside0.mk Q_C0
      have C1 := Aside0.mk Q_C1
      have C2 := Aside0.mk Q_C2
      have BK := Aside0.mk Q_BK
      have HB := Aside0.mk Q_HB
      have c2 := C2.out
      refine value_ (w1 := w') (v := .string text) (by rfl) rfl ?_ ?_
      · go_simp
        (try simp only [i64_w])
        try rfl
      refine hK.out _ _ ⟨u1, u2, u3, u4, u5, u6, u7, m19_, (by rw [ha.out]; exact putSel_upk 15 hb_ rfl rfl rfl), Q_C0, Q_C1, Q_C2, Q_BK, Q_HB, Q_R1, Q_R2, Q_R3, Q_R4, fun h0_ => absurd ((hoff 16 (by kernel_rfl)).symm.trans h0_) (by decide), fun h0_ => absurd ((hoff 17 (by kernel_rfl)).symm.trans h0_) (by decide), fun h0_ => absurd ((hoff 18 (by kernel_rfl)).symm.trans h0_) (by decide), fun h0_ => absurd ((hoff 19 (by kernel_rfl)).symm.trans h0_) (by decide)⟩
    refine steps_cons ?_ ?_
    · rintro b a w' ⟨u1, u2, u3, u4, u5, u6, u7, m19_, ha, Q_C0, Q_C1, Q_C2, Q_BK, Q_HB, Q_R1, Q_R2, Q_R3, Q_R4, Q_R5, Q_R6, Q_R7, Q_X19_⟩ hb_ hon hoff
      refine ⟨_, rfl, fun K hK => ?_⟩
      have e52 : a.tmps[52]? = some (.string text) := by rw [ha]; exact putSel_on (e := (15, 52, .string text)) 15 rfl rfl (hon 15 (by kernel_rfl)) rfl
      replace ha := Aside0.mk ha
      have C0 := Aside0.mk Q_C0
      have C1 := Aside0.mk Q_C1
      have C2 := Aside0.mk Q_C2
      have BK := Aside0.mk Q_BK
      have HB := Aside0.mk Q_HB
      obtain ⟨A2, c2, w1, hcv, hC2, hl2, hb, _⟩ := bytes_conv text (Nat.le_trans HT.out (by decide)) w'
      refine value_ (w1 := w1) (v := .slice A2 (bytesOf text).length c2) (by rfl) rfl ?_ ?_
      · go_simp
      refine hK.out _ _ ⟨u1, u2, u3, u4, (.slice A2 (bytesOf text).length c2), u6, u7, m19_, (by rw [ha.out]; exact putSel_upk 16 hb_ rfl rfl rfl), pw_cell_below hb C0.out, pw_cell_below hb C1.out, pw_cell_below hb C2.out, blk_below BK.out hb, bt HB.out hb, fun h0_ => RB.below (Q_R1 h0_) hb, fun h0_ => RB.below (Q_R2 h0_) hb, fun h0_ => RB.below (Q_R3 h0_) hb, fun h0_ => RB.below (Q_R4 h0_) hb, fun _ => ⟨A2, c2, rfl, hl2, hC2⟩, fun h0_ => absurd ((hoff 17 (by kernel_rfl)).symm.trans h0_) (by decide), fun h0_ => absurd ((hoff 18 (by kernel_rfl)).symm.trans h0_) (by decide), fun h0_ => absurd ((hoff 19 (by kernel_rfl)).symm.trans h0_) (by decide)⟩
    refine steps_cons ?_ ?_
    · rintro b a w' ⟨u1, u2, u3, u4, u5, u6, u7, m19_, ha, Q_C0, Q_C1, Q_C2, Q_BK, Q_HB, Q_R1, Q_R2, Q_R3, Q_R4, Q_R5, Q_R6, Q_R7, Q_X19_⟩ hb_ hon hoff
      refine ⟨_, rfl, fun K hK => ?_⟩
      have e39 : a.tmps[39]? = some (u1) := by rw [ha]; exact putSel_on (e := (2, 39, u1)) 2 rfl rfl (hon 2 (by kernel_rfl)) rfl
      have e43 : a.tmps[43]? = some (u2) := by rw [ha]; exact putSel_on (e := (6, 43, u2)) 6 rfl rfl (hon 6 (by kernel_rfl)) rfl
      have e46 : a.tmps[46]? = some (u3) := by rw [ha]; exact putSel_on (e := (9, 46, u3)) 9 rfl rfl (hon 9 (by kernel_rfl)) rfl
      have e50 : a.tmps[50]? = some (u4) := by rw [ha]; exact putSel_on (e := (13, 50, u4)) 13 rfl rfl (hon 13 (by kernel_rfl)) rfl
      have e53 : a.tmps[53]? = some (u5) := by rw [ha]; exact putSel_on (e := (16, 53, u5)) 16 rfl rfl (hon 16 (by kernel_rfl)) rfl
      replace ha := Aside0.mk ha
      have C0 := Aside0.mk Q_C0
      have C1 := Aside0.mk Q_C1
      have C2 := Aside0.mk Q_C2
      have BK := Aside0.mk Q_BK
      have HB := Aside0.mk Q_HB
      have R1 := Aside0.mk (Q_R1 (hon 2 (by kernel_rfl)))
      have R2 := Aside0.mk (Q_R2 (hon 6 (by kernel_rfl)))
      have R3 := Aside0.mk (Q_R3 (hon 9 (by kernel_rfl)))
      have R4 := Aside0.mk (Q_R4 (hon 13 (by kernel_rfl)))
      have R5 := Aside0.mk (Q_R5 (hon 16 (by kernel_rfl)))
      obtain ⟨A1, c1, rfl, hl1, hC1⟩ := R1.out
      obtain ⟨A2, c2, rfl, hl2, hC2⟩ := R2.out
      obtain ⟨A3, c3, rfl, hl3, hC3⟩ := R3.out
      obtain ⟨A4, c4, rfl, hl4, hC4⟩ := R4.out
      obtain ⟨A5, c5, rfl, hl5, hC5⟩ := R5.out
      have R1 := Aside0.mk (show RB w' _ _ from ⟨A1, c1, rfl, hl1, hC1⟩)
      have R2 := Aside0.mk (show RB w' _ _ from ⟨A2, c2, rfl, hl2, hC2⟩)
      have R3 := Aside0.mk (show RB w' _ _ from ⟨A3, c3, rfl, hl3, hC3⟩)
      have R4 := Aside0.mk (show RB w' _ _ from ⟨A4, c4, rfl, hl4, hC4⟩)
      have R5 := Aside0.mk (show RB w' _ _ from ⟨A5, c5, rfl, hl5, hC5⟩)
      clear hC1 hC2 hC3 hC4 hC5
      have hb : Below w'.heap.size w' (w'.alloc (.cells #[.slice A1 (big4 (k : Int)).length c1, .slice A2 (big4 (mime.size : Int)).length c2, .slice A3 (bytesOf mime).length c3, .slice A4 (big4 (text.size : Int)).length c4, .slice A5 (bytesOf text).length c5] 27)) := below_alloc (Below.refl _ _) _
      refine value_ (w1 := w'.alloc (.cells #[.slice A1 (big4 (k : Int)).length c1, .slice A2 (big4 (mime.size : Int)).length c2, .slice A3 (bytesOf mime).length c3, .slice A4 (big4 (text.size : Int)).length c4, .slice A5 (bytesOf text).length c5] 27)) (v := .slice (some ⟨w'.heap.size, 0, none⟩) 5 5) (by rfl) rfl ?_ ?_
      · go_simp
      refine hK.out _ _ ⟨(.slice A1 (big4 (k : Int)).length c1), (.slice A2 (big4 (mime.size : Int)).length c2), (.slice A3 (bytesOf mime).length c3), (.slice A4 (big4 (text.size : Int)).length c4), (.slice A5 (bytesOf text).length c5), (.slice (some ⟨w'.heap.size, 0, none⟩) 5 5), u7, m19_, (by rw [ha.out]; exact putSel_upk 17 hb_ rfl rfl rfl), pw_cell_below hb C0.out, pw_cell_below hb C1.out, pw_cell_below hb C2.out, blk_below BK.out hb, bt HB.out hb, fun _ => RB.below R1.out hb, fun _ => RB.below R2.out hb, fun _ => RB.below R3.out hb, fun _ => RB.below R4.out hb, fun _ => RB.below R5.out hb, fun _ => rows5 R1.out R2.out R3.out R4.out R5.out, fun h0_ => absurd ((hoff 18 (by kernel_rfl)).symm.trans h0_) (by decide), fun h0_ => absurd ((hoff 19 (by kernel_rfl)).symm.trans h0_) (by decide)⟩
    refine steps_cons ?_ ?_
    · rintro b a w' ⟨u1, u2, u3, u4, u5, u6, u7, m19_, ha, Q_C0, Q_C1, Q_C2, Q_BK, Q_HB, Q_R1, Q_R2, Q_R3, Q_R4, Q_R5, Q_R6, Q_R7, Q_X19_⟩ hb_ hon hoff
      refine ⟨_, rfl, fun K hK => ?_⟩
      have e54 : a.tmps[54]? = some (u6) := by rw [ha]; exact putSel_on (e := (17, 54, u6)) 17 rfl rfl (hon 17 (by kernel_rfl)) rfl
      replace ha := Aside0.mk ha
      have C0 := Aside0.mk Q_C0
      have C1 := Aside0.mk Q_C1
      have C2 := Aside0.mk Q_C2
      have BK := Aside0.mk Q_BK
      have HB := Aside0.mk Q_HB
      have R1 := Aside0.mk (Q_R1 (hon 2 (by kernel_rfl)))
      have R2 := Aside0.mk (Q_R2 (hon 6 (by kernel_rfl)))
      have R3 := Aside0.mk (Q_R3 (hon 9 (by kernel_rfl)))
      have R4 := Aside0.mk (Q_R4 (hon 13 (by kernel_rfl)))
      have R5 := Aside0.mk (Q_R5 (hon 16 (by kernel_rfl)))
      have R6 := Aside0.mk (Q_R6 (hon 17 (by kernel_rfl)))
      obtain ⟨A6, c6, rfl, hC6⟩ := R6.out
      refine goes_ (N := some 55) Tryd.func38 (by kernel_rfl) rfl #[.slice A6 5 c6] (by rfl) rfl rfl (by first | (simp only [List.map_toArray, List.map_cons, List.map_nil, Act.eval, Array.getD_eq_getD_getElem?, Option.getD_some, e54]; done) | (simp only [List.map_toArray, List.map_cons, List.map_nil, Act.eval, Array.getD_eq_getD_getElem?, Option.getD_some, e54]; rfl)) ?_
      refine (concat38 A6 c6 [big4 (k : Int), big4 (mime.size : Int), bytesOf mime, big4 (text.size : Int), bytesOf text] _ hC6 HL5.out).mono ?_
      rintro e_ w1 ⟨u, rfl, hu, hb⟩
      refine ⟨_, rfl, ?_⟩
      refine hK.out _ _ ⟨u1, u2, u3, u4, u5, (.slice A6 5 c6), u, m19_, (by rw [ha.out]; exact putSel_upk 18 hb_ rfl rfl rfl), pw_cell_below hb C0.out, pw_cell_below hb C1.out, pw_cell_below hb C2.out, blk_below BK.out hb, bt HB.out hb, fun _ => RB.below R1.out hb, fun _ => RB.below R2.out hb, fun _ => RB.below R3.out hb, fun _ => RB.below R4.out hb, fun _ => RB.below R5.out hb, fun _ => ⟨A6, c6, rfl, Kd.C_below hC6 hb⟩, fun _ => Kd.R_lower hu HB.out.size, fun h0_ => absurd ((hoff 19 (by kernel_rfl)).symm.trans h0_) (by decide)⟩
    refine steps_cons ?_ ?_
    · rintro b a w' ⟨u1, u2, u3, u4, u5, u6, u7, m19_, ha, Q_C0, Q_C1, Q_C2, Q_BK, Q_HB, Q_R1, Q_R2, Q_R3, Q_R4, Q_R5, Q_R6, Q_R7, Q_X19_⟩ hb_ hon hoff
      refine ⟨_, rfl, fun K hK => ?_⟩
      have e55 : a.tmps[55]? = some (u7) := by rw [ha]; exact putSel_on (e := (18, 55, u7)) 18 rfl rfl (hon 18 (by kernel_rfl)) rfl
      replace ha := Aside0.mk ha
      have C0 := Aside0.mk Q_C0
      have C1 := Aside0.mk Q_C1
      have C2 := Aside0.mk Q_C2
      have BK := Aside0.mk Q_BK
      have HB := Aside0.mk Q_HB
      have R1 := Aside0.mk (Q_R1 (hon 2 (by kernel_rfl)))
      have R2 := Aside0.mk (Q_R2 (hon 6 (by kernel_rfl)))
      have R3 := Aside0.mk (Q_R3 (hon 9 (by kernel_rfl)))
      have R4 := Aside0.mk (Q_R4 (hon 13 (by kernel_rfl)))
      have R5 := Aside0.mk (Q_R5 (hon 16 (by kernel_rfl)))
      have R6 := Aside0.mk (Q_R6 (hon 17 (by kernel_rfl)))
      have R7 := Aside0.mk (Q_R7 (hon 18 (by kernel_rfl)))
      refine value_ (w1 := w') (v := u7) (by rfl) rfl ?_ ?_
      · go_simp
        (try simp only [i64_w])
        try rfl
      refine hK.out _ _ ⟨u1, u2, u3, u4, u5, u6, u7, (u7), (by rw [ha.out]; exact putSel_upk 19 hb_ rfl rfl rfl), Q_C0, Q_C1, Q_C2, Q_BK, Q_HB, Q_R1, Q_R2, Q_R3, Q_R4, Q_R5, Q_R6, Q_R7, fun _ => rfl⟩
    exact steps_nil
  · rintro b a w' hall ⟨u1, u2, u3, u4, u5, u6, u7, m19_, ha, Q_C0, Q_C1, Q_C2, Q_BK, Q_HB, Q_R1, Q_R2, Q_R3, Q_R4, Q_R5, Q_R6, Q_R7, Q_X19_⟩
    clear BK C0 C1 C2 HB
    have hb0_ := hall 0 (by kernel_rfl)
    have hb1_ := hall 1 (by kernel_rfl)
    have hb2_ := hall 2 (by kernel_rfl)
    have hb3_ := hall 3 (by kernel_rfl)
    have hb4_ := hall 4 (by kernel_rfl)
    have hb5_ := hall 5 (by kernel_rfl)
    have hb6_ := hall 6 (by kernel_rfl)
    have hb7_ := hall 7 (by kernel_rfl)
    have hb8_ := hall 8 (by kernel_rfl)
    have hb9_ := hall 9 (by kernel_rfl)
    have hb10_ := hall 10 (by kernel_rfl)
    have hb11_ := hall 11 (by kernel_rfl)
    have hb12_ := hall 12 (by kernel_rfl)
    have hb13_ := hall 13 (by kernel_rfl)
    have hb14_ := hall 14 (by kernel_rfl)
    have hb15_ := hall 15 (by kernel_rfl)
    have hb16_ := hall 16 (by kernel_rfl)
    have hb17_ := hall 17 (by kernel_rfl)
    have hb18_ := hall 18 (by kernel_rfl)
    have hb19_ := hall 19 (by kernel_rfl)
    subst ha
    obtain rfl := Q_X19_ hb19_
    simp only [putSel, hb0_, hb1_, hb2_, hb3_, hb4_, hb5_, hb6_, hb7_, hb8_, hb9_, hb10_, hb11_, hb12_, hb13_, hb14_, hb15_, hb16_, hb17_, hb18_, hb19_, if_true, Act.put, List.setIfInBounds_toArray, List.set_cons_zero, List.set_cons_succ]
    have C0 := Aside0.mk Q_C0
    clear Q_C0
    have C1 := Aside0.mk Q_C1
    clear Q_C1
    have C2 := Aside0.mk Q_C2
    clear Q_C2
    have BK := Aside0.mk Q_BK
    clear Q_BK
    have HB := Aside0.mk Q_HB
    clear Q_HB
    have R1 := Aside0.mk (Q_R1 hb2_)
    clear Q_R1
    have R2 := Aside0.mk (Q_R2 hb6_)
    clear Q_R2
    have R3 := Aside0.mk (Q_R3 hb9_)
    clear Q_R3
    have R4 := Aside0.mk (Q_R4 hb13_)
    clear Q_R4
    have R5 := Aside0.mk (Q_R5 hb16_)
    clear Q_R5
    have R6 := Aside0.mk (Q_R6 hb17_)
    clear Q_R6
    have R7 := Aside0.mk (Q_R7 hb18_)
    clear Q_R7
    clear hall hb0_ hb1_ hb2_ hb3_ hb4_ hb5_ hb6_ hb7_ hb8_ hb9_ hb10_ hb11_ hb12_ hb13_ hb14_ hb15_ hb16_ hb17_ hb18_ hb19_
    have HB0 := Lib.hid HB.out
    have hpre : BYT w' w.heap.size m19_ (picPre k mime text x h d c data.length 0) := by
      have := R7.out
      rw [picPre_zero]
      exact this
    have HP0 := Lib.hid hpre
    have hk7 := BK.out
    clear hpre C0 C1 C2 HB R1 R2 R3 R4 R5 R6 R7 BK HT_ HW_ hHeld
    have c3 := blk_cell hk7 3
    have c4 := blk_cell hk7 4
    have c5 := blk_cell hk7 5
    have c6 := blk_cell hk7 6
    have c7 := blk_cell hk7 7
    simp only [List.getElem?_toArray, List.getElem?_cons_zero, List.getElem?_cons_succ] at c3 c4 c5 c6 c7
    have hm8 := below_alloc (Below.refl w'.heap.size w') (.cells #[.int .i64 (x : Int), .int .i64 (h : Int), .int .i64 (d : Int), .int .i64 (c : Int), .int .i64 (data.length : Int)] 3)
    have HN8 := Lib.hid (blk_new w' (.cells #[.int .i64 (x : Int), .int .i64 (h : Int), .int .i64 (d : Int), .int .i64 (c : Int), .int .i64 (data.length : Int)] 3))
    have HK8 := Lib.hid (blk_below hk7 hm8)
    have HP8 := Lib.hid (Kd.R_below HP0.out hm8)
    have HB8 := Lib.hid (HB0.out.trans (hm8.mono HB0.out.size))
    clear hm8 hk7 HP0 HB0
    go_wp2_with (fail)
    generalize w'.alloc (.cells #[.int .i64 (x : Int), .int .i64 (h : Int), .int .i64 (d : Int), .int .i64 (c : Int), .int .i64 (data.length : Int)] 3) = w8 at *
    clear c3 c4 c5 c6 c7
    generalize w'.heap.size = gN at *
    go_loopg [4, 69] 5 (fun gg s4 s69 wr => ∃ kk : Nat, kk ≤ 5 ∧ 5 - kk ≤ gg ∧ s69 = .int .i64 kk ∧ Hid (BYT wr w.heap.size s4 (picPre k mime text x h d c data.length kk)) ∧ Hid (Below w.heap.size w wr) ∧ Hid (wr.heap[gN]? = some (.cells #[.int .i64 (x : Int), .int .i64 (h : Int), .int .i64 (d : Int), .int .i64 (c : Int), .int .i64 (data.length : Int)] 3 (0, 0))) ∧ Hid (wr.heap[w.heap.size]? = some (.cells #[.int .i64 (k : Int), .string mime, .string text, .int .i64 (x : Int), .int .i64 (h : Int), .int .i64 (d : Int), .int .i64 (c : Int), .slice AD data.length cD] 45 (0, 0))))
    case atStart => exact ⟨0, by omega, by omega, rfl, HP8, HB8, HN8, HK8⟩
    case round =>
      clear HP8 HB8 HN8 HK8
      obtain ⟨kk, hkk, hgg, rfl, HV, HB, HN, HKk⟩ := hrel
      by_cases hlt : kk < 5
      · have hltz : (kk : Int) < 5 := by omega
        have hst := picPre_step k mime text x h d c data.length kk hlt
        have hle := picPre_len k mime text x h d c data.length kk hkk
        have hln := HLEN.out
        have hrk := HRK.out
        obtain ⟨q, hq1, hq2, hq3⟩ : ∃ q : Nat, (picNums x h d c data.length)[kk]'hlt = (q : Int) ∧ q ≤ 1099511627776 ∧ wr.cell? ⟨gN, kk, none⟩ = some (.int .i64 (q : Int)) := by
          have hc := blk_cell HN.out kk
          match kk, hlt with
          | 0, _ => exact ⟨x, rfl, by omega, hc⟩
          | 1, _ => exact ⟨h, rfl, by omega, hc⟩
          | 2, _ => exact ⟨d, rfl, by omega, hc⟩
          | 3, _ => exact ⟨c, rfl, by omega, hc⟩
          | 4, _ => exact ⟨data.length, rfl, by omega, hc⟩
        rw [hq1] at hst
        have HST := Lib.hid hst
        have HLE := Lib.hid hle
        clear hst hle hq1
        go_wp2_with (fail)
        refine (high53 q wr hq2).mono ?_
        rintro e w9 ⟨u, rfl, hu, hb9⟩
        obtain ⟨A9, c9, rfl, hl9, hC9⟩ := RB.of_BYT hu
        have HC9 := Lib.hid hC9
        have HV9 := Lib.hid (Kd.R_below HV.out hb9)
        have HB9 := Lib.hid (HB.out.trans (hb9.mono HB.out.size))
        have HN9 := Lib.hid (blk_below HN.out hb9)
        have HK9 := Lib.hid (blk_below HKk.out hb9)
        clear hu hC9 hl9 hb9 HV HB HN HKk hq3
        have hl4 : (big4 (q : Int)).length = 4 := rfl
        go_wp2_with (at_builtin; refine Kd.R_append_row (Value.int .u8) (0 : Int) (h1 := fun _ => rfl) (w0 := w) w.heap.size rfl (.tmp 73) (.tmp 75) 27 5 (.int .u8 0) 1 rfl Tryd.underlying27 infoB rfl (by decide) _ (picPre k mime text x h d c data.length kk) (big4 (q : Int)) A9 (big4 (q : Int)).length c9 (fun _ => True) rfl rfl (fun _ _ => trivial) HV9.out HC9.out HB9.out HB9.out.size (by rw [HLE.out, hl4]; omega) ?_)
        intro v10 w10 hR10 hB10 hg10 _
        have n0 := Kd.R_ne HV9.out HN9.out (by decide)
        have n1 := Kd.R_ne HV9.out HK9.out (by decide)
        have HN10 := Lib.hid (blk_grown HN9.out hg10 n0)
        have HK10 := Lib.hid (blk_grown HK9.out hg10 n1)
        rw [← HST.out] at hR10
        have HR10 := Lib.hid hR10
        have HB10 := Lib.hid hB10
        clear hR10 hB10 hg10 n0 n1 HV9 HC9 HB9 HN9 HK9 hl4
        go_wp2_with (fail)
        go_roundg (5 - (kk + 1))
        case measure => omega
        case rel => exact ⟨kk + 1, by omega, by omega, by go_num, HR10, HB10, HN10, HK10⟩
      · have hltz : ¬ (kk : Int) < 5 := by omega
        obtain rfl : kk = 5 := by omega
        have hle := picPre_len k mime text x h d c data.length 5 (by decide)
        have hln := HLEN.out
        have c7 := blk_cell HKk.out 7
        simp only [List.getElem?_toArray, List.getElem?_cons_zero, List.getElem?_cons_succ] at c7
        have HLE := Lib.hid hle
        clear hle
        go_wp2_with (at_builtin; refine Kd.R_append_row (Value.int .u8) (0 : Int) (h1 := fun _ => rfl) (w0 := w) w.heap.size rfl (.tmp 78) (.tmp 80) 27 5 (.int .u8 0) 1 rfl Tryd.underlying27 infoB rfl (by decide) _ (picPre k mime text x h d c data.length 5) data AD data.length cD (fun _ => True) rfl rfl (fun _ _ => trivial) HV.out (Kd.C_below HD.out HB.out) HB.out HB.out.size (by rw [HLE.out]; omega) ?_)
        intro v10 w10 hR10 hB10 _ _
        rw [picPre_full] at hR10
        obtain ⟨A3, c3, rfl, hl3, hC3⟩ := RB.of_BYT hR10
        have hff := fun W => full40 A3 (picBytes k mime text x h d c data).length c3 W
        simp only [if_pos HSZ.out] at hff
        have HFF := Lib.hid hff
        have HR10 := Lib.hid hR10
        have HB10 := Lib.hid hB10
        clear hff hl3 hC3 hR10 hB10 c7
        go_wp2_with (go_at_call 40; refine (HFF.out _).mono ?_; rintro e w3 ⟨rfl, rfl⟩)
        go_ret2
        exact ⟨_, rfl, HR10.out, HB10.out⟩
end Go.Proofs.YtbjdipbhclihfaaDoor

