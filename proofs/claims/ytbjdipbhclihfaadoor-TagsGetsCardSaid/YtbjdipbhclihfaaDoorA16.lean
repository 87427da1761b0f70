import Derived.Test.YtbjdipbhclihfaaDoorB3
set_option linter.unusedVariables false
namespace Go.Proofs.YtbjdipbhclihfaaDoor
open Go.RowKit Go.Proofs Go.Proofs.YtbjdipbhclihfaaDoorW.PrintWords Plain
theorem few9 (v : ByteArray) (A : Option Addr) (c : Nat) (L : List ByteArray) (w : World) (hr : Kd.string.C w A L.length L) (hc : L.length ≤ c) :
    Calls Tryd.prog 9 #[.agg #[.string v, .slice A L.length c]] w fun e w' => e = .returned (.bool (fewB v L)) ∧ Below w.heap.size w w' := by
  obtain ⟨k, hk⟩ := (few_ev v L (C_len hr)).rounds
  exact PTagsGets.jetsamlaw13_few.calls k v A c L _ w hr hc hk
theorem texts15 (A : Option Addr) (c : Nat) (L : List ByteArray) (A2 : Option Addr) (c2 : Nat) (M : List ByteArray) (w : World) (hr : Kd.string.C w A L.length L) (hc : L.length ≤ c) (hr2 : Kd.string.C w A2 M.length M) (hc2 : M.length ≤ c2) :
    Calls Tryd.prog 15 #[.slice A L.length c, .slice A2 M.length c2] w fun e w' => e = .returned (.bool (decide (L = M))) ∧ Drawn0 w w' := by
  obtain ⟨k, hk⟩ := (texts_ev L M (C_len hr)).rounds
  exact PTagsGets.jetsamlaw13_texts.calls k A c L A2 c2 M _ w hr hc hr2 hc2 hk
theorem same13 (a b : ByteArray) (w : World) (ha : a.size ≤ 1099511627776) :
    Calls Tryd.prog 13 #[.string a, .string b] w fun e w' => e = .returned (.bool (sameB a b)) ∧ Drawn0 w w' := by
  obtain ⟨k, hk⟩ := (same_ev a b ha).rounds
  exact PTagsGets.jetsamlaw13_same.calls k a b _ w hk
theorem comment12 (s : ByteArray) (w : World) (hs : s.size ≤ 1099511627776) :
    Calls Tryd.prog 12 #[.string s] w fun e w' => e = .returned (.int .i64 (comF s)) ∧ Drawn0 w w' := by
  obtain ⟨k, hk⟩ := (comment_ev s hs).rounds
  exact PTagsGets.jetsamref13_Comment.calls k s _ w hk
theorem bytes_from (L M : List Int) (hL : L.length ≤ 9223372036854775807) (hM : L.length = M.length) : ∀ (n i : Nat), i ≤ L.length → L.length - i ≤ n → Ev (fun k => PTagsGets.jetsamlaw11_Bytes.l0 k L M i) (decide (L.drop i = M.drop i))
  | 0, i, hi, hn => by
    obtain rfl : i = L.length := by omega
    refine ⟨1, fun k hk => ?_⟩
    obtain ⟨m, rfl⟩ : ∃ m, k = m + 1 := ⟨k - 1, by omega⟩
    show PTagsGets.jetsamlaw11_Bytes.l0 (m + 1) L M _ = _
    rw [PTagsGets.jetsamlaw11_Bytes.l0, if_neg (by omega), List.drop_of_length_le (Nat.le_refl _), List.drop_of_length_le (by omega)]
    rfl
  | n + 1, i, hi, hn => by
    rcases Nat.lt_or_ge i L.length with hlt | hge
    case inr => exact bytes_from L M hL hM n i hi (by omega)
    have hmono : ∀ k, LeO (PTagsGets.jetsamlaw11_Bytes.l0 k L M i) (PTagsGets.jetsamlaw11_Bytes.l0 (k + 1) L M i) := fun k => PTagsGets.jetsamlaw11_Bytes.mono_l k _ _ _
    have hltM : i < M.length := by omega
    have hrd : rd L i = L[i] := rdOf_at (0 : Int) L i hlt
    have hrdM : rd M i = M[i] := rdOf_at (0 : Int) M i hltM
    rw [List.drop_eq_getElem_cons hlt, List.drop_eq_getElem_cons hltM]
    have ih := bytes_from L M hL hM n (i + 1) hlt (by omega)
    generalize L.drop (i + 1) = tl at *
    generalize M.drop (i + 1) = tm at *
    by_cases h : L[i] = M[i]
    · obtain ⟨K, hK⟩ := ih
      refine Ev.of hmono (k := K + 1) ?_
      rw [PTagsGets.jetsamlaw11_Bytes.l0, if_pos (by omega), if_pos (by omega), if_pos (by omega), hrd, hrdM, if_pos h, IntWalk.wrap64_in _ (by omega)]
      have := hK K (Nat.le_refl _)
      simpa [h] using this
    · refine Ev.of hmono (k := 0 + 1) ?_
      rw [PTagsGets.jetsamlaw11_Bytes.l0, if_pos (by omega), if_pos (by omega), if_pos (by omega), hrd, hrdM, if_neg h]
      simp [h]
theorem bytes_ev (L M : List Int) (hL : L.length ≤ 9223372036854775807) : Ev (fun k => PTagsGets.jetsamlaw11_Bytes.f k L M) (decide (L = M)) := by
  unfold PTagsGets.jetsamlaw11_Bytes.f
  by_cases h : L.length = M.length
  · have hh : (L.length : Int) = (M.length : Int) := by omega
    simp only [hh, if_true]
    exact bytes_from L M hL h L.length 0 (Nat.zero_le _) (by omega)
  · have hh : ¬ (L.length : Int) = (M.length : Int) := by omega
    simp only [hh, if_false]
    have : ¬ L = M := fun e => h (by rw [e])
    rw [decide_eq_false this]
    exact ⟨0, fun _ _ => rfl⟩
theorem bytes18 (A : Option Addr) (c : Nat) (L : List Int) (A2 : Option Addr) (c2 : Nat) (M : List Int) (w : World) (hr : (Kd.int .u8).C w A L.length L) (hc : L.length ≤ c) (hr2 : (Kd.int .u8).C w A2 M.length M) (hc2 : M.length ≤ c2) :
    Calls Tryd.prog 18 #[.slice A L.length c, .slice A2 M.length c2] w fun e w' => e = .returned (.bool (decide (L = M))) ∧ Drawn0 w w' := by
  obtain ⟨k, hk⟩ := (bytes_ev L M (C_len hr)).rounds
  exact PTagsGets.jetsamlaw11_Bytes.calls k A c L A2 c2 M _ w hr hc hr2 hc2 hk
def exA : ByteArray := ⟨#[65, 61, 98]⟩
def exL : List Int := [1, 0, 0, 0, 120, 1, 0, 0, 0, 3, 0, 0, 0, 65, 61, 98]
theorem ex_ok : commentB exA = true := by decide +kernel
theorem ex_bytes : commentsBytes ⟨#[120]⟩ [exA] = exL := by decide +kernel
theorem ex_get : getB ⟨#[97]⟩ [exA] = [⟨#[98]⟩] := by decide +kernel
theorem row16 (W : World) : (Kd.int .u8).C (W.alloc (.cells #[.int .u8 1, .int .u8 0, .int .u8 0, .int .u8 0, .int .u8 120, .int .u8 1, .int .u8 0, .int .u8 0, .int .u8 0, .int .u8 3, .int .u8 0, .int .u8 0, .int .u8 0, .int .u8 65, .int .u8 61, .int .u8 98] 5)) (some ⟨W.heap.size, 0, none⟩) 16 exL := by
  refine C_lit1 rfl (blk_new W _) exL (by show 16 ≤ 9223372036854775807; decide) fun j p hj => ?_
  have hj' : j < 16 := (List.getElem?_eq_some_iff.1 hj).1
  match j, hj' with
  | 0, _ | 1, _ | 2, _ | 3, _ | 4, _ | 5, _ | 6, _ | 7, _ | 8, _ | 9, _ | 10, _ | 11, _ | 12, _ | 13, _ | 14, _ | 15, _ =>
    simp [exL] at hj
    subst hj
    exact ⟨_, rfl, rfl⟩
set_option maxRecDepth 100000 in
theorem awake10 (w : World) (hG : Glob w) : Calls Tryd.prog 10 #[] w fun e w' => e = .returned (.bool true) ∧ Below w.heap.size w w' := by
  have HG := Lib.hid hG
  clear hG
  have HA := Lib.hid (below_alloc (Below.refl w.heap.size w) (.cells #[.string exA] 9))
  go_enter Tryd.func10, Tryd.ntmps10
  go_wp2_with (fail)
  have hb0 : Below w.heap.size w ((w.alloc (.cells #[.string exA] 9)).alloc (.cells #[.string ⟨#[120]⟩, .slice (some ⟨w.heap.size, 0, none⟩) 1 1] 24)) := below_alloc HA.out _
  have hC0 : Kd.string.C ((w.alloc (.cells #[.string exA] 9)).alloc (.cells #[.string ⟨#[120]⟩, .slice (some ⟨w.heap.size, 0, none⟩) 1 1] 24)) (some ⟨w.heap.size, 0, none⟩) [exA].length [exA] := Kd.C_below (row1s w exA) (below_alloc (Below.refl _ _) _)
  have hk := blk_new (w.alloc (.cells #[.string exA] 9)) (.cells #[.string ⟨#[120]⟩, .slice (some ⟨w.heap.size, 0, none⟩) 1 1] 24)
  rw [show (w.alloc (.cells #[.string exA] 9)).heap.size = w.heap.size + 1 from by simp] at hk
  have HW := write11_yes ⟨#[120]⟩ _ 1 [exA] _ hC0 (by decide +kernel) (by decide +kernel) (show (1 : Nat) ≤ 9223372036854775807 by decide) (by intro s hs; rw [List.mem_singleton.1 hs]; exact (show (3 : Nat) ≤ 9223372036854775807 by decide)) (HG.out.below hb0) (by rw [ex_bytes]; decide)
  rw [ex_bytes] at HW
  change Calls Tryd.prog 11 #[.agg #[.string ⟨#[120]⟩, .slice (some ⟨w.heap.size, 0, none⟩) 1 1]] ((w.alloc (.cells #[.string exA] 9)).alloc (.cells #[.string ⟨#[120]⟩, .slice (some ⟨w.heap.size, 0, none⟩) 1 1] 24)) _
  generalize (w.alloc (.cells #[.string exA] 9)).alloc (.cells #[.string ⟨#[120]⟩, .slice (some ⟨w.heap.size, 0, none⟩) 1 1] 24) = W0 at *
  have HB0 := Lib.hid hb0
  have HC0 := Lib.hid hC0
  have HK := Lib.hid hk
  clear hb0 hC0 hk HA
  refine HW.mono ?_
  rintro e w1 ⟨u, rfl, hu, hb1⟩
  clear HW
  obtain ⟨A, c, rfl, hl, hC⟩ := RB.of_BYT hu
  have HR := Lib.hid hC
  have HL := Lib.hid hl
  have HB1 := Lib.hid (HB0.out.trans (hb1.mono HB0.out.size))
  have HC1 := Lib.hid (Kd.C_below HC0.out hb1)
  have hk1 := blk_below HK.out hb1
  clear hC hl hu hb1 HB0 HC0 HK
  have hm1 : Below w1.heap.size w1 (w1.alloc (.cells #[.int .u8 1, .int .u8 0, .int .u8 0, .int .u8 0, .int .u8 120, .int .u8 1, .int .u8 0, .int .u8 0, .int .u8 0, .int .u8 3, .int .u8 0, .int .u8 0, .int .u8 0, .int .u8 65, .int .u8 61, .int .u8 98] 5)) := below_alloc (Below.refl _ _) _
  have HB2 := Lib.hid (HB1.out.trans (hm1.mono HB1.out.size))
  have HR2 := Lib.hid (Kd.C_below HR.out hm1)
  have HC2 := Lib.hid (Kd.C_below HC1.out hm1)
  have hk2 := blk_below hk1 hm1
  have HX2 := Lib.hid (row16 w1)
  clear HB1 HR HC1 hk1 hm1
  go_wp2_with (fail)
  generalize hw2 : w1.alloc (.cells #[.int .u8 1, .int .u8 0, .int .u8 0, .int .u8 0, .int .u8 120, .int .u8 1, .int .u8 0, .int .u8 0, .int .u8 0, .int .u8 3, .int .u8 0, .int .u8 0, .int .u8 0, .int .u8 65, .int .u8 61, .int .u8 98] 5) = w2 at *
  go_at_call 18
  refine (bytes18 _ _ exL _ 16 exL w2 HR2.out HL.out HX2.out (by decide)).mono ?_
  rintro e w3 ⟨rfl, n, rfl⟩
  rw [decide_eq_true rfl]
  have HB3 := Lib.hid (pw_below_drewN HB2.out n)
  have HC3 := Lib.hid (Kd.C_below HC2.out (pw_below_drewN (Below.refl _ _) n))
  have hk3 := blk_drewN hk2 n
  clear HB2 HR2 HC2 hk2 HX2 hw2
  have hc0 := blk_cell hk3 0
  have hc1 := blk_cell hk3 1
  simp only [List.getElem?_toArray, List.getElem?_cons_zero, List.getElem?_cons_succ] at hc0 hc1
  go_wp2_with (fail)
  generalize w2.drewN n = w3 at *
  go_at_call 16
  refine (get16 ⟨#[120]⟩ ⟨#[97]⟩ _ 1 [exA] w3 HC3.out (by decide) (by decide) (by intro s hs; rw [List.mem_singleton.1 hs]; exact (show (3 : Nat) < 35184372088832 by decide)) (show (1 : Nat) < 35184372088832 by decide) (HG.out.below HB3.out)).mono ?_
  rintro e w4 ⟨u, rfl, hu, hb4⟩
  rw [ex_get] at hu
  obtain ⟨A4, c4, rfl, hl4, hC4⟩ := Kd.R_reads hu
  have hm4 : Below w4.heap.size w4 (w4.alloc (.cells #[.string ⟨#[98]⟩] 9)) := below_alloc (Below.refl _ _) _
  have HR4 := Lib.hid (Kd.C_below hC4 hm4)
  have HL4 := Lib.hid hl4
  have hb34 := HB3.out.trans (hb4.mono HB3.out.size)
  have HB4 := Lib.hid (hb34.trans (hm4.mono hb34.size))
  have HX4 := Lib.hid (row1s w4 ⟨#[98]⟩)
  clear HB3 HC3 hk3 hc0 hc1 hu hb4 hC4 hl4 hm4 hb34
  go_wp2_with (fail)
  generalize w4.alloc (.cells #[.string ⟨#[98]⟩] 9) = w5 at *
  go_at_call 15
  refine (texts15 _ _ [⟨#[98]⟩] _ 1 [⟨#[98]⟩] w5 HR4.out HL4.out HX4.out (by decide)).mono ?_
  rintro e w6 ⟨rfl, n6, rfl⟩
  rw [decide_eq_true rfl]
  have HB6 := Lib.hid (pw_below_drewN HB4.out n6)
  clear HB4 HR4 HX4
  go_wp2_with (fail)
  go_ret
  exact ⟨rfl, HB6.out⟩
end Go.Proofs.YtbjdipbhclihfaaDoor
