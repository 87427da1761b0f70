import Derived.Test.YtbjdipbhclihfaaDoorE10
set_option linter.unusedVariables false
set_option linter.unusedSimpArgs false
namespace Go.Proofs.YtbjdipbhclihfaaDoor
open Go.RowKit Go.Proofs Go.Proofs.YtbjdipbhclihfaaDoorW.PrintWords Plain
def LenO (n : Nat) (st : Option (List Int)) : Prop := ∀ b, st = some b → b.length ≤ n
theorem LenO.four {n : Nat} {st : Option (List Int)} (h : LenO n st) : LenO n (fourS st) := by
  intro b hb
  cases st with
  | none => cases hb
  | some a =>
    have := h a rfl
    simp only [fourS, Option.bind_some] at hb
    split at hb
    · cases hb
    · cases hb
      simp only [List.length_drop]
      omega
theorem LenO.text {n : Nat} {st : Option (List Int)} (h : LenO n st) : LenO n (textS st) := by
  intro b hb
  cases st with
  | none => cases hb
  | some a =>
    have := h a rfl
    simp only [textS, Option.bind_some, ptxtB] at hb
    split at hb
    · cases hb
    · split at hb
      · cases hb
      · simp only [Option.map_some, Option.some.injEq] at hb
        subst hb
        simp only [List.length_drop]
        omega
theorem LenO.val {n : Nat} {st : Option (List Int)} (h : LenO n st) : (textV st).length ≤ n := by
  cases st with
  | none => exact Nat.zero_le _
  | some a => exact Nat.le_trans textV_le (h a rfl)
theorem len_all {n : Nat} {bs : List Int} (h : bs.length ≤ n) : (textV (st1 bs)).length ≤ n ∧ (textV (st2 bs)).length ≤ n ∧ (textV (st7 bs)).length ≤ n := by
  have h0 : LenO n (some bs) := fun b hb => by cases hb; exact h
  have h1 : LenO n (st1 bs) := h0.four
  have h2 : LenO n (st2 bs) := h1.text
  have h3 : LenO n (st3 bs) := h2.text
  have h4 : LenO n (st4 bs) := h3.four
  have h5 : LenO n (st5 bs) := h4.four
  have h6 : LenO n (st6 bs) := h5.four
  have h7 : LenO n (st7 bs) := h6.four
  exact ⟨h1.val, h2.val, h7.val⟩
theorem byte_val {st : Option (List Int)} (h : ByteO st) : ByteL (textV st) := by
  cases st with
  | none => intro x hx; cases hx
  | some b =>
    show ByteL ((ptxtB b).elim [] fun x => x.1)
    cases hp : ptxtB b with
    | none => intro x hx; cases hx
    | some x =>
      unfold ptxtB at hp
      split at hp
      · cases hp
      · split at hp
        · cases hp
        · cases hp
          exact ((h b rfl).drop 4).take _
/-- What ReadPicture hands back. -/
def RdPic (w w' : World) (bs : List Int) (e : Ending) : Prop :=
  ∃ u, e = .returned (.tuple #[if pErr bs = 0 then .agg #[.int .i64 (pK bs), .string (pMime bs), .string (pText bs), .int .i64 (pX bs), .int .i64 (pH bs), .int .i64 (pD bs), .int .i64 (pC bs), u] else .agg #[.int .i64 0, .string ⟨#[]⟩, .string ⟨#[]⟩, .int .i64 0, .int .i64 0, .int .i64 0, .int .i64 0, .slice none 0 0], .int .i64 (pErr bs)]) ∧ RB w' u (if pErr bs = 0 then pData bs else []) ∧ Below w.heap.size w w'
theorem C_farA {W : World} {A : Option Addr} {n : Nat} {xs : List Int} {p : Addr} (u : Value) (h : (Kd.int .u8).C W A n xs) (hA : ∀ ad, A = some ad → p.block ≠ ad.block) : (Kd.int .u8).C (W.setCell p u) A n xs := by
  have hr := Kd.reads_of_C (enc := Value.int .u8) (d := (0 : Int)) (h1 := fun _ => rfl) h
  obtain ⟨h1, h2, h3⟩ := hr
  refine Kd.C_of_reads (d := (0 : Int)) (h1 := fun _ => rfl) ⟨h1, h2, fun hp => ?_⟩
  obtain ⟨ad', he, hc⟩ := h3 hp
  exact ⟨ad', he, fun j hj => (World.cell?_setCell_far W p (ad'.add j) u (by unfold Addr.add; split <;> exact hA ad' he)).trans (hc j hj)⟩
theorem RdPic.bad {w w' : World} {bs : List Int} {x : Int} (he : pErr bs = x) (hx : x ≠ 0) (hb : Below w.heap.size w w') : RdPic w w' bs (.returned (.tuple #[.agg #[.int .i64 0, .string ⟨#[]⟩, .string ⟨#[]⟩, .int .i64 0, .int .i64 0, .int .i64 0, .int .i64 0, .slice none 0 0], .int .i64 x])) := by
  unfold RdPic
  rw [he]
  simp only [if_neg hx]
  exact ⟨.slice none 0 0, trivial, RB.of_BYT (Kd.R_nil (Kd.int .u8) 5 _ 0 _), hb⟩
theorem RdPic.ok {w w' : World} {bs : List Int} {u : Value} (he : pErr bs = 0) (hu : RB w' u (pData bs)) (hb : Below w.heap.size w w') : RdPic w w' bs (.returned (.tuple #[.agg #[.int .i64 (pK bs), .string (pMime bs), .string (pText bs), .int .i64 (pX bs), .int .i64 (pH bs), .int .i64 (pD bs), .int .i64 (pC bs), u], .int .i64 0])) := by
  unfold RdPic
  rw [he]
  exact ⟨u, rfl, by rw [if_pos rfl]; exact hu, hb⟩
set_option maxHeartbeats 4000000 in
set_option maxRecDepth 100000 in
theorem read23 (A : Option Addr) (c : Nat) (bs : List Int) (w : World) (hr : (Kd.int .u8).C w A bs.length bs) (hc : bs.length ≤ c) (hb : ByteL bs) (hsz : bs.length ≤ 1000000) (hG : Glob w) :
    Calls Tryd.prog 23 #[.slice A bs.length c] w fun r W' => RdPic w W' bs r := by
  have HG := Lib.hid hG
  have HBy := Lib.hid hb
  have HSZ := Lib.hid hsz
  have hbel : Below w.heap.size w ((w.alloc (.cells #[.int .i64 0, .string ⟨#[]⟩, .string ⟨#[]⟩, .int .i64 0, .int .i64 0, .int .i64 0, .int .i64 0, .slice none 0 0] 45)).alloc (.cells #[.slice A bs.length c, .bool false, .bool false] 80)) := below_alloc (below_alloc (Below.refl _ _) _) _
  have hg1 : (w.alloc (.cells #[.int .i64 0, .string ⟨#[]⟩, .string ⟨#[]⟩, .int .i64 0, .int .i64 0, .int .i64 0, .int .i64 0, .slice none 0 0] 45)).heap.size = w.heap.size + 1 := by simp
  have hk1 := blk_new (w.alloc (.cells #[.int .i64 0, .string ⟨#[]⟩, .string ⟨#[]⟩, .int .i64 0, .int .i64 0, .int .i64 0, .int .i64 0, .slice none 0 0] 45)) (.cells #[.slice A bs.length c, .bool false, .bool false] 80)
  rw [hg1] at hk1
  have hk0 := blk_alloc (blk_new w (.cells #[.int .i64 0, .string ⟨#[]⟩, .string ⟨#[]⟩, .int .i64 0, .int .i64 0, .int .i64 0, .int .i64 0, .slice none 0 0] 45)) (.cells #[.slice A bs.length c, .bool false, .bool false] 80)
  have hRD : RDo w ((w.alloc (.cells #[.int .i64 0, .string ⟨#[]⟩, .string ⟨#[]⟩, .int .i64 0, .int .i64 0, .int .i64 0, .int .i64 0, .slice none 0 0] 45)).alloc (.cells #[.slice A bs.length c, .bool false, .bool false] 80)) (w.heap.size + 1) (some bs) false := ⟨Nat.le_succ _, hbel, A, c, hk1, hc, hr⟩
  have HR0 := Lib.hid hRD
  have HK0 := Lib.hid hk0
  have HO0 : Hid (ByteO (some bs)) := Lib.hid (fun b h => by cases h; exact hb)
  clear hG hb hsz hr hc hbel hk1 hk0 hRD hg1
  go_enter Tryd.func23, Tryd.ntmps23
  go_wp2_with (fail)
  generalize (w.alloc (.cells #[.int .i64 0, .string ⟨#[]⟩, .string ⟨#[]⟩, .int .i64 0, .int .i64 0, .int .i64 0, .int .i64 0, .slice none 0 0] 45)).alloc (.cells #[.slice A bs.length c, .bool false, .bool false] 80) = w0 at *
  go_at_call 55
  refine (fourO w w0 _ (some bs) false HR0.out HO0.out).mono ?_
  rintro e w1 ⟨rfl, hR, hB⟩
  have HR1 : Hid (RDo w w1 (w.heap.size + 1) (st1 bs) false) := Lib.hid hR
  have HK1 := Lib.hid (hB.blk HK0.out (by simp))
  have HO1 : Hid (ByteO (st1 bs)) := Lib.hid HO0.out.four
  clear hR hB HR0 HK0 HO0
  go_wp2_with (fail)
  go_at_call 48
  refine (textO w w1 _ (st1 bs) false HR1.out HO1.out).mono ?_
  rintro e w2 ⟨rfl, hR, hB⟩
  have HR2 : Hid (RDo w w2 (w.heap.size + 1) (st2 bs) false) := Lib.hid hR
  have HK2 := Lib.hid (hB.blk HK1.out (by simp))
  have HO2 : Hid (ByteO (st2 bs)) := Lib.hid HO1.out.text
  clear hR hB HR1 HK1 HO1
  go_wp2_with (fail)
  go_at_call 48
  refine (textO w w2 _ (st2 bs) false HR2.out HO2.out).mono ?_
  rintro e w3 ⟨rfl, hR, hB⟩
  have HR3 : Hid (RDo w w3 (w.heap.size + 1) (st3 bs) false) := Lib.hid hR
  have HK3 := Lib.hid (hB.blk HK2.out (by simp))
  have HO3 : Hid (ByteO (st3 bs)) := Lib.hid HO2.out.text
  clear hR hB HR2 HK2 HO2
  go_wp2_with (fail)
  go_at_call 55
  refine (fourO w w3 _ (st3 bs) false HR3.out HO3.out).mono ?_
  rintro e w4 ⟨rfl, hR, hB⟩
  have HR4 : Hid (RDo w w4 (w.heap.size + 1) (st4 bs) false) := Lib.hid hR
  have HK4 := Lib.hid (hB.blk HK3.out (by simp))
  have HO4 : Hid (ByteO (st4 bs)) := Lib.hid HO3.out.four
  clear hR hB HR3 HK3 HO3
  go_wp2_with (fail)
  go_at_call 55
  refine (fourO w w4 _ (st4 bs) false HR4.out HO4.out).mono ?_
  rintro e w5 ⟨rfl, hR, hB⟩
  have HR5 : Hid (RDo w w5 (w.heap.size + 1) (st5 bs) false) := Lib.hid hR
  have HK5 := Lib.hid (hB.blk HK4.out (by simp))
  have HO5 : Hid (ByteO (st5 bs)) := Lib.hid HO4.out.four
  clear hR hB HR4 HK4 HO4
  go_wp2_with (fail)
  go_at_call 55
  refine (fourO w w5 _ (st5 bs) false HR5.out HO5.out).mono ?_
  rintro e w6 ⟨rfl, hR, hB⟩
  have HR6 : Hid (RDo w w6 (w.heap.size + 1) (st6 bs) false) := Lib.hid hR
  have HK6 := Lib.hid (hB.blk HK5.out (by simp))
  have HO6 : Hid (ByteO (st6 bs)) := Lib.hid HO5.out.four
  clear hR hB HR5 HK5 HO5
  go_wp2_with (fail)
  go_at_call 55
  refine (fourO w w6 _ (st6 bs) false HR6.out HO6.out).mono ?_
  rintro e w7 ⟨rfl, hR, hB⟩
  have HR7 : Hid (RDo w w7 (w.heap.size + 1) (st7 bs) false) := Lib.hid hR
  have HK7 := Lib.hid (hB.blk HK6.out (by simp))
  have HO7 : Hid (ByteO (st7 bs)) := Lib.hid HO6.out.four
  clear hR hB HR6 HK6 HO6
  go_wp2_with (fail)
  have hm8 : Below w7.heap.size w7 (w7.alloc (.cells #[.int .i64 (fourV (some bs)), .string (strOfNums (textV (st1 bs))), .string (strOfNums (textV (st2 bs))), .int .i64 (fourV (st3 bs)), .int .i64 (fourV (st4 bs)), .int .i64 (fourV (st5 bs)), .int .i64 (fourV (st6 bs)), .slice none 0 0] 45)) := below_alloc (Below.refl _ _) _
  have HR8 : Hid (RDo w (w7.alloc (.cells #[.int .i64 (fourV (some bs)), .string (strOfNums (textV (st1 bs))), .string (strOfNums (textV (st2 bs))), .int .i64 (fourV (st3 bs)), .int .i64 (fourV (st4 bs)), .int .i64 (fourV (st5 bs)), .int .i64 (fourV (st6 bs)), .slice none 0 0] 45)) (w.heap.size + 1) (st7 bs) false) := Lib.hid (RD.of HR7.out hm8)
  have HP8 := Lib.hid (blk_new w7 (.cells #[.int .i64 (fourV (some bs)), .string (strOfNums (textV (st1 bs))), .string (strOfNums (textV (st2 bs))), .int .i64 (fourV (st3 bs)), .int .i64 (fourV (st4 bs)), .int .i64 (fourV (st5 bs)), .int .i64 (fourV (st6 bs)), .slice none 0 0] 45))
  have HK8 := Lib.hid (blk_below HK7.out hm8)
  have HNE := Lib.hid (show w7.heap.size ≠ w.heap.size + 1 from by have := blk_lt HR7.out.row.choose_spec.choose_spec.1; omega)
  have HLT := Lib.hid (show w.heap.size < w7.heap.size from by have := blk_lt HR7.out.row.choose_spec.choose_spec.1; omega)
  clear hm8 HR7 HK7
  generalize w7.alloc (.cells #[.int .i64 (fourV (some bs)), .string (strOfNums (textV (st1 bs))), .string (strOfNums (textV (st2 bs))), .int .i64 (fourV (st3 bs)), .int .i64 (fourV (st4 bs)), .int .i64 (fourV (st5 bs)), .int .i64 (fourV (st6 bs)), .slice none 0 0] 45) = w8 at *
  go_at_call 48
  refine (textO w w8 _ (st7 bs) false HR8.out HO7.out).mono ?_
  rintro e w9 ⟨rfl, hR, hB⟩
  have HR9 : Hid (RDo w w9 (w.heap.size + 1) (st8 bs) false) := Lib.hid hR
  have HK9 := Lib.hid (hB.blk HK8.out (by simp))
  have HP9 := Lib.hid (hB.blk HP8.out HNE.out)
  have HO7b := HO7
  clear hR hB HR8 HK8 HP8 HO7
  generalize w7.heap.size = g6 at *
  have hg69 := blk_lt HP9.out
  have hbnd := (len_all HSZ.out).2.2
  have HDB := Lib.hid (bytes_back (byte_val HO7b.out))
  obtain ⟨c2, w10, hcv, hC2, hl2, hb10⟩ := bytes_convE (strOfNums (textV (st7 bs))) (by rw [strOfNums_size]; omega) w9
  have hC11 := C_far8 (p := ⟨g6, 7, none⟩) (.slice (some ⟨w9.heap.size, 0, none⟩) (bytesOf (strOfNums (textV (st7 bs)))).length c2) hC2 (by show g6 ≠ w9.heap.size; omega)
  have hA3 : ∀ ad, (some ⟨w9.heap.size, 0, none⟩ : Option Addr) = some ad → w.heap.size ≠ ad.block := fun ad h => by cases h; have := blk_lt HK9.out; simp only []; omega
  generalize hA2 : (some ⟨w9.heap.size, 0, none⟩ : Option Addr) = A2 at *
  have HA3 := Lib.hid hA3
  clear hA3
  have HR10 : Hid (RDo w w10 (w.heap.size + 1) (st8 bs) false) := Lib.hid (RD.of HR9.out hb10)
  have hp10 := blk_below HP9.out hb10
  have HK10 := Lib.hid (blk_below HK9.out hb10)
  have HC10 := Lib.hid hC2
  have HL10 := Lib.hid hl2
  have c7 := blk_cell hp10 7
  have f7 := blk_frozen hp10 7
  simp only [List.getElem?_toArray, List.getElem?_cons_zero, List.getElem?_cons_succ] at c7
  have HC11 := Lib.hid hC11
  clear hC11 hA2 hbnd hg69
  have HP11 := Lib.hid (blk_put hp10 7 (.slice A2 (bytesOf (strOfNums (textV (st7 bs)))).length c2) (cs' := #[.int .i64 (fourV (some bs)), .string (strOfNums (textV (st1 bs))), .string (strOfNums (textV (st2 bs))), .int .i64 (fourV (st3 bs)), .int .i64 (fourV (st4 bs)), .int .i64 (fourV (st5 bs)), .int .i64 (fourV (st6 bs)), .slice A2 (bytesOf (strOfNums (textV (st7 bs)))).length c2]) rfl)
  have hge6 : w.heap.size ≤ g6 := Nat.le_of_lt HLT.out
  have HR11 : Hid (RDo w (w10.setCell ⟨g6, 7, none⟩ (.slice A2 (bytesOf (strOfNums (textV (st7 bs)))).length c2)) (w.heap.size + 1) (st8 bs) false) := Lib.hid (RD.but HR10.out ((But.refl g6 w10).set 7 (.slice A2 (bytesOf (strOfNums (textV (st7 bs)))).length c2)) hge6 (fun e => HNE.out e.symm))
  have HK11 := Lib.hid (blk_far HK10.out (p := ⟨g6, 7, none⟩) (by have := HLT.out; simp only []; omega) (.slice A2 (bytesOf (strOfNums (textV (st7 bs)))).length c2))
  clear hp10 hC2 hl2 hb10 HR9 HP9 HK9
  go_wp2_with (fail)
  generalize w10.setCell ⟨g6, 7, none⟩ (.slice A2 (bytesOf (strOfNums (textV (st7 bs)))).length c2) = w11 at *
  have HBB := Lib.hid HR11.out.bel
  refine (over49 w w11 _ _ _ _ HR11.out).mono ?_
  rintro e w12 ⟨rfl, rfl⟩
  cases hs8 : st8 bs with
  | none =>
    have HE := Lib.hid (pErr_none hs8)
    clear hcv c7 f7
    rw [show overF ((none : Option (List Int)).getD []) (none : Option (List Int)).isNone false = 11 from rfl]
    have z0 := HK11.out
    have f0 := blk_frozen z0 0
    have y0 := blk_cell z0 0
    have z1 := blk_put z0 0 (.int .i64 0) (cs' := #[.int .i64 0, .string ⟨#[]⟩, .string ⟨#[]⟩, .int .i64 0, .int .i64 0, .int .i64 0, .int .i64 0, .slice none 0 0]) rfl
    have f1 := blk_frozen z1 1
    have y1 := blk_cell z1 1
    have z2 := blk_put z1 1 (.string ⟨#[]⟩) (cs' := #[.int .i64 0, .string ⟨#[]⟩, .string ⟨#[]⟩, .int .i64 0, .int .i64 0, .int .i64 0, .int .i64 0, .slice none 0 0]) rfl
    have f2 := blk_frozen z2 2
    have y2 := blk_cell z2 2
    have z3 := blk_put z2 2 (.string ⟨#[]⟩) (cs' := #[.int .i64 0, .string ⟨#[]⟩, .string ⟨#[]⟩, .int .i64 0, .int .i64 0, .int .i64 0, .int .i64 0, .slice none 0 0]) rfl
    have f3 := blk_frozen z3 3
    have y3 := blk_cell z3 3
    have z4 := blk_put z3 3 (.int .i64 0) (cs' := #[.int .i64 0, .string ⟨#[]⟩, .string ⟨#[]⟩, .int .i64 0, .int .i64 0, .int .i64 0, .int .i64 0, .slice none 0 0]) rfl
    have f4 := blk_frozen z4 4
    have y4 := blk_cell z4 4
    have z5 := blk_put z4 4 (.int .i64 0) (cs' := #[.int .i64 0, .string ⟨#[]⟩, .string ⟨#[]⟩, .int .i64 0, .int .i64 0, .int .i64 0, .int .i64 0, .slice none 0 0]) rfl
    have f5 := blk_frozen z5 5
    have y5 := blk_cell z5 5
    have z6 := blk_put z5 5 (.int .i64 0) (cs' := #[.int .i64 0, .string ⟨#[]⟩, .string ⟨#[]⟩, .int .i64 0, .int .i64 0, .int .i64 0, .int .i64 0, .slice none 0 0]) rfl
    have f6 := blk_frozen z6 6
    have y6 := blk_cell z6 6
    have z7 := blk_put z6 6 (.int .i64 0) (cs' := #[.int .i64 0, .string ⟨#[]⟩, .string ⟨#[]⟩, .int .i64 0, .int .i64 0, .int .i64 0, .int .i64 0, .slice none 0 0]) rfl
    have f7 := blk_frozen z7 7
    have y7 := blk_cell z7 7
    have z8 := blk_put z7 7 (.slice none 0 0) (cs' := #[.int .i64 0, .string ⟨#[]⟩, .string ⟨#[]⟩, .int .i64 0, .int .i64 0, .int .i64 0, .int .i64 0, .slice none 0 0]) rfl
    have ZB := Lib.hid ((((((((HBB.out.setCell (p := ⟨w.heap.size, 0, none⟩) (Nat.le_refl _) (.int .i64 0)).setCell (p := ⟨w.heap.size, 1, none⟩) (Nat.le_refl _) (.string ⟨#[]⟩)).setCell (p := ⟨w.heap.size, 2, none⟩) (Nat.le_refl _) (.string ⟨#[]⟩)).setCell (p := ⟨w.heap.size, 3, none⟩) (Nat.le_refl _) (.int .i64 0)).setCell (p := ⟨w.heap.size, 4, none⟩) (Nat.le_refl _) (.int .i64 0)).setCell (p := ⟨w.heap.size, 5, none⟩) (Nat.le_refl _) (.int .i64 0)).setCell (p := ⟨w.heap.size, 6, none⟩) (Nat.le_refl _) (.int .i64 0)).setCell (p := ⟨w.heap.size, 7, none⟩) (Nat.le_refl _) (.slice none 0 0))
    have ZK := Lib.hid z8
    simp only [List.getElem?_toArray, List.getElem?_cons_zero, List.getElem?_cons_succ] at y0 y1 y2 y3 y4 y5 y6 y7
    clear z0 z1 z2 z3 z4 z5 z6 z7 z8
    go_wp2_with (fail)
    try simp only [Exit.noGoto, Exit.inBlock, Exit.then]
    refine bodyPost_ret (results_list (rs := [.cell 2 45, .tmp 3]) rfl (by simp) (.cell _ _ _ _ _ rfl ZK.out Tryd.underlying45 rfl rfl (.tmp .nil))) rfl ?_
    unfold RdPic
    rw [HE.out]
    exact ⟨.slice none 0 0, rfl, RB.of_BYT (Kd.R_nil (Kd.int .u8) 5 _ 0 _), ZB.out⟩
  | some r =>
    have hov : overF ((some r).getD []) (some r).isNone false = if r.length = 0 then 0 else 12 := rfl
    rw [hov]
    by_cases hq : r.length = 0
    case neg =>
      have HE := Lib.hid (show pErr bs = 12 by unfold pErr; rw [hs8]; exact if_neg hq)
      rw [if_neg hq]
      clear hcv c7 f7 hov
      have z0 := HK11.out
      have f0 := blk_frozen z0 0
      have y0 := blk_cell z0 0
      have z1 := blk_put z0 0 (.int .i64 0) (cs' := #[.int .i64 0, .string ⟨#[]⟩, .string ⟨#[]⟩, .int .i64 0, .int .i64 0, .int .i64 0, .int .i64 0, .slice none 0 0]) rfl
      have f1 := blk_frozen z1 1
      have y1 := blk_cell z1 1
      have z2 := blk_put z1 1 (.string ⟨#[]⟩) (cs' := #[.int .i64 0, .string ⟨#[]⟩, .string ⟨#[]⟩, .int .i64 0, .int .i64 0, .int .i64 0, .int .i64 0, .slice none 0 0]) rfl
      have f2 := blk_frozen z2 2
      have y2 := blk_cell z2 2
      have z3 := blk_put z2 2 (.string ⟨#[]⟩) (cs' := #[.int .i64 0, .string ⟨#[]⟩, .string ⟨#[]⟩, .int .i64 0, .int .i64 0, .int .i64 0, .int .i64 0, .slice none 0 0]) rfl
      have f3 := blk_frozen z3 3
      have y3 := blk_cell z3 3
      have z4 := blk_put z3 3 (.int .i64 0) (cs' := #[.int .i64 0, .string ⟨#[]⟩, .string ⟨#[]⟩, .int .i64 0, .int .i64 0, .int .i64 0, .int .i64 0, .slice none 0 0]) rfl
      have f4 := blk_frozen z4 4
      have y4 := blk_cell z4 4
      have z5 := blk_put z4 4 (.int .i64 0) (cs' := #[.int .i64 0, .string ⟨#[]⟩, .string ⟨#[]⟩, .int .i64 0, .int .i64 0, .int .i64 0, .int .i64 0, .slice none 0 0]) rfl
      have f5 := blk_frozen z5 5
      have y5 := blk_cell z5 5
      have z6 := blk_put z5 5 (.int .i64 0) (cs' := #[.int .i64 0, .string ⟨#[]⟩, .string ⟨#[]⟩, .int .i64 0, .int .i64 0, .int .i64 0, .int .i64 0, .slice none 0 0]) rfl
      have f6 := blk_frozen z6 6
      have y6 := blk_cell z6 6
      have z7 := blk_put z6 6 (.int .i64 0) (cs' := #[.int .i64 0, .string ⟨#[]⟩, .string ⟨#[]⟩, .int .i64 0, .int .i64 0, .int .i64 0, .int .i64 0, .slice none 0 0]) rfl
      have f7 := blk_frozen z7 7
      have y7 := blk_cell z7 7
      have z8 := blk_put z7 7 (.slice none 0 0) (cs' := #[.int .i64 0, .string ⟨#[]⟩, .string ⟨#[]⟩, .int .i64 0, .int .i64 0, .int .i64 0, .int .i64 0, .slice none 0 0]) rfl
      have ZB := Lib.hid ((((((((HBB.out.setCell (p := ⟨w.heap.size, 0, none⟩) (Nat.le_refl _) (.int .i64 0)).setCell (p := ⟨w.heap.size, 1, none⟩) (Nat.le_refl _) (.string ⟨#[]⟩)).setCell (p := ⟨w.heap.size, 2, none⟩) (Nat.le_refl _) (.string ⟨#[]⟩)).setCell (p := ⟨w.heap.size, 3, none⟩) (Nat.le_refl _) (.int .i64 0)).setCell (p := ⟨w.heap.size, 4, none⟩) (Nat.le_refl _) (.int .i64 0)).setCell (p := ⟨w.heap.size, 5, none⟩) (Nat.le_refl _) (.int .i64 0)).setCell (p := ⟨w.heap.size, 6, none⟩) (Nat.le_refl _) (.int .i64 0)).setCell (p := ⟨w.heap.size, 7, none⟩) (Nat.le_refl _) (.slice none 0 0))
      have ZK := Lib.hid z8
      simp only [List.getElem?_toArray, List.getElem?_cons_zero, List.getElem?_cons_succ] at y0 y1 y2 y3 y4 y5 y6 y7
      clear z0 z1 z2 z3 z4 z5 z6 z7 z8
      go_wp2_with (fail)
      try simp only [Exit.noGoto, Exit.inBlock, Exit.then]
      refine bodyPost_ret (results_list (rs := [.cell 2 45, .tmp 3]) rfl (by simp) (.cell _ _ _ _ _ rfl ZK.out Tryd.underlying45 rfl rfl (.tmp .nil))) rfl ?_
      unfold RdPic
      rw [HE.out]
      exact ⟨.slice none 0 0, rfl, RB.of_BYT (Kd.R_nil (Kd.int .u8) 5 _ 0 _), ZB.out⟩
    case pos =>
      have HE := Lib.hid (show pErr bs = picErr (pK bs) (pMime bs) (pText bs) (pX bs) (pH bs) (pD bs) (pC bs) by unfold pErr; rw [hs8]; exact if_pos hq)
      rw [if_pos hq]
      clear hcv c7 f7 hov
      have d0 := blk_cell HP11.out 0
      have d1 := blk_cell HP11.out 1
      have d2 := blk_cell HP11.out 2
      have d3 := blk_cell HP11.out 3
      have d4 := blk_cell HP11.out 4
      have d5 := blk_cell HP11.out 5
      have d6 := blk_cell HP11.out 6
      have d7 := blk_cell HP11.out 7
      simp only [List.getElem?_toArray, List.getElem?_cons_zero, List.getElem?_cons_succ] at d0 d1 d2 d3 d4 d5 d6 d7
      go_wp2_with (fail)
      have hsz := len_all HSZ.out
      refine (write21g (fourV (some bs)) (fourV (st3 bs)) (fourV (st4 bs)) (fourV (st5 bs)) (fourV (st6 bs)) (strOfNums (textV (st1 bs))) (strOfNums (textV (st2 bs))) A2 c2 (bytesOf (strOfNums (textV (st7 bs)))) w11 HC11.out HL10.out (HG.out.below HBB.out) (by rw [strOfNums_size, strOfNums_size, HDB.out]; omega)).mono ?_
      rintro e w12 ⟨u, rfl, hu, hb⟩
      have HBB2 := Lib.hid (HBB.out.trans (hb.mono HBB.out.size))
      have HK12 := Lib.hid (blk_below HK11.out hb)
      have HP12 := Lib.hid (blk_below HP11.out hb)
      have HC12 := Lib.hid (Kd.C_below HC11.out hb)
      clear hu hb HBB HK11 HP11 HC11 HC10 HR10 HR11 HK10 d0 d1 d2 d3 d4 d5 d6 d7 hsz
      obtain ⟨ee, hee⟩ : ∃ ee : Int, picErr (fourV (some bs)) (strOfNums (textV (st1 bs))) (strOfNums (textV (st2 bs))) (fourV (st3 bs)) (fourV (st4 bs)) (fourV (st5 bs)) (fourV (st6 bs)) = ee := ⟨_, rfl⟩
      have HEE : Hid (pErr bs = ee) := Lib.hid (HE.out.trans hee)
      rw [hee]
      clear hee HE
      by_cases he0 : ee = 0
      case neg =>
        have z0 := HK12.out
        have f0 := blk_frozen z0 0
        have y0 := blk_cell z0 0
        have z1 := blk_put z0 0 (.int .i64 0) (cs' := #[.int .i64 0, .string ⟨#[]⟩, .string ⟨#[]⟩, .int .i64 0, .int .i64 0, .int .i64 0, .int .i64 0, .slice none 0 0]) rfl
        have f1 := blk_frozen z1 1
        have y1 := blk_cell z1 1
        have z2 := blk_put z1 1 (.string ⟨#[]⟩) (cs' := #[.int .i64 0, .string ⟨#[]⟩, .string ⟨#[]⟩, .int .i64 0, .int .i64 0, .int .i64 0, .int .i64 0, .slice none 0 0]) rfl
        have f2 := blk_frozen z2 2
        have y2 := blk_cell z2 2
        have z3 := blk_put z2 2 (.string ⟨#[]⟩) (cs' := #[.int .i64 0, .string ⟨#[]⟩, .string ⟨#[]⟩, .int .i64 0, .int .i64 0, .int .i64 0, .int .i64 0, .slice none 0 0]) rfl
        have f3 := blk_frozen z3 3
        have y3 := blk_cell z3 3
        have z4 := blk_put z3 3 (.int .i64 0) (cs' := #[.int .i64 0, .string ⟨#[]⟩, .string ⟨#[]⟩, .int .i64 0, .int .i64 0, .int .i64 0, .int .i64 0, .slice none 0 0]) rfl
        have f4 := blk_frozen z4 4
        have y4 := blk_cell z4 4
        have z5 := blk_put z4 4 (.int .i64 0) (cs' := #[.int .i64 0, .string ⟨#[]⟩, .string ⟨#[]⟩, .int .i64 0, .int .i64 0, .int .i64 0, .int .i64 0, .slice none 0 0]) rfl
        have f5 := blk_frozen z5 5
        have y5 := blk_cell z5 5
        have z6 := blk_put z5 5 (.int .i64 0) (cs' := #[.int .i64 0, .string ⟨#[]⟩, .string ⟨#[]⟩, .int .i64 0, .int .i64 0, .int .i64 0, .int .i64 0, .slice none 0 0]) rfl
        have f6 := blk_frozen z6 6
        have y6 := blk_cell z6 6
        have z7 := blk_put z6 6 (.int .i64 0) (cs' := #[.int .i64 0, .string ⟨#[]⟩, .string ⟨#[]⟩, .int .i64 0, .int .i64 0, .int .i64 0, .int .i64 0, .slice none 0 0]) rfl
        have f7 := blk_frozen z7 7
        have y7 := blk_cell z7 7
        have z8 := blk_put z7 7 (.slice none 0 0) (cs' := #[.int .i64 0, .string ⟨#[]⟩, .string ⟨#[]⟩, .int .i64 0, .int .i64 0, .int .i64 0, .int .i64 0, .slice none 0 0]) rfl
        have ZB := Lib.hid ((((((((HBB2.out.setCell (p := ⟨w.heap.size, 0, none⟩) (Nat.le_refl _) (.int .i64 0)).setCell (p := ⟨w.heap.size, 1, none⟩) (Nat.le_refl _) (.string ⟨#[]⟩)).setCell (p := ⟨w.heap.size, 2, none⟩) (Nat.le_refl _) (.string ⟨#[]⟩)).setCell (p := ⟨w.heap.size, 3, none⟩) (Nat.le_refl _) (.int .i64 0)).setCell (p := ⟨w.heap.size, 4, none⟩) (Nat.le_refl _) (.int .i64 0)).setCell (p := ⟨w.heap.size, 5, none⟩) (Nat.le_refl _) (.int .i64 0)).setCell (p := ⟨w.heap.size, 6, none⟩) (Nat.le_refl _) (.int .i64 0)).setCell (p := ⟨w.heap.size, 7, none⟩) (Nat.le_refl _) (.slice none 0 0))
        have ZK := Lib.hid z8
        simp only [List.getElem?_toArray, List.getElem?_cons_zero, List.getElem?_cons_succ] at y0 y1 y2 y3 y4 y5 y6 y7
        clear z0 z1 z2 z3 z4 z5 z6 z7 z8
        have he1 : (ee != 0) = true := by simpa using he0
        go_wp2_with (fail)
        try simp only [Exit.noGoto, Exit.inBlock, Exit.then]
        refine bodyPost_ret (results_list (rs := [.cell 2 45, .tmp 3]) rfl (by simp) (.cell _ _ _ _ _ rfl ZK.out Tryd.underlying45 rfl rfl (.tmp .nil))) rfl ?_
        exact RdPic.bad HEE.out he0 ZB.out
      case pos =>
        subst he0
        have d0 := blk_cell HP12.out 0
        have d1 := blk_cell HP12.out 1
        have d2 := blk_cell HP12.out 2
        have d3 := blk_cell HP12.out 3
        have d4 := blk_cell HP12.out 4
        have d5 := blk_cell HP12.out 5
        have d6 := blk_cell HP12.out 6
        have d7 := blk_cell HP12.out 7
        simp only [List.getElem?_toArray, List.getElem?_cons_zero, List.getElem?_cons_succ] at d0 d1 d2 d3 d4 d5 d6 d7
        have z0 := HK12.out
        have f0 := blk_frozen z0 0
        have y0 := blk_cell z0 0
        have z1 := blk_put z0 0 (.int .i64 (fourV (some bs))) (cs' := #[.int .i64 (fourV (some bs)), .string ⟨#[]⟩, .string ⟨#[]⟩, .int .i64 0, .int .i64 0, .int .i64 0, .int .i64 0, .slice none 0 0]) rfl
        have f1 := blk_frozen z1 1
        have y1 := blk_cell z1 1
        have z2 := blk_put z1 1 (.string (strOfNums (textV (st1 bs)))) (cs' := #[.int .i64 (fourV (some bs)), .string (strOfNums (textV (st1 bs))), .string ⟨#[]⟩, .int .i64 0, .int .i64 0, .int .i64 0, .int .i64 0, .slice none 0 0]) rfl
        have f2 := blk_frozen z2 2
        have y2 := blk_cell z2 2
        have z3 := blk_put z2 2 (.string (strOfNums (textV (st2 bs)))) (cs' := #[.int .i64 (fourV (some bs)), .string (strOfNums (textV (st1 bs))), .string (strOfNums (textV (st2 bs))), .int .i64 0, .int .i64 0, .int .i64 0, .int .i64 0, .slice none 0 0]) rfl
        have f3 := blk_frozen z3 3
        have y3 := blk_cell z3 3
        have z4 := blk_put z3 3 (.int .i64 (fourV (st3 bs))) (cs' := #[.int .i64 (fourV (some bs)), .string (strOfNums (textV (st1 bs))), .string (strOfNums (textV (st2 bs))), .int .i64 (fourV (st3 bs)), .int .i64 0, .int .i64 0, .int .i64 0, .slice none 0 0]) rfl
        have f4 := blk_frozen z4 4
        have y4 := blk_cell z4 4
        have z5 := blk_put z4 4 (.int .i64 (fourV (st4 bs))) (cs' := #[.int .i64 (fourV (some bs)), .string (strOfNums (textV (st1 bs))), .string (strOfNums (textV (st2 bs))), .int .i64 (fourV (st3 bs)), .int .i64 (fourV (st4 bs)), .int .i64 0, .int .i64 0, .slice none 0 0]) rfl
        have f5 := blk_frozen z5 5
        have y5 := blk_cell z5 5
        have z6 := blk_put z5 5 (.int .i64 (fourV (st5 bs))) (cs' := #[.int .i64 (fourV (some bs)), .string (strOfNums (textV (st1 bs))), .string (strOfNums (textV (st2 bs))), .int .i64 (fourV (st3 bs)), .int .i64 (fourV (st4 bs)), .int .i64 (fourV (st5 bs)), .int .i64 0, .slice none 0 0]) rfl
        have f6 := blk_frozen z6 6
        have y6 := blk_cell z6 6
        have z7 := blk_put z6 6 (.int .i64 (fourV (st6 bs))) (cs' := #[.int .i64 (fourV (some bs)), .string (strOfNums (textV (st1 bs))), .string (strOfNums (textV (st2 bs))), .int .i64 (fourV (st3 bs)), .int .i64 (fourV (st4 bs)), .int .i64 (fourV (st5 bs)), .int .i64 (fourV (st6 bs)), .slice none 0 0]) rfl
        have f7 := blk_frozen z7 7
        have y7 := blk_cell z7 7
        have z8 := blk_put z7 7 (.slice A2 (bytesOf (strOfNums (textV (st7 bs)))).length c2) (cs' := #[.int .i64 (fourV (some bs)), .string (strOfNums (textV (st1 bs))), .string (strOfNums (textV (st2 bs))), .int .i64 (fourV (st3 bs)), .int .i64 (fourV (st4 bs)), .int .i64 (fourV (st5 bs)), .int .i64 (fourV (st6 bs)), .slice A2 (bytesOf (strOfNums (textV (st7 bs)))).length c2]) rfl
        have ZB := Lib.hid ((((((((HBB2.out.setCell (p := ⟨w.heap.size, 0, none⟩) (Nat.le_refl _) (.int .i64 (fourV (some bs)))).setCell (p := ⟨w.heap.size, 1, none⟩) (Nat.le_refl _) (.string (strOfNums (textV (st1 bs))))).setCell (p := ⟨w.heap.size, 2, none⟩) (Nat.le_refl _) (.string (strOfNums (textV (st2 bs))))).setCell (p := ⟨w.heap.size, 3, none⟩) (Nat.le_refl _) (.int .i64 (fourV (st3 bs)))).setCell (p := ⟨w.heap.size, 4, none⟩) (Nat.le_refl _) (.int .i64 (fourV (st4 bs)))).setCell (p := ⟨w.heap.size, 5, none⟩) (Nat.le_refl _) (.int .i64 (fourV (st5 bs)))).setCell (p := ⟨w.heap.size, 6, none⟩) (Nat.le_refl _) (.int .i64 (fourV (st6 bs)))).setCell (p := ⟨w.heap.size, 7, none⟩) (Nat.le_refl _) (.slice A2 (bytesOf (strOfNums (textV (st7 bs)))).length c2))
        have ZK := Lib.hid z8
        simp only [List.getElem?_toArray, List.getElem?_cons_zero, List.getElem?_cons_succ] at y0 y1 y2 y3 y4 y5 y6 y7
        clear z0 z1 z2 z3 z4 z5 z6 z7 z8
        go_wp2_with (fail)
        try simp only [Exit.noGoto, Exit.inBlock, Exit.then]
        refine bodyPost_ret (results_list (rs := [.cell 2 45, .tmp 3]) rfl (by simp) (.cell _ _ _ _ _ rfl ZK.out Tryd.underlying45 rfl rfl (.tmp .nil))) rfl ?_
        refine RdPic.ok HEE.out ⟨A2, c2, ?_, ?_, ?_⟩ ZB.out
        · show Value.slice A2 _ c2 = Value.slice A2 (textV (st7 bs)).length c2
          rw [HDB.out]
        · have := HL10.out
          rw [HDB.out] at this
          exact this
        · have h := HC12.out
          rw [HDB.out] at h
          have h := C_farA (p := ⟨w.heap.size, 0, none⟩) (.int .i64 (fourV (some bs))) h HA3.out
          have h := C_farA (p := ⟨w.heap.size, 1, none⟩) (.string (strOfNums (textV (st1 bs)))) h HA3.out
          have h := C_farA (p := ⟨w.heap.size, 2, none⟩) (.string (strOfNums (textV (st2 bs)))) h HA3.out
          have h := C_farA (p := ⟨w.heap.size, 3, none⟩) (.int .i64 (fourV (st3 bs))) h HA3.out
          have h := C_farA (p := ⟨w.heap.size, 4, none⟩) (.int .i64 (fourV (st4 bs))) h HA3.out
          have h := C_farA (p := ⟨w.heap.size, 5, none⟩) (.int .i64 (fourV (st5 bs))) h HA3.out
          have h := C_farA (p := ⟨w.heap.size, 6, none⟩) (.int .i64 (fourV (st6 bs))) h HA3.out
          have h := C_farA (p := ⟨w.heap.size, 7, none⟩) (.slice A2 (bytesOf (strOfNums (textV (st7 bs)))).length c2) h HA3.out
          exact h
end Go.Proofs.YtbjdipbhclihfaaDoor
