import Derived.Test.YtbjdipbhclihfaaDoorE12
import Derived.RegionTactic
import Derived.ChangeAlike
set_option linter.unusedVariables false
set_option linter.unusedSimpArgs false
namespace Go.Proofs.YtbjdipbhclihfaaDoor
open Go.RowKit Go.Proofs Go.Proofs.YtbjdipbhclihfaaDoorW.PrintWords Plain
/-- What the reference's ReadPicture hands back. -/
def RefRP (w w' : World) (bs : List Int) (e : Ending) : Prop :=
  ∃ u, e = .returned (.tuple (if pErr bs = 0 then #[.agg #[.int .i64 (pK bs), .int .i64 (pX bs), .int .i64 (pH bs), .int .i64 (pD bs), .int .i64 (pC bs)], .string (pMime bs), .string (pText bs), u, .int .i64 (pErr bs)] else #[.agg #[.int .i64 0, .int .i64 0, .int .i64 0, .int .i64 0, .int .i64 0], .string ⟨#[]⟩, .string ⟨#[]⟩, .slice none 0 0, .int .i64 (pErr bs)])) ∧ (pErr bs = 0 → RB w' u (pData bs)) ∧ Below w.heap.size w w'
theorem RefRP.bad {w w' : World} {bs : List Int} {x : Int} (he : pErr bs = x) (hx : x ≠ 0) (hb : Below w.heap.size w w') : RefRP w w' bs (.returned (.tuple #[.agg #[.int .i64 0, .int .i64 0, .int .i64 0, .int .i64 0, .int .i64 0], .string ⟨#[]⟩, .string ⟨#[]⟩, .slice none 0 0, .int .i64 x])) := by
  unfold RefRP
  rw [he]
  exact ⟨undef, by rw [if_neg hx], fun h => absurd h hx, hb⟩
theorem RefRP.ok {w w' : World} {bs : List Int} {u : Value} {k x h d c : Int} {m t : ByteArray} (he : pErr bs = 0) (hk : pK bs = k) (hX : pX bs = x) (hh : pH bs = h) (hd : pD bs = d) (hc : pC bs = c) (hm : pMime bs = m) (ht : pText bs = t) (hu : RB w' u (pData bs)) (hb : Below w.heap.size w w') : RefRP w w' bs (.returned (.tuple #[.agg #[.int .i64 k, .int .i64 x, .int .i64 h, .int .i64 d, .int .i64 c], .string m, .string t, u, .int .i64 0])) := by
  subst hk hX hh hd hc hm ht
  unfold RefRP
  rw [he]
  exact ⟨u, rfl, fun _ => hu, hb⟩
/-- The five numbers, as far as they are read. -/
def arrN (bs : List Int) (a : Nat) (k0 : Int) (i : Nat) : Array Value := #[.int .i64 k0, .int .i64 (if 1 ≤ i then high56F bs a else 0), .int .i64 (if 2 ≤ i then high56F bs (a + 4) else 0), .int .i64 (if 3 ≤ i then high56F bs (a + 8) else 0), .int .i64 (if 4 ≤ i then high56F bs (a + 12) else 0)]
theorem arrN_step (bs : List Int) (a : Nat) (k0 : Int) (i : Nat) (hi : i < 4) : (arrN bs a k0 i).setIfInBounds (i + 1) (.int .i64 (high56F bs (a + 4 * i))) = arrN bs a k0 (i + 1) := by
  match i, hi with
  | 0, _ | 1, _ | 2, _ | 3, _ => rfl
theorem arrN_get (bs : List Int) (a : Nat) (k0 : Int) (i : Nat) (hi : i < 4) : (arrN bs a k0 i)[i + 1]? = some (.int .i64 0) := by
  match i, hi with
  | 0, _ | 1, _ | 2, _ | 3, _ => rfl
set_option maxHeartbeats 4000000 in
set_option maxRecDepth 100000 in
theorem ref24 (A : Option Addr) (c : Nat) (bs : List Int) (w : World) (hr : (Kd.int .u8).C w A bs.length bs) (hc : bs.length ≤ c) (hb : ByteL bs) (hsz : bs.length ≤ 1000000) :
    Calls Tryd.prog 24 #[.slice A bs.length c] w fun r W' => RefRP w W' bs r := by
  have HR := Lib.hid hr
  have HBy := Lib.hid hb
  have HHI := Lib.hid (fun (a : Nat) (W : World) (hW : Below w.heap.size w W) (ha : a ≤ 1099511627776) => high56 A c bs a W (Kd.C_below hr hW) hb ha)
  have HMID := Lib.hid (mid_str A c bs w hr hc)
  have HC := Lib.hid hc
  have HB : Hid (Below w.heap.size w ((w.alloc (.cells #[.int .i64 0, .int .i64 0, .int .i64 0, .int .i64 0, .int .i64 0] 47)).alloc (.cells #[.int .i64 0, .int .i64 0, .int .i64 0, .int .i64 0, .int .i64 0] 47))) := Lib.hid (below_alloc (below_alloc (Below.refl _ _) _) _)
  have hn := blk_new (w.alloc (.cells #[.int .i64 0, .int .i64 0, .int .i64 0, .int .i64 0, .int .i64 0] 47)) (.cells #[.int .i64 0, .int .i64 0, .int .i64 0, .int .i64 0, .int .i64 0] 47)
  rw [show (w.alloc (.cells #[.int .i64 0, .int .i64 0, .int .i64 0, .int .i64 0, .int .i64 0] 47)).heap.size = w.heap.size + 1 from by simp] at hn
  have HN := Lib.hid hn
  have HK := Lib.hid (blk_alloc (blk_new w (.cells #[.int .i64 0, .int .i64 0, .int .i64 0, .int .i64 0, .int .i64 0] 47)) (.cells #[.int .i64 0, .int .i64 0, .int .i64 0, .int .i64 0, .int .i64 0] 47))
  clear hr hb hc hn
  go_enter Tryd.func24, Tryd.ntmps24
  go_wp2_with (fail)
  generalize (w.alloc (.cells #[.int .i64 0, .int .i64 0, .int .i64 0, .int .i64 0, .int .i64 0] 47)).alloc (.cells #[.int .i64 0, .int .i64 0, .int .i64 0, .int .i64 0, .int .i64 0] 47) = w0 at *
  go_at_call 56
  refine (HHI.out 0 w0 HB.out (by omega)).mono ?_
  rintro e w9 ⟨rfl, ⟨q, rfl⟩⟩
  replace HB := Lib.hid (pw_below_drewN HB.out q)
  replace HK := Lib.hid (blk_drewN HK.out q)
  replace HN := Lib.hid (blk_drewN HN.out q)
  generalize w0.drewN q = w1 at *
  have c0 := blk_cell HN.out 0
  have f0 := blk_frozen HN.out 0
  simp only [List.getElem?_toArray, List.getElem?_cons_zero, List.getElem?_cons_succ] at c0
  have hz0 : (w.heap.size ≤ w.heap.size + 1) := Nat.le_succ _
  replace HN : Hid ((w1.setCell ⟨w.heap.size + 1, 0, none⟩ (.int .i64 (high56F bs 0))).heap[w.heap.size + 1]? = some (.cells (arrN bs 0 (high56F bs 0) 0) 47 (0, 0))) := Lib.hid (blk_put HN.out 0 _ rfl)
  replace HK := Lib.hid (blk_far HK.out (p := ⟨w.heap.size + 1, 0, none⟩) (by show w.heap.size ≠ w.heap.size + 1; omega) (.int .i64 (high56F bs 0)))
  replace HB := Lib.hid (HB.out.setCell (p := ⟨w.heap.size + 1, 0, none⟩) hz0 (.int .i64 (high56F bs 0)))
  go_wp2_with (fail)
  clear c0 f0 hz0
  generalize w1.setCell ⟨w.heap.size + 1, 0, none⟩ (.int .i64 (high56F bs 0)) = w2 at *
  go_at_call 56
  refine (HHI.out 4 w2 HB.out (by omega)).mono ?_
  rintro e w9 ⟨rfl, ⟨q, rfl⟩⟩
  replace HB := Lib.hid (pw_below_drewN HB.out q)
  replace HK := Lib.hid (blk_drewN HK.out q)
  replace HN := Lib.hid (blk_drewN HN.out q)
  generalize w2.drewN q = w3 at *
  by_cases h8 : bs.length < 8
  · rw [show high56F bs 4 = -1 from if_pos (by omega)]
    have HE := Lib.hid (pErr_short (bs := bs) (.inl h8))
    have z0 := HK.out
    have f0 := blk_frozen z0 0
    have y0 := blk_cell z0 0
    have z1 := blk_put z0 0 (.int .i64 0) (cs' := #[.int .i64 0, .int .i64 0, .int .i64 0, .int .i64 0, .int .i64 0]) rfl
    have f1 := blk_frozen z1 1
    have y1 := blk_cell z1 1
    have z2 := blk_put z1 1 (.int .i64 0) (cs' := #[.int .i64 0, .int .i64 0, .int .i64 0, .int .i64 0, .int .i64 0]) rfl
    have f2 := blk_frozen z2 2
    have y2 := blk_cell z2 2
    have z3 := blk_put z2 2 (.int .i64 0) (cs' := #[.int .i64 0, .int .i64 0, .int .i64 0, .int .i64 0, .int .i64 0]) rfl
    have f3 := blk_frozen z3 3
    have y3 := blk_cell z3 3
    have z4 := blk_put z3 3 (.int .i64 0) (cs' := #[.int .i64 0, .int .i64 0, .int .i64 0, .int .i64 0, .int .i64 0]) rfl
    have f4 := blk_frozen z4 4
    have y4 := blk_cell z4 4
    have z5 := blk_put z4 4 (.int .i64 0) (cs' := #[.int .i64 0, .int .i64 0, .int .i64 0, .int .i64 0, .int .i64 0]) rfl
    have ZB := Lib.hid (((((HB.out.setCell (p := ⟨w.heap.size, 0, none⟩) (Nat.le_refl _) (.int .i64 0)).setCell (p := ⟨w.heap.size, 1, none⟩) (Nat.le_refl _) (.int .i64 0)).setCell (p := ⟨w.heap.size, 2, none⟩) (Nat.le_refl _) (.int .i64 0)).setCell (p := ⟨w.heap.size, 3, none⟩) (Nat.le_refl _) (.int .i64 0)).setCell (p := ⟨w.heap.size, 4, none⟩) (Nat.le_refl _) (.int .i64 0))
    have ZK := Lib.hid z5
    simp only [List.getElem?_toArray, List.getElem?_cons_zero, List.getElem?_cons_succ] at y0 y1 y2 y3 y4
    clear z0 z1 z2 z3 z4 z5
    go_wp2_with (fail)
    try simp only [Exit.noGoto, Exit.inBlock, Exit.then]
    refine bodyPost_ret (results_list (rs := [.cell 2 47, .tmp 3, .tmp 4, .tmp 5, .tmp 6]) rfl (by simp) (.cell _ _ _ _ _ rfl ZK.out Tryd.underlying47 rfl rfl (.tmp (.tmp (.tmp (.tmp .nil)))))) rfl ?_
    exact RefRP.bad HE.out (by decide) ZB.out
  · have hm0 := be4_range (HBy.out.drop 4)
    rw [show high56F bs 4 = be4 (bs.drop 4) from if_neg (by omega)]
    obtain ⟨m, hm⟩ : ∃ m : Nat, be4 (bs.drop 4) = m := ⟨(be4 (bs.drop 4)).toNat, by omega⟩
    have HM := Lib.hid hm
    rw [hm] at hm0 ⊢
    clear hm
    have hm1 : ¬ (m : Int) < 0 := by omega
    by_cases h8m : bs.length < 8 + m
    · have h8z : (8 : Int) + (m : Int) > (bs.length : Int) := by omega
      have HE := Lib.hid (pErr_short (bs := bs) (.inr (by rw [HM.out]; omega)))
      have z0 := HK.out
      have f0 := blk_frozen z0 0
      have y0 := blk_cell z0 0
      have z1 := blk_put z0 0 (.int .i64 0) (cs' := #[.int .i64 0, .int .i64 0, .int .i64 0, .int .i64 0, .int .i64 0]) rfl
      have f1 := blk_frozen z1 1
      have y1 := blk_cell z1 1
      have z2 := blk_put z1 1 (.int .i64 0) (cs' := #[.int .i64 0, .int .i64 0, .int .i64 0, .int .i64 0, .int .i64 0]) rfl
      have f2 := blk_frozen z2 2
      have y2 := blk_cell z2 2
      have z3 := blk_put z2 2 (.int .i64 0) (cs' := #[.int .i64 0, .int .i64 0, .int .i64 0, .int .i64 0, .int .i64 0]) rfl
      have f3 := blk_frozen z3 3
      have y3 := blk_cell z3 3
      have z4 := blk_put z3 3 (.int .i64 0) (cs' := #[.int .i64 0, .int .i64 0, .int .i64 0, .int .i64 0, .int .i64 0]) rfl
      have f4 := blk_frozen z4 4
      have y4 := blk_cell z4 4
      have z5 := blk_put z4 4 (.int .i64 0) (cs' := #[.int .i64 0, .int .i64 0, .int .i64 0, .int .i64 0, .int .i64 0]) rfl
      have ZB := Lib.hid (((((HB.out.setCell (p := ⟨w.heap.size, 0, none⟩) (Nat.le_refl _) (.int .i64 0)).setCell (p := ⟨w.heap.size, 1, none⟩) (Nat.le_refl _) (.int .i64 0)).setCell (p := ⟨w.heap.size, 2, none⟩) (Nat.le_refl _) (.int .i64 0)).setCell (p := ⟨w.heap.size, 3, none⟩) (Nat.le_refl _) (.int .i64 0)).setCell (p := ⟨w.heap.size, 4, none⟩) (Nat.le_refl _) (.int .i64 0))
      have ZK := Lib.hid z5
      simp only [List.getElem?_toArray, List.getElem?_cons_zero, List.getElem?_cons_succ] at y0 y1 y2 y3 y4
      clear z0 z1 z2 z3 z4 z5
      go_wp2_with (fail)
      try simp only [Exit.noGoto, Exit.inBlock, Exit.then]
      refine bodyPost_ret (results_list (rs := [.cell 2 47, .tmp 3, .tmp 4, .tmp 5, .tmp 6]) rfl (by simp) (.cell _ _ _ _ _ rfl ZK.out Tryd.underlying47 rfl rfl (.tmp (.tmp (.tmp (.tmp .nil)))))) rfl ?_
      exact RefRP.bad HE.out (by decide) ZB.out
    · have h8z : ¬ (8 : Int) + (m : Int) > (bs.length : Int) := by omega
      have HS2 := Lib.hid (st2_ok (bs := bs) (m := m) (by omega) HM.out)
      go_wp2_with (fail)
      rw [show (8 : Int) + (m : Int) = ((8 + m : Nat) : Int) by omega]
      obtain ⟨A1, hsl1, hcv1⟩ := HMID.out 8 m 8 (8 + m) rfl rfl (by omega)
      have HSL1 := Lib.hid hsl1
      have HCV1 := Lib.hid hcv1
      generalize hma : 8 + m = a2 at *
      have HMA := Lib.hid hma
      clear hsl1 hcv1 hma h8z hm1
      go_at_call 56
      refine (HHI.out a2 w3 HB.out (by omega)).mono ?_
      rintro e w9 ⟨rfl, ⟨q, rfl⟩⟩
      replace HB := Lib.hid (pw_below_drewN HB.out q)
      replace HK := Lib.hid (blk_drewN HK.out q)
      replace HN := Lib.hid (blk_drewN HN.out q)
      generalize w3.drewN q = w4 at *
      by_cases h2 : bs.length < a2 + 4
      · rw [show high56F bs a2 = -1 from if_pos h2]
        have HE := Lib.hid (st3_bad HS2.out.1 (.inl h2))
        have z0 := HK.out
        have f0 := blk_frozen z0 0
        have y0 := blk_cell z0 0
        have z1 := blk_put z0 0 (.int .i64 0) (cs' := #[.int .i64 0, .int .i64 0, .int .i64 0, .int .i64 0, .int .i64 0]) rfl
        have f1 := blk_frozen z1 1
        have y1 := blk_cell z1 1
        have z2 := blk_put z1 1 (.int .i64 0) (cs' := #[.int .i64 0, .int .i64 0, .int .i64 0, .int .i64 0, .int .i64 0]) rfl
        have f2 := blk_frozen z2 2
        have y2 := blk_cell z2 2
        have z3 := blk_put z2 2 (.int .i64 0) (cs' := #[.int .i64 0, .int .i64 0, .int .i64 0, .int .i64 0, .int .i64 0]) rfl
        have f3 := blk_frozen z3 3
        have y3 := blk_cell z3 3
        have z4 := blk_put z3 3 (.int .i64 0) (cs' := #[.int .i64 0, .int .i64 0, .int .i64 0, .int .i64 0, .int .i64 0]) rfl
        have f4 := blk_frozen z4 4
        have y4 := blk_cell z4 4
        have z5 := blk_put z4 4 (.int .i64 0) (cs' := #[.int .i64 0, .int .i64 0, .int .i64 0, .int .i64 0, .int .i64 0]) rfl
        have ZB := Lib.hid (((((HB.out.setCell (p := ⟨w.heap.size, 0, none⟩) (Nat.le_refl _) (.int .i64 0)).setCell (p := ⟨w.heap.size, 1, none⟩) (Nat.le_refl _) (.int .i64 0)).setCell (p := ⟨w.heap.size, 2, none⟩) (Nat.le_refl _) (.int .i64 0)).setCell (p := ⟨w.heap.size, 3, none⟩) (Nat.le_refl _) (.int .i64 0)).setCell (p := ⟨w.heap.size, 4, none⟩) (Nat.le_refl _) (.int .i64 0))
        have ZK := Lib.hid z5
        simp only [List.getElem?_toArray, List.getElem?_cons_zero, List.getElem?_cons_succ] at y0 y1 y2 y3 y4
        clear z0 z1 z2 z3 z4 z5
        go_wp2_with (fail)
        try simp only [Exit.noGoto, Exit.inBlock, Exit.then]
        refine bodyPost_ret (results_list (rs := [.cell 2 47, .tmp 3, .tmp 4, .tmp 5, .tmp 6]) rfl (by simp) (.cell _ _ _ _ _ rfl ZK.out Tryd.underlying47 rfl rfl (.tmp (.tmp (.tmp (.tmp .nil)))))) rfl ?_
        exact RefRP.bad HE.out (by decide) ZB.out
      · have ht0 := be4_range (HBy.out.drop a2)
        rw [show high56F bs a2 = be4 (bs.drop a2) from if_neg h2]
        obtain ⟨t, ht⟩ : ∃ t : Nat, be4 (bs.drop a2) = t := ⟨(be4 (bs.drop a2)).toNat, by omega⟩
        have HT := Lib.hid ht
        rw [ht] at ht0 ⊢
        clear ht
        have ht1 : ¬ (t : Int) < 0 := by omega
        by_cases h2t : bs.length < a2 + 4 + t
        · have h2z : (a2 : Int) + 4 + (t : Int) > (bs.length : Int) := by omega
          have HE := Lib.hid (st3_bad HS2.out.1 (.inr (by rw [HT.out]; omega)))
          have z0 := HK.out
          have f0 := blk_frozen z0 0
          have y0 := blk_cell z0 0
          have z1 := blk_put z0 0 (.int .i64 0) (cs' := #[.int .i64 0, .int .i64 0, .int .i64 0, .int .i64 0, .int .i64 0]) rfl
          have f1 := blk_frozen z1 1
          have y1 := blk_cell z1 1
          have z2 := blk_put z1 1 (.int .i64 0) (cs' := #[.int .i64 0, .int .i64 0, .int .i64 0, .int .i64 0, .int .i64 0]) rfl
          have f2 := blk_frozen z2 2
          have y2 := blk_cell z2 2
          have z3 := blk_put z2 2 (.int .i64 0) (cs' := #[.int .i64 0, .int .i64 0, .int .i64 0, .int .i64 0, .int .i64 0]) rfl
          have f3 := blk_frozen z3 3
          have y3 := blk_cell z3 3
          have z4 := blk_put z3 3 (.int .i64 0) (cs' := #[.int .i64 0, .int .i64 0, .int .i64 0, .int .i64 0, .int .i64 0]) rfl
          have f4 := blk_frozen z4 4
          have y4 := blk_cell z4 4
          have z5 := blk_put z4 4 (.int .i64 0) (cs' := #[.int .i64 0, .int .i64 0, .int .i64 0, .int .i64 0, .int .i64 0]) rfl
          have ZB := Lib.hid (((((HB.out.setCell (p := ⟨w.heap.size, 0, none⟩) (Nat.le_refl _) (.int .i64 0)).setCell (p := ⟨w.heap.size, 1, none⟩) (Nat.le_refl _) (.int .i64 0)).setCell (p := ⟨w.heap.size, 2, none⟩) (Nat.le_refl _) (.int .i64 0)).setCell (p := ⟨w.heap.size, 3, none⟩) (Nat.le_refl _) (.int .i64 0)).setCell (p := ⟨w.heap.size, 4, none⟩) (Nat.le_refl _) (.int .i64 0))
          have ZK := Lib.hid z5
          simp only [List.getElem?_toArray, List.getElem?_cons_zero, List.getElem?_cons_succ] at y0 y1 y2 y3 y4
          clear z0 z1 z2 z3 z4 z5
          go_wp2_with (fail)
          try simp only [Exit.noGoto, Exit.inBlock, Exit.then]
          refine bodyPost_ret (results_list (rs := [.cell 2 47, .tmp 3, .tmp 4, .tmp 5, .tmp 6]) rfl (by simp) (.cell _ _ _ _ _ rfl ZK.out Tryd.underlying47 rfl rfl (.tmp (.tmp (.tmp (.tmp .nil)))))) rfl ?_
          exact RefRP.bad HE.out (by decide) ZB.out
        · have h2z : ¬ (a2 : Int) + 4 + (t : Int) > (bs.length : Int) := by omega
          have HS3 := Lib.hid (st3_ok HS2.out.1 (t := t) (by omega) HT.out)
          obtain ⟨A2, hsl2, hcv2⟩ := HMID.out (a2 + 4) t ((a2 : Int) + 4) ((a2 : Int) + 4 + (t : Int)) (by omega) (by omega) (by omega)
          have hsl1 := HSL1.out w4
          have hcv1 := HCV1.out w4 HB.out
          have hs2w := hsl2 w4
          have hc2w := hcv2 w4 HB.out
          clear hsl2 hcv2
          have hsm : (strOfNums ((bs.drop 8).take m)).size ≤ 1000000 := by rw [strOfNums_size]; simp only [List.length_take, List.length_drop]; omega
          have hst : (strOfNums ((bs.drop (a2 + 4)).take t)).size ≤ 1000000 := by rw [strOfNums_size]; simp only [List.length_take, List.length_drop]; omega
          generalize strOfNums ((bs.drop 8).take m) = sm at *
          generalize strOfNums ((bs.drop (a2 + 4)).take t) = st at *
          go_wp2_with (fail)
          clear hsl1 hcv1 hs2w hc2w HSL1 HCV1 h2z
          rw [show (a2 : Int) + 4 + (t : Int) = ((a2 + 4 + t : Nat) : Int) by omega]
          have hal : a2 + 4 + t ≤ bs.length := by omega
          generalize a2 + 4 + t = a at *
          have e1 : decide ((m : Int) < 0) = false := decide_eq_false (by omega)
          have e2 : decide ((t : Int) < 0) = false := decide_eq_false (by omega)
          have e3 : decide ((bs.length : Int) < (a : Int)) = false := decide_eq_false (by omega)
          simp only [e1, e2, e3, Bool.or_false]
          clear e1 e2 e3
          go_loopg [9, 13] 4 (fun gg s9 s13 wr => ∃ kk : Nat, kk ≤ 4 ∧ 4 - kk ≤ gg ∧ s9 = .int .i64 ((a : Int) + 4 * (kk : Int)) ∧ s13 = .int .i64 ((kk : Int) + 1) ∧ Hid (Below w.heap.size w wr) ∧ Hid (wr.heap[w.heap.size]? = some (.cells #[.int .i64 0, .int .i64 0, .int .i64 0, .int .i64 0, .int .i64 0] 47 (0, 0))) ∧ Hid (wr.heap[w.heap.size + 1]? = some (.cells (arrN bs a (high56F bs 0) kk) 47 (0, 0))))
          case atStart => exact ⟨0, by omega, by omega, by go_num, rfl, HB, HK, HN⟩
          case round =>
            clear HB HK HN
            obtain ⟨kk, hkk, hgg, rfl, rfl, HB, HK, HN⟩ := hrel
            by_cases hlt : kk < 4
            · have hltz : (kk : Int) + 1 < 5 := by omega
              go_wp2_with (fail)
              go_at_call 56
              rw [show (a : Int) + 4 * (kk : Int) = ((a + 4 * kk : Nat) : Int) by omega]
              refine (HHI.out (a + 4 * kk) wr HB.out (by omega)).mono ?_
              rintro e w9 ⟨rfl, ⟨q, rfl⟩⟩
              replace HB := Lib.hid (pw_below_drewN HB.out q)
              replace HK := Lib.hid (blk_drewN HK.out q)
              replace HN := Lib.hid (blk_drewN HN.out q)
              generalize wr.drewN q = w5 at *
              have c0 := blk_cell HN.out (kk + 1)
              rw [arrN_get bs a (high56F bs 0) kk hlt] at c0
              have f0 := blk_frozen HN.out (kk + 1)
              have hz0 : w.heap.size ≤ w.heap.size + 1 := Nat.le_succ _
              replace HN : Hid ((w5.setCell ⟨w.heap.size + 1, kk + 1, none⟩ (.int .i64 (high56F bs (a + 4 * kk)))).heap[w.heap.size + 1]? = some (.cells (arrN bs a (high56F bs 0) (kk + 1)) 47 (0, 0))) := Lib.hid (blk_put HN.out (kk + 1) _ (arrN_step bs a (high56F bs 0) kk hlt))
              replace HK := Lib.hid (blk_far HK.out (p := ⟨w.heap.size + 1, kk + 1, none⟩) (by show w.heap.size ≠ w.heap.size + 1; omega) (.int .i64 (high56F bs (a + 4 * kk))))
              replace HB := Lib.hid (HB.out.setCell (p := ⟨w.heap.size + 1, kk + 1, none⟩) hz0 (.int .i64 (high56F bs (a + 4 * kk))))
              go_wp2_with (fail)
              clear c0 f0 hz0
              go_roundg (4 - (kk + 1))
              case measure => omega
              case rel => exact ⟨kk + 1, by omega, by omega, by go_num, by go_num, HB, HK, HN⟩
            · have hltz : ¬ (kk : Int) + 1 < 5 := by omega
              obtain rfl : kk = 4 := by omega
              clear hlt hltz hkk hgg
              go_wp2_with (fail)
              rw [show (a : Int) + 16 = ((a + 16 : Nat) : Int) by omega]
              have HEB := Lib.hid (end_bad (bs := bs) (a := a) HS3.out.1)
              go_at_call 56
              refine (HHI.out (a + 16) wr HB.out (by omega)).mono ?_
              rintro e w9 ⟨rfl, ⟨q, rfl⟩⟩
              replace HB := Lib.hid (pw_below_drewN HB.out q)
              replace HK := Lib.hid (blk_drewN HK.out q)
              replace HN := Lib.hid (blk_drewN HN.out q)
              generalize wr.drewN q = w6 at *
              by_cases h5 : bs.length < a + 20
              · rw [show high56F bs (a + 16) = -1 from if_pos h5]
                have HE := Lib.hid (HEB.out (.inl h5))
                have z0 := HK.out
                have f0 := blk_frozen z0 0
                have y0 := blk_cell z0 0
                have z1 := blk_put z0 0 (.int .i64 0) (cs' := #[.int .i64 0, .int .i64 0, .int .i64 0, .int .i64 0, .int .i64 0]) rfl
                have f1 := blk_frozen z1 1
                have y1 := blk_cell z1 1
                have z2 := blk_put z1 1 (.int .i64 0) (cs' := #[.int .i64 0, .int .i64 0, .int .i64 0, .int .i64 0, .int .i64 0]) rfl
                have f2 := blk_frozen z2 2
                have y2 := blk_cell z2 2
                have z3 := blk_put z2 2 (.int .i64 0) (cs' := #[.int .i64 0, .int .i64 0, .int .i64 0, .int .i64 0, .int .i64 0]) rfl
                have f3 := blk_frozen z3 3
                have y3 := blk_cell z3 3
                have z4 := blk_put z3 3 (.int .i64 0) (cs' := #[.int .i64 0, .int .i64 0, .int .i64 0, .int .i64 0, .int .i64 0]) rfl
                have f4 := blk_frozen z4 4
                have y4 := blk_cell z4 4
                have z5 := blk_put z4 4 (.int .i64 0) (cs' := #[.int .i64 0, .int .i64 0, .int .i64 0, .int .i64 0, .int .i64 0]) rfl
                have ZB := Lib.hid (((((HB.out.setCell (p := ⟨w.heap.size, 0, none⟩) (Nat.le_refl _) (.int .i64 0)).setCell (p := ⟨w.heap.size, 1, none⟩) (Nat.le_refl _) (.int .i64 0)).setCell (p := ⟨w.heap.size, 2, none⟩) (Nat.le_refl _) (.int .i64 0)).setCell (p := ⟨w.heap.size, 3, none⟩) (Nat.le_refl _) (.int .i64 0)).setCell (p := ⟨w.heap.size, 4, none⟩) (Nat.le_refl _) (.int .i64 0))
                have ZK := Lib.hid z5
                simp only [List.getElem?_toArray, List.getElem?_cons_zero, List.getElem?_cons_succ] at y0 y1 y2 y3 y4
                clear z0 z1 z2 z3 z4 z5
                go_wp2_with (fail)
                try simp only [Exit.noGoto, Exit.inBlock, Exit.then]
                refine bodyPost_ret (results_list (rs := [.cell 2 47, .tmp 3, .tmp 4, .tmp 5, .tmp 6]) rfl (by simp) (.cell _ _ _ _ _ rfl ZK.out Tryd.underlying47 rfl rfl (.tmp (.tmp (.tmp (.tmp .nil)))))) rfl ?_
                exact RefRP.bad HE.out (by decide) ZB.out
              · have hd0 := be4_range (HBy.out.drop (a + 16))
                rw [show high56F bs (a + 16) = be4 (bs.drop (a + 16)) from if_neg h5]
                obtain ⟨d, hd⟩ : ∃ d : Nat, be4 (bs.drop (a + 16)) = d := ⟨(be4 (bs.drop (a + 16))).toNat, by omega⟩
                have HD := Lib.hid hd
                rw [hd] at hd0 ⊢
                clear hd
                have hd1 : ¬ (d : Int) < 0 := by omega
                by_cases h5d : bs.length < a + 20 + d
                · have h5z : (a : Int) + 20 + (d : Int) > (bs.length : Int) := by omega
                  have HE := Lib.hid (HEB.out (.inr (by rw [HD.out]; omega)))
                  have z0 := HK.out
                  have f0 := blk_frozen z0 0
                  have y0 := blk_cell z0 0
                  have z1 := blk_put z0 0 (.int .i64 0) (cs' := #[.int .i64 0, .int .i64 0, .int .i64 0, .int .i64 0, .int .i64 0]) rfl
                  have f1 := blk_frozen z1 1
                  have y1 := blk_cell z1 1
                  have z2 := blk_put z1 1 (.int .i64 0) (cs' := #[.int .i64 0, .int .i64 0, .int .i64 0, .int .i64 0, .int .i64 0]) rfl
                  have f2 := blk_frozen z2 2
                  have y2 := blk_cell z2 2
                  have z3 := blk_put z2 2 (.int .i64 0) (cs' := #[.int .i64 0, .int .i64 0, .int .i64 0, .int .i64 0, .int .i64 0]) rfl
                  have f3 := blk_frozen z3 3
                  have y3 := blk_cell z3 3
                  have z4 := blk_put z3 3 (.int .i64 0) (cs' := #[.int .i64 0, .int .i64 0, .int .i64 0, .int .i64 0, .int .i64 0]) rfl
                  have f4 := blk_frozen z4 4
                  have y4 := blk_cell z4 4
                  have z5 := blk_put z4 4 (.int .i64 0) (cs' := #[.int .i64 0, .int .i64 0, .int .i64 0, .int .i64 0, .int .i64 0]) rfl
                  have ZB := Lib.hid (((((HB.out.setCell (p := ⟨w.heap.size, 0, none⟩) (Nat.le_refl _) (.int .i64 0)).setCell (p := ⟨w.heap.size, 1, none⟩) (Nat.le_refl _) (.int .i64 0)).setCell (p := ⟨w.heap.size, 2, none⟩) (Nat.le_refl _) (.int .i64 0)).setCell (p := ⟨w.heap.size, 3, none⟩) (Nat.le_refl _) (.int .i64 0)).setCell (p := ⟨w.heap.size, 4, none⟩) (Nat.le_refl _) (.int .i64 0))
                  have ZK := Lib.hid z5
                  simp only [List.getElem?_toArray, List.getElem?_cons_zero, List.getElem?_cons_succ] at y0 y1 y2 y3 y4
                  clear z0 z1 z2 z3 z4 z5
                  go_wp2_with (fail)
                  try simp only [Exit.noGoto, Exit.inBlock, Exit.then]
                  refine bodyPost_ret (results_list (rs := [.cell 2 47, .tmp 3, .tmp 4, .tmp 5, .tmp 6]) rfl (by simp) (.cell _ _ _ _ _ rfl ZK.out Tryd.underlying47 rfl rfl (.tmp (.tmp (.tmp (.tmp .nil)))))) rfl ?_
                  exact RefRP.bad HE.out (by decide) ZB.out
                · have h5z : ¬ (a : Int) + 20 + (d : Int) > (bs.length : Int) := by omega
                  by_cases h5e : a + 20 + d < bs.length
                  · have h5y : (a : Int) + 20 + (d : Int) < (bs.length : Int) := by omega
                    have HE := Lib.hid (end_form HS3.out.1 h5e HD.out)
                    have z0 := HK.out
                    have f0 := blk_frozen z0 0
                    have y0 := blk_cell z0 0
                    have z1 := blk_put z0 0 (.int .i64 0) (cs' := #[.int .i64 0, .int .i64 0, .int .i64 0, .int .i64 0, .int .i64 0]) rfl
                    have f1 := blk_frozen z1 1
                    have y1 := blk_cell z1 1
                    have z2 := blk_put z1 1 (.int .i64 0) (cs' := #[.int .i64 0, .int .i64 0, .int .i64 0, .int .i64 0, .int .i64 0]) rfl
                    have f2 := blk_frozen z2 2
                    have y2 := blk_cell z2 2
                    have z3 := blk_put z2 2 (.int .i64 0) (cs' := #[.int .i64 0, .int .i64 0, .int .i64 0, .int .i64 0, .int .i64 0]) rfl
                    have f3 := blk_frozen z3 3
                    have y3 := blk_cell z3 3
                    have z4 := blk_put z3 3 (.int .i64 0) (cs' := #[.int .i64 0, .int .i64 0, .int .i64 0, .int .i64 0, .int .i64 0]) rfl
                    have f4 := blk_frozen z4 4
                    have y4 := blk_cell z4 4
                    have z5 := blk_put z4 4 (.int .i64 0) (cs' := #[.int .i64 0, .int .i64 0, .int .i64 0, .int .i64 0, .int .i64 0]) rfl
                    have ZB := Lib.hid (((((HB.out.setCell (p := ⟨w.heap.size, 0, none⟩) (Nat.le_refl _) (.int .i64 0)).setCell (p := ⟨w.heap.size, 1, none⟩) (Nat.le_refl _) (.int .i64 0)).setCell (p := ⟨w.heap.size, 2, none⟩) (Nat.le_refl _) (.int .i64 0)).setCell (p := ⟨w.heap.size, 3, none⟩) (Nat.le_refl _) (.int .i64 0)).setCell (p := ⟨w.heap.size, 4, none⟩) (Nat.le_refl _) (.int .i64 0))
                    have ZK := Lib.hid z5
                    simp only [List.getElem?_toArray, List.getElem?_cons_zero, List.getElem?_cons_succ] at y0 y1 y2 y3 y4
                    clear z0 z1 z2 z3 z4 z5
                    go_wp2_with (fail)
                    try simp only [Exit.noGoto, Exit.inBlock, Exit.then]
                    refine bodyPost_ret (results_list (rs := [.cell 2 47, .tmp 3, .tmp 4, .tmp 5, .tmp 6]) rfl (by simp) (.cell _ _ _ _ _ rfl ZK.out Tryd.underlying47 rfl rfl (.tmp (.tmp (.tmp (.tmp .nil)))))) rfl ?_
                    exact RefRP.bad HE.out (by decide) ZB.out
                  · have h5y : ¬ (a : Int) + 20 + (d : Int) < (bs.length : Int) := by omega
                    have HP := Lib.hid (end_pic HS3.out.1 (show a + 20 + d = bs.length by omega) HD.out)
                    have HQ := Lib.hid (st_end HS3.out.1 (by omega)).2
                    have hk0 := blk_cell HN.out 0
                    have hk1 := blk_cell HN.out 1
                    have hk2 := blk_cell HN.out 2
                    have hk3 := blk_cell HN.out 3
                    have hk4 := blk_cell HN.out 4
                    replace hk0 := hk0.trans (show _ = some (.int .i64 (high56F bs 0)) from rfl)
                    replace hk1 := hk1.trans (show _ = some (.int .i64 (high56F bs a)) from rfl)
                    replace hk2 := hk2.trans (show _ = some (.int .i64 (high56F bs (a + 4))) from rfl)
                    replace hk3 := hk3.trans (show _ = some (.int .i64 (high56F bs (a + 8))) from rfl)
                    replace hk4 := hk4.trans (show _ = some (.int .i64 (high56F bs (a + 12))) from rfl)
                    go_wp2_with (fail)
                    refine (ref22 _ _ _ _ _ sm st none 0 [] w6 (C_nil8 _) (Nat.le_refl _) (by simp only [List.length_nil]; omega)).mono ?_
                    rintro e w7 hrp
                    obtain ⟨u, rfl, -, hb7⟩ := hrp
                    have hp1 := HP.out.1
                    rw [HS2.out.2.2, HS2.out.2.1, HS3.out.2, HQ.out.1, HQ.out.2.1, HQ.out.2.2.1, HQ.out.2.2.2] at hp1
                    obtain ⟨ee, hee⟩ : ∃ ee : Int, picErr (high56F bs 0) sm st (high56F bs a) (high56F bs (a + 4)) (high56F bs (a + 8)) (high56F bs (a + 12)) = ee := ⟨_, rfl⟩
                    rw [hee] at hp1 ⊢
                    have HE := Lib.hid hp1
                    clear hk0 hk1 hk2 hk3 hk4 hp1 hee
                    replace HK := Lib.hid (blk_below HK.out hb7)
                    replace HN := Lib.hid (blk_below HN.out hb7)
                    replace HB := Lib.hid (HB.out.trans (hb7.mono HB.out.size))
                    clear hb7
                    by_cases he0 : ee = 0
                    case neg =>
                      have he1 : (ee != 0) = true := by simpa using he0
                      have z0 := HK.out
                      have f0 := blk_frozen z0 0
                      have y0 := blk_cell z0 0
                      have z1 := blk_put z0 0 (.int .i64 0) (cs' := #[.int .i64 0, .int .i64 0, .int .i64 0, .int .i64 0, .int .i64 0]) rfl
                      have f1 := blk_frozen z1 1
                      have y1 := blk_cell z1 1
                      have z2 := blk_put z1 1 (.int .i64 0) (cs' := #[.int .i64 0, .int .i64 0, .int .i64 0, .int .i64 0, .int .i64 0]) rfl
                      have f2 := blk_frozen z2 2
                      have y2 := blk_cell z2 2
                      have z3 := blk_put z2 2 (.int .i64 0) (cs' := #[.int .i64 0, .int .i64 0, .int .i64 0, .int .i64 0, .int .i64 0]) rfl
                      have f3 := blk_frozen z3 3
                      have y3 := blk_cell z3 3
                      have z4 := blk_put z3 3 (.int .i64 0) (cs' := #[.int .i64 0, .int .i64 0, .int .i64 0, .int .i64 0, .int .i64 0]) rfl
                      have f4 := blk_frozen z4 4
                      have y4 := blk_cell z4 4
                      have z5 := blk_put z4 4 (.int .i64 0) (cs' := #[.int .i64 0, .int .i64 0, .int .i64 0, .int .i64 0, .int .i64 0]) rfl
                      have ZB := Lib.hid (((((HB.out.setCell (p := ⟨w.heap.size, 0, none⟩) (Nat.le_refl _) (.int .i64 0)).setCell (p := ⟨w.heap.size, 1, none⟩) (Nat.le_refl _) (.int .i64 0)).setCell (p := ⟨w.heap.size, 2, none⟩) (Nat.le_refl _) (.int .i64 0)).setCell (p := ⟨w.heap.size, 3, none⟩) (Nat.le_refl _) (.int .i64 0)).setCell (p := ⟨w.heap.size, 4, none⟩) (Nat.le_refl _) (.int .i64 0))
                      have ZK := Lib.hid z5
                      simp only [List.getElem?_toArray, List.getElem?_cons_zero, List.getElem?_cons_succ] at y0 y1 y2 y3 y4
                      clear z0 z1 z2 z3 z4 z5
                      go_wp2_with (fail)
                      try simp only [Exit.noGoto, Exit.inBlock, Exit.then]
                      refine bodyPost_ret (results_list (rs := [.cell 2 47, .tmp 3, .tmp 4, .tmp 5, .tmp 6]) rfl (by simp) (.cell _ _ _ _ _ rfl ZK.out Tryd.underlying47 rfl rfl (.tmp (.tmp (.tmp (.tmp .nil)))))) rfl ?_
                      exact RefRP.bad HE.out he0 ZB.out
                    case pos =>
                      subst he0
                      have hk0 := (blk_cell HN.out 0).trans (show _ = some (.int .i64 (high56F bs 0)) from rfl)
                      have hk1 := (blk_cell HN.out 1).trans (show _ = some (.int .i64 (high56F bs a)) from rfl)
                      have hk2 := (blk_cell HN.out 2).trans (show _ = some (.int .i64 (high56F bs (a + 4))) from rfl)
                      have hk3 := (blk_cell HN.out 3).trans (show _ = some (.int .i64 (high56F bs (a + 8))) from rfl)
                      have hk4 := (blk_cell HN.out 4).trans (show _ = some (.int .i64 (high56F bs (a + 12))) from rfl)
                      have z0 := HK.out
                      have f0 := blk_frozen z0 0
                      have y0 := blk_cell z0 0
                      have z1 := blk_put z0 0 (.int .i64 (high56F bs 0)) (cs' := #[.int .i64 (high56F bs 0), .int .i64 0, .int .i64 0, .int .i64 0, .int .i64 0]) rfl
                      have f1 := blk_frozen z1 1
                      have y1 := blk_cell z1 1
                      have z2 := blk_put z1 1 (.int .i64 (high56F bs a)) (cs' := #[.int .i64 (high56F bs 0), .int .i64 (high56F bs a), .int .i64 0, .int .i64 0, .int .i64 0]) rfl
                      have f2 := blk_frozen z2 2
                      have y2 := blk_cell z2 2
                      have z3 := blk_put z2 2 (.int .i64 (high56F bs (a + 4))) (cs' := #[.int .i64 (high56F bs 0), .int .i64 (high56F bs a), .int .i64 (high56F bs (a + 4)), .int .i64 0, .int .i64 0]) rfl
                      have f3 := blk_frozen z3 3
                      have y3 := blk_cell z3 3
                      have z4 := blk_put z3 3 (.int .i64 (high56F bs (a + 8))) (cs' := #[.int .i64 (high56F bs 0), .int .i64 (high56F bs a), .int .i64 (high56F bs (a + 4)), .int .i64 (high56F bs (a + 8)), .int .i64 0]) rfl
                      have f4 := blk_frozen z4 4
                      have y4 := blk_cell z4 4
                      have z5 := blk_put z4 4 (.int .i64 (high56F bs (a + 12))) (cs' := #[.int .i64 (high56F bs 0), .int .i64 (high56F bs a), .int .i64 (high56F bs (a + 4)), .int .i64 (high56F bs (a + 8)), .int .i64 (high56F bs (a + 12))]) rfl
                      have ZB := Lib.hid (((((HB.out.setCell (p := ⟨w.heap.size, 0, none⟩) (Nat.le_refl _) (.int .i64 (high56F bs 0))).setCell (p := ⟨w.heap.size, 1, none⟩) (Nat.le_refl _) (.int .i64 (high56F bs a))).setCell (p := ⟨w.heap.size, 2, none⟩) (Nat.le_refl _) (.int .i64 (high56F bs (a + 4)))).setCell (p := ⟨w.heap.size, 3, none⟩) (Nat.le_refl _) (.int .i64 (high56F bs (a + 8)))).setCell (p := ⟨w.heap.size, 4, none⟩) (Nat.le_refl _) (.int .i64 (high56F bs (a + 12))))
                      have ZK := Lib.hid z5
                      simp only [List.getElem?_toArray, List.getElem?_cons_zero, List.getElem?_cons_succ] at y0 y1 y2 y3 y4
                      clear z0 z1 z2 z3 z4 z5
                      have hcc := HC.out
                      go_wp2_with (fail)
                      have hD := Kd.C_drop HR.out (show a + 20 ≤ bs.length by omega) HC.out
                      have hlD : (bs.drop (a + 20)).length = bs.length - (a + 20) := by simp
                      rw [hlD] at hD
                      have HD2 := Lib.hid hD
                      have HLD := Lib.hid hlD
                      clear hD hlD
                      by_cases hca : c = a + 20
                      · have HCA := Lib.hid hca
                        subst hca
                        go_region
                        go_wp2_with (fail)
                        try simp only [Exit.noGoto, Exit.inBlock, Exit.then]
                        refine bodyPost_ret (results_list (rs := [.cell 2 47, .tmp 3, .tmp 4, .tmp 5, .tmp 6]) rfl (by simp) (.cell _ _ _ _ _ rfl (blk_drew ZK.out) Tryd.underlying47 rfl rfl (.tmp (.tmp (.tmp (.tmp .nil)))))) rfl ?_
                        refine RefRP.ok HE.out HS2.out.2.2 HQ.out.1 HQ.out.2.1 HQ.out.2.2.1 HQ.out.2.2.2 HS2.out.2.1 HS3.out.2 ?_ ZB.out.drew
                        rw [HP.out.2]
                        have h := Kd.C_below HD2.out ZB.out.drew
                        simp only [if_true] at h
                        refine ⟨A, 0, ?_, ?_, ?_⟩
                        · rw [HLD.out, show bs.length - (a + 20) = 0 from by have := HC.out; omega]; rfl
                        · rw [HLD.out]; have := HC.out; omega
                        · rw [HLD.out]; exact h
                      · have HCA := Lib.hid hca
                        go_region
                        go_wp2_with (fail)
                        try simp only [Exit.noGoto, Exit.inBlock, Exit.then]
                        refine bodyPost_ret (results_list (rs := [.cell 2 47, .tmp 3, .tmp 4, .tmp 5, .tmp 6]) rfl (by simp) (.cell _ _ _ _ _ rfl (blk_drew ZK.out) Tryd.underlying47 rfl rfl (.tmp (.tmp (.tmp (.tmp .nil)))))) rfl ?_
                        refine RefRP.ok HE.out HS2.out.2.2 HQ.out.1 HQ.out.2.1 HQ.out.2.2.1 HQ.out.2.2.2 HS2.out.2.1 HS3.out.2 ?_ ZB.out.drew
                        rw [HP.out.2]
                        have h := Kd.C_below HD2.out ZB.out.drew
                        rw [if_neg HCA.out, show (a + 20) * (Kd.int .u8).sz = a + 20 from Nat.mul_one _] at h
                        refine ⟨Option.map (fun x => x.add (a + 20)) A, c - (a + 20), ?_, ?_, ?_⟩
                        · rw [HLD.out]; rfl
                        · rw [HLD.out]; have := HC.out; omega
                        · rw [HLD.out]; exact h
end Go.Proofs.YtbjdipbhclihfaaDoor
