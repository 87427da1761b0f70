import Derived.Test.YtbjdipbhclihfaaDoorE2
set_option linter.unusedVariables false
set_option linter.unusedSimpArgs false
namespace Go.Proofs.YtbjdipbhclihfaaDoor
open Go.RowKit Go.Proofs Go.Proofs.YtbjdipbhclihfaaDoorW.PrintWords Plain
/-- Four bytes as a number, the highest first. -/
def be4 (bs : List Int) : Int := 16777216 * rd bs 0 + 65536 * rd bs 1 + 256 * rd bs 2 + rd bs 3
theorem be4_range {bs : List Int} (h : ByteL bs) : 0 ≤ be4 bs ∧ be4 bs ≤ 4294967295 := by
  have h0 := h.rd 0
  have h1 := h.rd 1
  have h2 := h.rd 2
  have h3 := h.rd 3
  unfold be4
  omega
/-- The first k of four bytes as a number. -/
def partB (bs : List Int) : Nat → Int
  | 0 => 0
  | 1 => rd bs 0
  | 2 => 256 * rd bs 0 + rd bs 1
  | 3 => 65536 * rd bs 0 + 256 * rd bs 1 + rd bs 2
  | _ => be4 bs
theorem orHi (i : Nat) (x y : Int) (hx0 : 0 ≤ x) (hx : x % 2 ^ i = 0) (hx1 : x < 2 ^ 63) (hy0 : 0 ≤ y) (hy : y < 2 ^ i) (hy1 : y < 2 ^ 63) : bits .or .i64 x y = x + y :=
  bits_join .i64 63 (by decide) (fun n h0 h1 => by rw [IntKind.wrap_i64]; omega) i x y hx0 hx hx1 hy0 hy hy1
theorem partB_step (bs : List Int) (hb : ByteL bs) (kk : Nat) (hk : kk < 4) : bits .or .i64 (wrap64 (partB bs kk * 256)) (rd bs kk) = partB bs (kk + 1) := by
  have k0 := hb.rd 0
  have k1 := hb.rd 1
  have k2 := hb.rd 2
  have k3 := hb.rd 3
  match kk, hk with
  | 0, _ =>
    show bits .or .i64 (wrap64 (0 * 256)) (rd bs 0) = rd bs 0
    generalize rd bs 0 = x0 at *
    rw [IntWalk.wrap64_in _ (by omega), orHi 8 _ x0 (by omega) (by decide) (by omega) (by omega) (by omega) (by omega)]
    omega
  | 1, _ =>
    show bits .or .i64 (wrap64 (rd bs 0 * 256)) (rd bs 1) = 256 * rd bs 0 + rd bs 1
    generalize rd bs 0 = x0 at *
    generalize rd bs 1 = x1 at *
    rw [IntWalk.wrap64_in _ (by omega), orHi 8 _ x1 (by omega) (by omega) (by omega) (by omega) (by omega) (by omega)]
    omega
  | 2, _ =>
    show bits .or .i64 (wrap64 ((256 * rd bs 0 + rd bs 1) * 256)) (rd bs 2) = 65536 * rd bs 0 + 256 * rd bs 1 + rd bs 2
    generalize rd bs 0 = x0 at *
    generalize rd bs 1 = x1 at *
    generalize rd bs 2 = x2 at *
    rw [IntWalk.wrap64_in _ (by omega), orHi 8 _ x2 (by omega) (by omega) (by omega) (by omega) (by omega) (by omega)]
    omega
  | 3, _ =>
    show bits .or .i64 (wrap64 ((65536 * rd bs 0 + 256 * rd bs 1 + rd bs 2) * 256)) (rd bs 3) = 16777216 * rd bs 0 + 65536 * rd bs 1 + 256 * rd bs 2 + rd bs 3
    generalize rd bs 0 = x0 at *
    generalize rd bs 1 = x1 at *
    generalize rd bs 2 = x2 at *
    generalize rd bs 3 = x3 at *
    rw [IntWalk.wrap64_in _ (by omega), orHi 8 _ x3 (by omega) (by omega) (by omega) (by omega) (by omega) (by omega)]
    omega
set_option maxRecDepth 100000 in
theorem high63_no (w0 W : World) (g : Nat) (bs : List Int) (e bad : Bool) (h : RD w0 W g bs e bad) (hn : bs.length < 4) :
    Calls Tryd.prog 63 #[.pointer (some ⟨g, 0, none⟩), .int .i64 4] W fun r W' => r = .returned (.int .i64 0) ∧ RD w0 W' g [] true bad ∧ But g W W' := by
  have HT := Lib.hid (take74_no w0 W g bs e bad 4 h (.inr (by omega)))
  clear h
  go_enter Tryd.func63, Tryd.ntmps63
  go_wp2_with (go_at_call 74; refine HT.out.mono ?_; rintro r W1 ⟨rfl, hR, hB⟩; have HR := Lib.hid hR; have HB := Lib.hid hB; clear hR hB)
  go_loopg [5, 12] 0 (fun gg s3 s9 wr => s3 = .int .i64 0 ∧ s9 = .int .i64 0 ∧ W1 = wr)
  case atStart => exact ⟨rfl, rfl, rfl⟩
  case round =>
    obtain ⟨rfl, rfl, rfl⟩ := hrel
    go_wp2_with (fail)
    go_ret
    exact ⟨rfl, HR.out, HB.out⟩
set_option maxRecDepth 100000 in
theorem high63 (w0 W : World) (g : Nat) (bs : List Int) (e bad : Bool) (h : RD w0 W g bs e bad) (hn : 4 ≤ bs.length) (hb : ByteL bs) :
    Calls Tryd.prog 63 #[.pointer (some ⟨g, 0, none⟩), .int .i64 4] W fun r W' => r = .returned (.int .i64 (be4 bs)) ∧ RD w0 W' g (bs.drop 4) e bad ∧ But g W W' := by
  have HT := Lib.hid (take74 w0 W g bs e bad 4 h hn)
  have hl4 : (bs.take 4).length = 4 := by simp; omega
  have HL4 := Lib.hid hl4
  have HBy := Lib.hid hb
  clear h hb
  go_enter Tryd.func63, Tryd.ntmps63
  go_wp2_with (go_at_call 74; refine HT.out.mono ?_; rintro r W1 ⟨A, c, rfl, hc, hC, hR, hB⟩; have HR := Lib.hid hR; have HB := Lib.hid hB; have hCW : Hid ((Kd.int .u8).C W1 A (bs.take 4).length (bs.take 4)) := Lib.hid (by rw [hl4]; exact Kd.C_below hC hR.bel); clear hR hB hC)
  clear hl4
  go_loopg [5, 12] 4 (fun gg s3 s9 wr => W1 = wr ∧ ∃ kk : Nat, kk ≤ 4 ∧ 4 - kk ≤ gg ∧ s9 = .int .i64 kk ∧ s3 = .int .i64 (partB bs kk))
  case atStart => exact ⟨rfl, 0, by omega, by omega, rfl, rfl⟩
  case round =>
    obtain ⟨rfl, kk, hkk, hgg, rfl, rfl⟩ := hrel
    by_cases hlt : kk < 4
    · have hltz : (kk : Int) < 4 := by omega
      obtain ⟨ad, rfl, c0⟩ := int_at hCW.out kk (by rw [HL4.out]; exact hlt)
      have g0 : (bs.take 4)[kk]'(by rw [HL4.out]; exact hlt) = rd bs kk := by simp [rd, List.getD_eq_getElem?_getD, List.getElem?_eq_getElem (show kk < bs.length by omega)]
      rw [g0] at c0
      have hr := HBy.out.rd kk
      obtain ⟨y, hy⟩ : ∃ y, rd bs kk = y := ⟨_, rfl⟩
      have HY := Lib.hid hy
      rw [hy] at c0 hr
      obtain ⟨z, hz⟩ : ∃ z, partB bs kk = z := ⟨_, rfl⟩
      have HZ := Lib.hid hz
      rw [hz]
      clear g0 hy hz
      go_wp2_with (fail)
      go_roundg (4 - (kk + 1))
      case measure => omega
      case rel => exact ⟨rfl, kk + 1, by omega, by omega, by go_num, by rw [← partB_step bs HBy.out kk hlt, HZ.out, HY.out]⟩
    · have hltz : ¬ (kk : Int) < 4 := by omega
      obtain rfl : kk = 4 := by omega
      go_wp2_with (fail)
      go_ret
      exact ⟨rfl, HR.out, HB.out⟩
theorem four55_no (w0 W : World) (g : Nat) (bs : List Int) (e bad : Bool) (h : RD w0 W g bs e bad) (hn : bs.length < 4) :
    Calls Tryd.prog 55 #[.pointer (some ⟨g, 0, none⟩)] W fun r W' => r = .returned (.int .i64 0) ∧ RD w0 W' g [] true bad ∧ But g W W' := by
  have HH := Lib.hid (high63_no w0 W g bs e bad h hn)
  clear h
  go_enter Tryd.func55, Tryd.ntmps55
  go_wp2_with (fail)
  refine HH.out.mono ?_
  rintro r W1 ⟨rfl, hR, hB⟩
  have HR := Lib.hid hR
  have HB := Lib.hid hB
  clear hR hB HH
  go_wp2_with (fail)
  go_ret
  exact ⟨rfl, HR.out, HB.out⟩
theorem four55_yes (w0 W : World) (g : Nat) (bs : List Int) (e bad : Bool) (h : RD w0 W g bs e bad) (hn : 4 ≤ bs.length) (hb : ByteL bs) :
    Calls Tryd.prog 55 #[.pointer (some ⟨g, 0, none⟩)] W fun r W' => r = .returned (.int .i64 (be4 bs)) ∧ RD w0 W' g (bs.drop 4) e bad ∧ But g W W' := by
  have HH := Lib.hid (high63 w0 W g bs e bad h hn hb)
  clear h
  go_enter Tryd.func55, Tryd.ntmps55
  go_wp2_with (fail)
  refine HH.out.mono ?_
  rintro r W1 ⟨rfl, hR, hB⟩
  have HR := Lib.hid hR
  have HB := Lib.hid hB
  clear hR hB HH
  go_wp2_with (fail)
  go_ret
  exact ⟨rfl, HR.out, HB.out⟩
/-- The number of four, with what it leaves. -/
theorem four55 (w0 W : World) (g : Nat) (bs : List Int) (e bad : Bool) (h : RD w0 W g bs e bad) (hb : ByteL bs) :
    Calls Tryd.prog 55 #[.pointer (some ⟨g, 0, none⟩)] W fun r W' => r = .returned (.int .i64 (if bs.length < 4 then 0 else be4 bs)) ∧ RD w0 W' g (if bs.length < 4 then [] else bs.drop 4) (if bs.length < 4 then true else e) bad ∧ But g W W' := by
  by_cases h4 : bs.length < 4
  · simp only [if_pos h4]
    exact four55_no w0 W g bs e bad h h4
  · simp only [if_neg h4]
    exact four55_yes w0 W g bs e bad h (by omega) hb
/-- A text whose length stands ahead of it, the highest byte first. -/
def ptxtB (bs : List Int) : Option (List Int × List Int) :=
  if bs.length < 4 then none else if (bs.length : Int) < 4 + be4 bs then none else some ((bs.drop 4).take (be4 bs).toNat, (bs.drop 4).drop (be4 bs).toNat)
set_option maxRecDepth 100000 in
theorem textB48_no1 (w0 W : World) (g : Nat) (bs : List Int) (bad : Bool) (h : RD w0 W g bs false bad) (hn : bs.length < 4) :
    Calls Tryd.prog 48 #[.pointer (some ⟨g, 0, none⟩), .func (.func 55) #[.pointer (some ⟨g, 0, none⟩)] #[]] W fun r W' => r = .returned (.string ⟨#[]⟩) ∧ RD w0 W' g [] true bad ∧ But g W W' := by
  have HT := Lib.hid (four55_no w0 W g bs false bad h hn)
  clear h
  go_enter Tryd.func48, Tryd.ntmps48
  go_wp2_with (fail)
  refine HT.out.mono ?_
  rintro r W1 ⟨rfl, hR, hB⟩
  have c1 := hR.end_
  have HR := Lib.hid hR
  have HB := Lib.hid hB
  clear hR hB
  go_wp2_with (fail)
  go_ret
  exact ⟨rfl, HR.out, HB.out⟩
set_option maxRecDepth 100000 in
theorem textB48_no2 (w0 W : World) (g : Nat) (bs : List Int) (bad : Bool) (h : RD w0 W g bs false bad) (hn : 4 ≤ bs.length) (hb : ByteL bs) (hs : (bs.length : Int) < 4 + be4 bs) :
    Calls Tryd.prog 48 #[.pointer (some ⟨g, 0, none⟩), .func (.func 55) #[.pointer (some ⟨g, 0, none⟩)] #[]] W fun r W' => r = .returned (.string ⟨#[]⟩) ∧ RD w0 W' g [] true bad ∧ But g W W' := by
  have HT := Lib.hid (four55_yes w0 W g bs false bad h hn hb)
  have hl : (bs.drop 4).length = bs.length - 4 := by simp
  have hcv := Kd.C_string (P := Tryd.prog) (w := W) (c := 0) Tryd.underlying27 Tryd.underlying5 Tryd.underlying9 (C_nil8 W)
  have HCV : Hid (∀ W : World, (convert 27 9 (.slice none 0 0)).run Tryd.prog W = .ok (.string ⟨#[]⟩) W) := Lib.hid fun W => Kd.C_string (P := Tryd.prog) (w := W) (c := 0) Tryd.underlying27 Tryd.underlying5 Tryd.underlying9 (C_nil8 W)
  clear h hcv
  go_enter Tryd.func48, Tryd.ntmps48
  go_wp2_with (fail)
  refine HT.out.mono ?_
  rintro r W1 ⟨rfl, hR, hB⟩
  have c1 := hR.end_
  have HK := Lib.hid (take74_no w0 W1 g (bs.drop 4) false bad (be4 bs) hR (.inr (by omega)))
  have HB := Lib.hid hB
  clear hR hB
  go_wp2_with (fail)
  refine HK.out.mono ?_
  rintro r W2 ⟨rfl, hR2, hB2⟩
  have HR := Lib.hid hR2
  have HB2 := Lib.hid (HB.out.trans hB2)
  have hcv := HCV.out W2
  clear hR2 hB2
  go_wp2_with (fail)
  go_ret
  exact ⟨rfl, HR.out, HB2.out⟩
set_option maxRecDepth 100000 in
theorem textB48_yes (w0 W : World) (g : Nat) (bs : List Int) (bad : Bool) (h : RD w0 W g bs false bad) (hn : 4 ≤ bs.length) (hb : ByteL bs) (hs : ¬ (bs.length : Int) < 4 + be4 bs) :
    Calls Tryd.prog 48 #[.pointer (some ⟨g, 0, none⟩), .func (.func 55) #[.pointer (some ⟨g, 0, none⟩)] #[]] W fun r W' => r = .returned (.string (strOfNums ((bs.drop 4).take (be4 bs).toNat))) ∧ RD w0 W' g ((bs.drop 4).drop (be4 bs).toNat) false bad ∧ But g W W' := by
  have HT := Lib.hid (four55_yes w0 W g bs false bad h hn hb)
  have hr := be4_range hb
  have hl : (bs.drop 4).length = bs.length - 4 := by simp
  obtain ⟨n, hn4⟩ : ∃ n : Nat, be4 bs = n := ⟨(be4 bs).toNat, by omega⟩
  rw [hn4] at HT hs ⊢
  simp only [Int.toNat_natCast]
  clear h
  go_enter Tryd.func48, Tryd.ntmps48
  go_wp2_with (fail)
  refine HT.out.mono ?_
  rintro r W1 ⟨rfl, hR, hB⟩
  have c1 := hR.end_
  have HK := Lib.hid (take74 w0 W1 g (bs.drop 4) false bad n hR (by omega))
  have HB := Lib.hid hB
  clear hR hB hs
  go_wp2_with (fail)
  refine HK.out.mono ?_
  rintro r W2 ⟨A, c, rfl, hc, hC, hR2, hB2⟩
  have hcv := Kd.C_string (P := Tryd.prog) (c := c) Tryd.underlying27 Tryd.underlying5 Tryd.underlying9 (Kd.C_below hC hR2.bel)
  have HR := Lib.hid hR2
  have HB2 := Lib.hid (HB.out.trans hB2)
  clear hR2 hB2 hC
  go_wp2_with (fail)
  go_ret
  exact ⟨rfl, HR.out, HB2.out⟩
def txtVB (bs : List Int) : List Int := match ptxtB bs with | some x => x.1 | none => []
def txtRB (bs : List Int) : List Int := match ptxtB bs with | some x => x.2 | none => []
/-- The reader's text, the number being the bound four. -/
theorem textB48 (w0 W : World) (g : Nat) (bs : List Int) (bad : Bool) (h : RD w0 W g bs false bad) (hb : ByteL bs) :
    Calls Tryd.prog 48 #[.pointer (some ⟨g, 0, none⟩), .func (.func 55) #[.pointer (some ⟨g, 0, none⟩)] #[]] W fun r W' =>
      r = .returned (.string (strOfNums (txtVB bs))) ∧ RD w0 W' g (txtRB bs) (ptxtB bs).isNone bad ∧ But g W W' := by
  by_cases h4 : bs.length < 4
  · have hp : ptxtB bs = none := if_pos h4
    unfold txtVB txtRB
    rw [hp]
    exact textB48_no1 w0 W g bs bad h h4
  · by_cases hs : (bs.length : Int) < 4 + be4 bs
    · have hp : ptxtB bs = none := by unfold ptxtB; rw [if_neg h4, if_pos hs]
      unfold txtVB txtRB
      rw [hp]
      exact textB48_no2 w0 W g bs bad h (by omega) hb hs
    · have hp : ptxtB bs = some ((bs.drop 4).take (be4 bs).toNat, (bs.drop 4).drop (be4 bs).toNat) := by unfold ptxtB; rw [if_neg h4, if_neg hs]
      unfold txtVB txtRB
      rw [hp]
      exact textB48_yes w0 W g bs bad h (by omega) hb hs
end Go.Proofs.YtbjdipbhclihfaaDoor
