import Derived.Test.YtbjdipbhclihfaaDoorM1
import Derived.Test.YtbjdipbhclihfaaDoorB1
import Derived.Test.YtbjdipbhclihfaaDoorPTagsGetsx5
import Derived.Test.YtbjdipbhclihfaaDoorPTagsGetsx3
import Derived.Test.YtbjdipbhclihfaaDoorPTagsGetsx1
set_option linter.unusedVariables false
namespace Go.Proofs.YtbjdipbhclihfaaDoor
open Go.RowKit Go.Proofs Go.Proofs.YtbjdipbhclihfaaDoorW.PrintWords
/-- A slice of strings that is read. -/
def RS (W : World) (u : Value) (xs : List ByteArray) : Prop := ∃ A c, u = .slice A xs.length c ∧ xs.length ≤ c ∧ Kd.string.C W A xs.length xs
theorem RS.below {W W1 : World} {u : Value} {xs : List ByteArray} (h : RS W u xs) (hb : Below W.heap.size W W1) : RS W1 u xs := by
  obtain ⟨A, c, he, hl, hC⟩ := h
  exact ⟨A, c, he, hl, Kd.C_below hC hb⟩
theorem RS.of_STR {W : World} {base : Nat} {u : Value} {xs : List ByteArray} (h : STR W base u xs) : RS W u xs := by
  obtain ⟨A, c, he, hl, hC⟩ := Kd.R_reads h
  exact ⟨A, c, he, hl, hC⟩
theorem rows2s {W : World} {A1 A2 : Option Addr} {c1 c2 : Nat} {x1 x2 : List ByteArray} (h1 : Kd.string.C W A1 x1.length x1) (l1 : x1.length ≤ c1) (h2 : Kd.string.C W A2 x2.length x2) (l2 : x2.length ≤ c2) :
    (Kd.slice 9 Kd.string).C (W.alloc (.cells #[.slice A1 x1.length c1, .slice A2 x2.length c2] 22)) (some ⟨W.heap.size, 0, none⟩) 2 [x1, x2] := by
  have hb : Below W.heap.size W (W.alloc (.cells #[.slice A1 x1.length c1, .slice A2 x2.length c2] 22)) := below_alloc (Below.refl _ _) _
  refine C_lit1 rfl (blk_new W _) [x1, x2] (by show 2 ≤ 9223372036854775807; decide) fun j p hj => ?_
  match j, hj with
  | 0, hj => simp at hj; subst hj; exact ⟨_, rfl, A1, c1, rfl, l1, Kd.C_below h1 hb⟩
  | 1, hj => simp at hj; subst hj; exact ⟨_, rfl, A2, c2, rfl, l2, Kd.C_below h2 hb⟩
set_option maxRecDepth 100000 in
theorem with14 (v : ByteArray) (A : Option Addr) (c : Nat) (L : List ByteArray) (A2 : Option Addr) (c2 : Nat) (l : List ByteArray) (w : World) (hr : Kd.string.C w A L.length L) (hc : L.length ≤ c) (hr2 : Kd.string.C w A2 l.length l) (hc2 : l.length ≤ c2) (hl : L.length + l.length ≤ 1099511627776) :
    Calls Tryd.prog 14 #[.agg #[.string v, .slice A L.length c], .slice A2 l.length c2] w fun e w' => ∃ u, e = .returned (.agg #[.string v, u]) ∧ STR w' w.heap.size u (L ++ l) ∧ Below w.heap.size w w' := by
  have HR := Lib.hid hr
  have HR2 := Lib.hid hr2
  have HC := Lib.hid hc
  have HC2 := Lib.hid hc2
  have HL := Lib.hid (show ([L, l] : List (List ByteArray)).flatten.length ≤ 1099511627776 by simpa using hl)
  clear hr hr2 hc hc2 hl
  go_enter Tryd.func14, Tryd.ntmps14
  go_wp2_with (fail)
  have hA : Below w.heap.size w ((w.alloc (.cells #[.string v, .slice A L.length c] 24)).alloc (.cells #[.string ⟨#[]⟩, .slice none 0 0] 24)) := below_alloc (below_alloc (Below.refl _ _) _) _
  have hh := rows2s (Kd.C_below HR.out hA) HC.out (Kd.C_below HR2.out hA) HC2.out
  rw [show ((w.alloc (.cells #[.string v, .slice A L.length c] 24)).alloc (.cells #[.string ⟨#[]⟩, .slice none 0 0] 24)).heap.size = w.heap.size + 1 + 1 from by simp] at hh
  have HH := Lib.hid hh
  have HA := Lib.hid hA
  clear hh hA
  refine (concat43 _ _ [L, l] _ HH.out HL.out).mono ?_
  rintro e w1 ⟨u, rfl, hu, hb⟩
  have b0 := blk_below (blk_alloc (blk_alloc (blk_new w (.cells #[.string v, .slice A L.length c] 24)) (.cells #[.string ⟨#[]⟩, .slice none 0 0] 24)) (.cells #[.slice A L.length c, .slice A2 l.length c2] 22)) (hb.mono (by exact Nat.le_refl _))
  have b1 := blk_below (blk_alloc (blk_new (w.alloc (.cells #[.string v, .slice A L.length c] 24)) (.cells #[.string ⟨#[]⟩, .slice none 0 0] 24)) (.cells #[.slice A L.length c, .slice A2 l.length c2] 22)) (hb.mono (by exact Nat.le_refl _))
  rw [show (w.alloc (.cells #[.string v, .slice A L.length c] 24)).heap.size = w.heap.size + 1 from by simp] at b1
  have hB : Below w.heap.size w w1 := (HA.out.alloc (by simp; omega) _).trans (hb.mono (by simp; omega))
  have hu := Kd.R_lower (base' := w.heap.size) hu (by simp; omega)
  clear hb HH
  obtain ⟨A', c', rfl, hl', hC'⟩ := Kd.R_reads hu
  have b2 := blk_put b0 1 (.slice A' [L, l].flatten.length c') (cs' := #[.string v, .slice A' [L, l].flatten.length c']) rfl
  have b3 : (w1.setCell ⟨w.heap.size, 1, none⟩ (.slice A' [L, l].flatten.length c')).heap[w.heap.size + 1]? = _ := blk_far b1 (by simp) _
  have B5 := Lib.hid (blk_put (blk_put b3 0 (.string v) (cs' := #[.string v, .slice none 0 0]) rfl) 1 (.slice A' [L, l].flatten.length c') (cs' := #[.string v, .slice A' [L, l].flatten.length c']) rfl)
  have FL := Lib.hid (show [L, l].flatten = L ++ l by simp)
  have HU := Lib.hid (Kd.R_set (Kd.R_set (Kd.R_set hu b0 (by decide) 1 (.slice A' [L, l].flatten.length c')) b3 (by decide) 0 (.string v)) (blk_put b3 0 (.string v) (cs' := #[.string v, .slice none 0 0]) rfl) (by decide) 1 (.slice A' [L, l].flatten.length c'))
  have HB := Lib.hid (((hB.setCell (p := ⟨w.heap.size, 1, none⟩) (Nat.le_refl _) (.slice A' [L, l].flatten.length c')).setCell (p := ⟨w.heap.size + 1, 0, none⟩) (Nat.le_succ _) (.string v)).setCell (p := ⟨w.heap.size + 1, 1, none⟩) (Nat.le_succ _) (.slice A' [L, l].flatten.length c'))
  have e1 := blk_cell b0 1
  have e2 := blk_frozen b0 1
  have e3 := blk_cell b2 0
  have e4 := blk_cell b2 1
  have e5 := blk_cell b3 0
  have e6 := blk_frozen b3 0
  have e7 := blk_cell b3 1
  have e8 := blk_frozen b3 1
  simp only [List.getElem?_toArray, List.getElem?_cons_zero, List.getElem?_cons_succ] at e1 e3 e4 e5 e7
  clear hu hC' hB b0 b1 b2 b3
  generalize [L, l].flatten = fl at *
  go_wp2_with (fail)
  refine bodyPost_ret (results_single rfl (.cell _ _ _ _ _ rfl B5.out Tryd.underlying24 rfl rfl .nil)) rfl ?_
  exact ⟨_, rfl, FL.out ▸ HU.out, HB.out⟩
end Go.Proofs.YtbjdipbhclihfaaDoor
set_option linter.unusedVariables false
namespace Go.Proofs.YtbjdipbhclihfaaDoor
open Go.RowKit Go.Proofs Go.Proofs.YtbjdipbhclihfaaDoorW.PrintWords
def smallF (x : Int) : Int := if 65 ≤ x ∧ x ≤ 90 then x + 32 else x
theorem small73 (x : Nat) (w : World) (hx : x ≤ 1114111) : Calls Tryd.prog 73 #[.int .i32 (x : Nat)] w fun e w' => e = .returned (.int .i32 (smallF x)) ∧ w = w' := by
  by_cases h1 : (65 : Int) ≤ x
  · by_cases h2 : (x : Int) ≤ 90
    · have hf : smallF x = x + 97 - 65 := by unfold smallF; rw [if_pos ⟨h1, h2⟩]; omega
      rw [hf]
      clear hf
      go_enter Tryd.func73, Tryd.ntmps73
      go_wp2
      go_ret
      exact ⟨rfl, rfl⟩
    · have hf : smallF x = x := by unfold smallF; rw [if_neg (by omega)]
      rw [hf]
      clear hf
      go_enter Tryd.func73, Tryd.ntmps73
      go_wp2
      go_ret
      exact ⟨rfl, rfl⟩
  · have hf : smallF x = x := by unfold smallF; rw [if_neg (by omega)]
    rw [hf]
    clear hf
    go_enter Tryd.func73, Tryd.ntmps73
    go_wp2
    go_ret
    exact ⟨rfl, rfl⟩
def smallB (s : ByteArray) : ByteArray := ⟨(Lib.mapD smallF s.data.toList).toArray⟩
theorem small45 (s : ByteArray) (w : World) (hs : s.size < 35184372088832) (hG : Glob w) : Calls Tryd.prog 45 #[.string s] w fun e w' => e = .returned (.string (smallB s)) ∧ Below w.heap.size w w' := by
  have hm : MapGrows Tryd.prog 73 #[] smallF w := fun W x hx hb => (small73 x W hx).mono fun e w' ⟨he, hw⟩ => ⟨he, hw ▸ Below.refl _ _⟩
  have HC := Lib.hid (Tryd.strings_Map_grows 73 #[] (enters_of Tryd.func73 (by kernel_rfl) rfl) smallF s w hs hm (fun x hx => by unfold smallF; split <;> omega) hG.out)
  clear hs hG hm
  go_enter Tryd.func45, Tryd.ntmps45
  go_wp2_with (go_at_call 72; refine HC.out.mono ?_; rintro e w' ⟨rfl, hb⟩)
  go_ret
  exact ⟨rfl, hb⟩
end Go.Proofs.YtbjdipbhclihfaaDoor
set_option linter.unusedVariables false
namespace Go.Proofs.YtbjdipbhclihfaaDoor
open Go.RowKit Go.Proofs Go.Proofs.YtbjdipbhclihfaaDoorW.PrintWords
def getF (nm : ByteArray) (s : ByteArray) : Option ByteArray := if (cutB s 61).2.2 = true ∧ smallB (cutB s 61).1 = smallB nm then some (cutB s 61).2.1 else none
def getB (nm : ByteArray) (L : List ByteArray) : List ByteArray := L.filterMap (getF nm)
theorem str_ne {a b : ByteArray} (h : ¬ a = b) : (a.toList == b.toList) = false := by
  rw [ByteArray.toList_eq, ByteArray.toList_eq, beq_eq_false_iff_ne]
  intro e
  exact h (by cases a; cases b; congr; exact Array.toList_inj.1 e)
theorem row1s (W : World) (v : ByteArray) : Kd.string.C (W.alloc (.cells #[.string v] 9)) (some ⟨W.heap.size, 0, none⟩) 1 [v] := by
  refine C_lit1 rfl (blk_new W _) [v] (by show 1 ≤ 9223372036854775807; decide) fun j p hj => ?_
  match j, hj with
  | 0, hj => simp at hj; subst hj; exact ⟨_, rfl, rfl⟩
theorem getB_step (nm : ByteArray) (L : List ByteArray) (kk : Nat) (h : kk < L.length) : getB nm (L.take (kk + 1)) = getB nm (L.take kk) ++ (getF nm L[kk]).toList := by
  unfold getB
  rw [List.take_succ_eq_append_getElem h, List.filterMap_append]
  cases hg : getF nm L[kk] <;> simp [hg]
theorem getB_le (nm : ByteArray) (L : List ByteArray) : (getB nm L).length ≤ L.length := List.length_filterMap_le _ _
set_option maxRecDepth 100000 in
theorem get16 (v nm : ByteArray) (A : Option Addr) (c : Nat) (L : List ByteArray) (w : World) (hr : Kd.string.C w A L.length L) (hc : L.length ≤ c) (hl : L.length ≤ 1099511627776) (hs : ∀ s ∈ L, s.size < 35184372088832) (hn : nm.size < 35184372088832) (hG : Glob w) :
    Calls Tryd.prog 16 #[.agg #[.string v, .slice A L.length c], .string nm] w fun e w' => ∃ u, e = .returned u ∧ STR w' w.heap.size u (getB nm L) ∧ Below w.heap.size w w' := by
  have hm := C_len hr
  have HR := Lib.hid hr
  have HC := Lib.hid hc
  have HS := Lib.hid hs
  have HN := Lib.hid hn
  have HG := Lib.hid hG
  have HA := Lib.hid (below_alloc (Below.refl w.heap.size w) (.cells #[.string v, .slice A L.length c] 24))
  clear hr hc hs hn hG
  go_enter Tryd.func16, Tryd.ntmps16
  go_wp2
  go_loopg [5, 14] L.length (fun gg s5 s14 wr => ∃ kk : Nat, kk ≤ L.length ∧ L.length - kk ≤ gg ∧ s14 = .int .i64 kk ∧ Hid (STR wr w.heap.size s5 (getB nm (L.take kk))) ∧ Hid (Below w.heap.size w wr))
  case atStart => exact ⟨0, Nat.zero_le _, by omega, rfl, Lib.hid (Kd.R_nil _ _ _ _ _), HA⟩
  case round =>
    obtain ⟨kk, hkk, hg, rfl, HV, HB⟩ := hrel
    by_cases hlt : kk < L.length
    · have hltz : (kk : Int) < (L.length : Int) := by omega
      have hst := getB_step nm L kk hlt
      obtain ⟨ad, rfl, hcell⟩ := str_at HR.out kk hlt
      replace hcell := pw_cell_below HB.out hcell
      have hsz := HS.out L[kk] (List.getElem_mem hlt)
      have hle := getB_le nm (L.take kk)
      rw [List.length_take] at hle
      generalize L[kk] = s at hst hcell hsz
      generalize hnx : getB nm (L.take (kk + 1)) = nx at hst
      have HNX := Lib.hid hnx
      clear hnx
      generalize getB nm (L.take kk) = pre at hst HV hle
      have hcut := cut44 s 61
      have hk1 := cutB_le s 61
      cases hcb : cutB s 61 with | mk k p =>
      obtain ⟨vv, is⟩ := p
      rw [hcb] at hk1
      simp only [hcb] at hcut
      unfold getF at hst
      simp only [hcb] at hst
      have hks : k.size < 35184372088832 := Nat.lt_of_le_of_lt hk1 hsz
      have hss : s.size ≤ 9223372036854775807 := by omega
      have HKS := Lib.hid hks
      have HSS := Lib.hid hss
      have HCUT := Lib.hid hcut
      clear hcb hk1 hks hss hsz hcut
      cases is with
      | false =>
        have HST := Lib.hid (show nx = pre by simpa using hst)
        clear hst
        go_wp2_with (go_at_call 44; refine (HCUT.out _ HSS.out).mono ?_; rintro e w' ⟨rfl, ⟨nd, rfl⟩⟩)
        go_roundg (L.length - (kk + 1))
        case measure => omega
        case rel => exact ⟨kk + 1, by omega, by omega, by go_num, by rw [HNX.out, HST.out]; exact Lib.hid (Kd.R_below HV.out (pw_below_drewN (Below.refl _ _) _)), Lib.hid (pw_below_drewN HB.out _)⟩
      | true =>
        by_cases heq : smallB k = smallB nm
        · have HST := Lib.hid (show nx = pre ++ [vv] by simpa [heq] using hst)
          clear hst
          go_wp2_with (go_at_call 44; refine (HCUT.out _ HSS.out).mono ?_; rintro e w2 ⟨rfl, ⟨nd, rfl⟩⟩)
          go_at_call 45
          have HB1 := Lib.hid (pw_below_drewN HB.out nd)
          refine (small45 k _ HKS.out (HG.out.below HB1.out)).mono ?_
          rintro e w2 ⟨rfl, hb2⟩
          have HB2 := Lib.hid (HB1.out.trans (hb2.mono HB1.out.size))
          have HV2 := Lib.hid (Kd.R_below HV.out ((pw_below_drewN (Below.refl _ _) nd).trans hb2))
          clear hb2 HV HB HB1
          go_wp2_with (fail)
          go_at_call 45
          refine (small45 nm _ HN.out (HG.out.below HB2.out)).mono ?_
          rintro e w3 ⟨rfl, hb3⟩
          have HB3 := Lib.hid (HB2.out.trans (hb3.mono HB2.out.size))
          have HV3 := Lib.hid (Kd.R_below HV2.out hb3)
          clear hb3 HV2 HB2
          have HA3 := Lib.hid (below_alloc (Below.refl w3.heap.size w3) (.cells #[.string vv] 9))
          go_wp2_with (at_builtin; refine Kd.R_append_row Value.string ByteArray.empty (h1 := fun _ => rfl) (w0 := w) w.heap.size rfl (.tmp 32) (.tmp 34) 22 9 (.string ⟨#[]⟩) 16 rfl Tryd.underlying22 infoS rfl (by decide) _ pre [vv] _ 1 1 (fun _ => True) rfl rfl (fun _ _ => trivial) (Kd.R_below HV3.out HA3.out) (row1s w3 vv) (HB3.out.trans (HA3.out.mono HB3.out.size)) (Nat.le_trans HB3.out.size HA3.out.size) (by omega) ?_)
          intro v1 w4 hR4 hB4 _ _
          have HR4 := Lib.hid hR4
          have HB4 := Lib.hid hB4
          clear hR4 hB4
          go_wp2
          go_roundg (L.length - (kk + 1))
          case measure => omega
          case rel => exact ⟨kk + 1, by omega, by omega, by go_num, by rw [HNX.out, HST.out]; exact HR4, HB4⟩
        · have HST := Lib.hid (show nx = pre by simpa [heq] using hst)
          clear hst
          have hbeq : ((smallB k).toList == (smallB nm).toList) = false := str_ne heq
          go_wp2_with (go_at_call 44; refine (HCUT.out _ HSS.out).mono ?_; rintro e w2 ⟨rfl, ⟨nd, rfl⟩⟩)
          go_at_call 45
          have HB1 := Lib.hid (pw_below_drewN HB.out nd)
          refine (small45 k _ HKS.out (HG.out.below HB1.out)).mono ?_
          rintro e w2 ⟨rfl, hb2⟩
          have HB2 := Lib.hid (HB1.out.trans (hb2.mono HB1.out.size))
          have HV2 := Lib.hid (Kd.R_below HV.out ((pw_below_drewN (Below.refl _ _) nd).trans hb2))
          clear hb2 HV HB HB1
          go_wp2_with (fail)
          go_at_call 45
          refine (small45 nm _ HN.out (HG.out.below HB2.out)).mono ?_
          rintro e w3 ⟨rfl, hb3⟩
          have HB3 := Lib.hid (HB2.out.trans (hb3.mono HB2.out.size))
          have HV3 := Lib.hid (Kd.R_below HV2.out hb3)
          clear hb3 HV2 HB2
          go_wp2_with (fail)
          go_roundg (L.length - (kk + 1))
          case measure => omega
          case rel => exact ⟨kk + 1, by omega, by omega, by go_num, by rw [HNX.out, HST.out]; exact HV3, HB3⟩
    · have hltz : ¬ (kk : Int) < (L.length : Int) := by omega
      have hfull : L.take kk = L := List.take_of_length_le (by omega)
      rw [hfull] at HV
      clear hfull
      go_wp2
      go_ret
      exact ⟨_, rfl, HV.out, HB.out⟩
end Go.Proofs.YtbjdipbhclihfaaDoor
set_option linter.unusedVariables false
set_option linter.unusedSimpArgs false
namespace Go.Proofs.YtbjdipbhclihfaaDoor.Plain
open Go.RowKit Go.Proofs.YtbjdipbhclihfaaDoorW.PrintWords Go.Proofs.YtbjdipbhclihfaaDoorW.PrintMore PTagsGets
theorem ib_none (c : UInt8) : ∀ l : List UInt8, c ∉ l → Lib.indexByte l c = -1
  | [], _ => rfl
  | b :: l, h => by
    have hb : ¬ b = c := fun e => h (by simp [e])
    have hl : c ∉ l := fun e => h (by simp [e])
    simp [Lib.indexByte, hb, ib_none c l hl]
theorem ib_app (c : UInt8) : ∀ (p r : List UInt8), c ∉ p → Lib.indexByte (p ++ c :: r) c = p.length
  | [], r, _ => by simp [Lib.indexByte]
  | b :: p, r, h => by
    have hb : ¬ b = c := fun e => h (by simp [e])
    have hl : c ∉ p := fun e => h (by simp [e])
    have hn : ¬ ((p.length : Int) = -1) := by omega
    simp [Lib.indexByte, hb, ib_app c p r hl, hn]
theorem split_at (c : UInt8) : ∀ l : List UInt8, c ∉ l ∨ ∃ p r, l = p ++ c :: r ∧ c ∉ p
  | [] => .inl (by simp)
  | b :: l => by
    by_cases hb : b = c
    · exact .inr ⟨[], l, by simp [hb], by simp⟩
    · rcases split_at c l with h | ⟨p, r, rfl, hp⟩
      · exact .inl (by simp [h, Ne.symm hb])
      · exact .inr ⟨b :: p, r, by simp, by simp [hp, Ne.symm hb]⟩
theorem ext0 (s : ByteArray) (i : Nat) : (s.extract 0 i).data.toList = s.data.toList.take i := by rw [Lib.extract_data]; simp
theorem comB_none (s : ByteArray) (h : (61 : UInt8) ∉ s.data.toList) : commentB s = false := by
  unfold commentB cutB
  rw [if_pos (ib_none 61 _ h)]
  rfl
theorem comB_app (s : ByteArray) (p r : List UInt8) (h : s.data.toList = p ++ 61 :: r) (hp : (61 : UInt8) ∉ p) : commentB s = (!p.isEmpty && p.all (fun b => decide (32 ≤ b.toNat ∧ b.toNat ≤ 125)) && Lib.validD s.data.toList) := by
  have hi := ib_app 61 p r hp
  rw [← h] at hi
  unfold commentB cutB
  rw [if_neg (by omega), hi]
  have he : (s.extract 0 ((p.length : Nat) : Int).toNat).data.toList = p := by rw [ext0, h]; simp
  have he' : (s.extract 0 ((p.length : Nat) : Int).toNat).toList = p := by rw [ByteArray.toList_eq, he]
  simp only [he', bytesOf, he, Bool.true_and]
  congr 2
  rw [List.any_map, Bool.eq_iff_iff]
  simp [outside]
  exact ⟨fun h x hx => by have := h x hx; omega, fun h x hx => by have := h x hx; omega⟩
def comF (s : ByteArray) : Int := if commentB s = true then Lib.indexByte s.data.toList 61 else -1
theorem bt_nat (s : ByteArray) (i : Nat) (b : UInt8) (h : s.data.toList[i]? = some b) : YtbjdipbhclihfaaDoorW.PrintWords.bt s i = (b.toNat : Int) := by
  rw [bt_list, List.getD_eq_getElem?_getD, show ((i : Int)).toNat = i by omega, h]
  rfl
theorem comment_from (s : ByteArray) (hs : s.size ≤ 1099511627776) : ∀ (n i : Nat), i ≤ s.size → s.size - i ≤ n → (∀ b ∈ s.data.toList.take i, b ≠ 61 ∧ 32 ≤ b.toNat ∧ b.toNat ≤ 125) → Ev (fun k => jetsamref13_Comment.l0 k s i) (comF s)
  | 0, i, hi, hn, ht => by
    obtain rfl : i = s.size := by omega
    refine ⟨1, fun k hk => ?_⟩
    obtain ⟨m, rfl⟩ : ∃ m, k = m + 1 := ⟨k - 1, by omega⟩
    show jetsamref13_Comment.l0 (m + 1) s _ = _
    rw [List.take_of_length_le (by rw [Array.length_toList]; exact Nat.le_refl _)] at ht
    rw [jetsamref13_Comment.l0, if_neg (by omega), comF, comB_none s (fun h => (ht _ h).1 rfl)]
    rfl
  | n + 1, i, hi, hn, ht => by
    rcases Nat.lt_or_ge i s.size with hlt | hge
    case inr => exact comment_from s hs n i hi (by omega) ht
    have hmono : ∀ k, LeO (jetsamref13_Comment.l0 k s i) (jetsamref13_Comment.l0 (k + 1) s i) := fun k => (jetsamref13_Comment.mono_l k).1 _ _
    have h1 : (i : Int) < s.size := by omega
    have hl : i < s.data.toList.length := by rw [Array.length_toList]; exact hlt
    obtain ⟨b, hb⟩ : ∃ b, s.data.toList[i]? = some b := ⟨_, List.getElem?_eq_getElem hl⟩
    have hbt := bt_nat s i b hb
    have hsp : s.data.toList = s.data.toList.take i ++ b :: s.data.toList.drop (i + 1) := by
      have e := (List.take_append_drop i s.data.toList).symm
      rw [List.drop_eq_getElem_cons hl, (List.getElem?_eq_some_iff.1 hb).2] at e
      exact e
    have hpl : (s.data.toList.take i).length = i := by rw [List.length_take]; omega
    by_cases hq : b = 61
    · subst hq
      have hnp : (61 : UInt8) ∉ s.data.toList.take i := fun h => (ht _ h).1 rfl
      have hcb := comB_app s _ _ hsp hnp
      have hix := ib_app 61 _ (s.data.toList.drop (i + 1)) hnp
      rw [← hsp, hpl] at hix
      have hall : (s.data.toList.take i).all (fun b => decide (32 ≤ b.toNat ∧ b.toNat ≤ 125)) = true := by
        rw [List.all_eq_true]
        intro x hx
        exact decide_eq_true (ht x hx).2
      rw [hall] at hcb
      by_cases h0 : i = 0
      · subst h0
        refine Ev.of hmono (k := 0 + 2) ?_
        rw [jetsamref13_Comment.l0, if_pos h1, if_pos (by omega), if_pos (by rw [hbt]; rfl), if_pos (by omega), jetsamref13_Comment.j1, if_pos rfl, comF, hcb]
        rfl
      · obtain ⟨K, hK⟩ := text_ev s hs
        have hK1 : jetsamref13_Text.f (K + 1) s = some (Lib.validD s.data.toList) := hK (K + 1) (by omega)
        refine Ev.of hmono (k := (K + 1) + 1) ?_
        rw [jetsamref13_Comment.l0, if_pos h1, if_pos (by omega), if_pos (by rw [hbt]; rfl), if_neg (by omega), hK1, Option.bind_some, jetsamref13_Comment.j1, comF, hcb, hix]
        have : (s.data.toList.take i).isEmpty = false := by
          rw [List.isEmpty_eq_false_iff]
          intro e
          rw [e] at hpl
          simp at hpl
          omega
        rw [this]
        cases Lib.validD s.data.toList <;> rfl
    · have hne : ¬ ((b.toNat : Int) = 61) := by
        intro e
        exact hq (UInt8.toNat_inj.1 (by simpa using Int.ofNat_inj.1 e))
      by_cases hr : 32 ≤ b.toNat ∧ b.toNat ≤ 125
      · obtain ⟨K, hK⟩ := comment_from s hs n (i + 1) hlt (by omega) (by
          intro x hx
          rw [List.take_succ_eq_append_getElem hl, (List.getElem?_eq_some_iff.1 hb).2] at hx
          rcases List.mem_append.1 hx with h | h
          · exact ht x h
          · rw [List.mem_singleton.1 h]
            exact ⟨hq, hr⟩)
        refine Ev.of hmono (k := K + 1) ?_
        rw [jetsamref13_Comment.l0, if_pos h1, if_pos (by omega), hbt, if_neg hne, if_neg (by omega), if_neg (by omega), IntWalk.wrap64_in _ (by omega)]
        exact hK K (Nat.le_refl _)
      · have hcf : comF s = -1 := by
          unfold comF
          rcases split_at 61 s.data.toList with h | ⟨p, r, h, hp⟩
          · rw [comB_none s h]; rfl
          · rw [comB_app s p r h hp]
            have hbp : b ∈ p := by
              rcases Nat.lt_or_ge i p.length with hip | hip
              · rw [h, List.getElem?_append_left hip] at hb
                exact List.mem_of_getElem? hb
              · exfalso
                rcases Nat.eq_or_lt_of_le hip with e | e
                · rw [h, ← e, List.getElem?_append_right (Nat.le_refl _)] at hb
                  simp at hb
                  exact hq hb.symm
                · have h61 : (61 : UInt8) ∈ s.data.toList.take i := by
                    rw [h, List.take_append, List.mem_append]
                    right
                    obtain ⟨m, hm⟩ : ∃ m, i - p.length = m + 1 := ⟨i - p.length - 1, by omega⟩
                    rw [hm]
                    simp
                  exact (ht _ h61).1 rfl
            have hf : p.all (fun b => decide (32 ≤ b.toNat ∧ b.toNat ≤ 125)) = false := by
              rw [List.all_eq_false]
              exact ⟨b, hbp, by simpa using hr⟩
            rw [hf]
            simp
        rw [hcf]
        refine Ev.of hmono (k := 0 + 1) ?_
        rw [jetsamref13_Comment.l0, if_pos h1, if_pos (by omega), hbt, if_neg hne]
        split
        · rfl
        · rw [if_pos (by omega)]
theorem comment_ev (s : ByteArray) (hs : s.size ≤ 1099511627776) : Ev (fun k => jetsamref13_Comment.f k s) (comF s) := by
  have h := comment_from s hs s.size 0 (Nat.zero_le _) (by omega) (by simp)
  exact h
/-! few, texts, same -/
def fewB (v : ByteArray) (L : List ByteArray) : Bool := L.all (fun s => decide (s.size ≤ 200)) && decide (L.length ≤ 20) && decide (v.size ≤ 200)
theorem rdOf_at {α : Type} (d : α) (L : List α) (i : Nat) (h : i < L.length) : rdOf d L (i : Int) = L[i] := by
  unfold rdOf
  rw [List.getD_eq_getElem?_getD, show ((i : Int)).toNat = i by omega, List.getElem?_eq_getElem h]
  rfl
theorem few_from (v : ByteArray) (L : List ByteArray) (hL : L.length ≤ 9223372036854775807) : ∀ (n i : Nat), i ≤ L.length → L.length - i ≤ n → Ev (fun k => jetsamlaw13_few.l0 k i v L) ((L.drop i).all (fun s => decide (s.size ≤ 200)) && decide (L.length ≤ 20) && decide (v.size ≤ 200))
  | 0, i, hi, hn => by
    obtain rfl : i = L.length := by omega
    refine ⟨1, fun k hk => ?_⟩
    obtain ⟨m, rfl⟩ : ∃ m, k = m + 1 := ⟨k - 1, by omega⟩
    show jetsamlaw13_few.l0 (m + 1) _ v L = _
    rw [jetsamlaw13_few.l0, if_neg (by omega), List.drop_of_length_le (Nat.le_refl _)]
    by_cases h : L.length ≤ 20
    · rw [if_pos (by omega), decide_eq_true h]
      have : decide ((v.size : Int) ≤ 200) = decide (v.size ≤ 200) := by rw [Bool.eq_iff_iff]; simp; omega
      rw [this]
      simp
    · rw [if_neg (by omega), decide_eq_false h]
      simp
  | n + 1, i, hi, hn => by
    rcases Nat.lt_or_ge i L.length with hlt | hge
    case inr => exact few_from v L hL n i hi (by omega)
    have hmono : ∀ k, LeO (jetsamlaw13_few.l0 k i v L) (jetsamlaw13_few.l0 (k + 1) i v L) := fun k => jetsamlaw13_few.mono_l k _ _ _
    have hrd := rdOf_at ByteArray.empty L i hlt
    have hd : L.drop i = L[i] :: L.drop (i + 1) := List.drop_eq_getElem_cons hlt
    rw [hd]
    have ih := few_from v L hL n (i + 1) hlt (by omega)
    generalize L.drop (i + 1) = tl at *
    clear hd
    by_cases h : (L[i].size : Int) > 200
    · refine Ev.of hmono (k := 0 + 1) ?_
      rw [jetsamlaw13_few.l0, if_pos (by omega), if_pos (by omega), hrd, if_pos h]
      have : ¬ L[i].size ≤ 200 := by omega
      simp [this]
    · obtain ⟨K, hK⟩ := ih
      refine Ev.of hmono (k := K + 1) ?_
      rw [jetsamlaw13_few.l0, if_pos (by omega), if_pos (by omega), hrd, if_neg h, IntWalk.wrap64_in _ (by omega)]
      have h' : L[i].size ≤ 200 := by omega
      have := hK K (Nat.le_refl _)
      simpa [h'] using this
theorem few_ev (v : ByteArray) (L : List ByteArray) (hL : L.length ≤ 9223372036854775807) : Ev (fun k => jetsamlaw13_few.f k v L) (fewB v L) := by
  have h := few_from v L hL L.length 0 (Nat.zero_le _) (by omega)
  exact h
theorem texts_from (L M : List ByteArray) (hL : L.length ≤ 9223372036854775807) (hM : L.length = M.length) : ∀ (n i : Nat), i ≤ L.length → L.length - i ≤ n → Ev (fun k => jetsamlaw13_texts.l0 k L M i) (decide (L.drop i = M.drop i))
  | 0, i, hi, hn => by
    obtain rfl : i = L.length := by omega
    refine ⟨1, fun k hk => ?_⟩
    obtain ⟨m, rfl⟩ : ∃ m, k = m + 1 := ⟨k - 1, by omega⟩
    show jetsamlaw13_texts.l0 (m + 1) L M _ = _
    rw [jetsamlaw13_texts.l0, if_neg (by omega), List.drop_of_length_le (Nat.le_refl _), List.drop_of_length_le (by omega)]
    rfl
  | n + 1, i, hi, hn => by
    rcases Nat.lt_or_ge i L.length with hlt | hge
    case inr => exact texts_from L M hL hM n i hi (by omega)
    have hmono : ∀ k, LeO (jetsamlaw13_texts.l0 k L M i) (jetsamlaw13_texts.l0 (k + 1) L M i) := fun k => jetsamlaw13_texts.mono_l k _ _ _
    have hltM : i < M.length := by omega
    have hrd := rdOf_at ByteArray.empty L i hlt
    have hrdM := rdOf_at ByteArray.empty M i hltM
    rw [List.drop_eq_getElem_cons hlt, List.drop_eq_getElem_cons hltM]
    have ih := texts_from L M hL hM n (i + 1) hlt (by omega)
    generalize L.drop (i + 1) = tl at *
    generalize M.drop (i + 1) = tm at *
    by_cases h : L[i] = M[i]
    · obtain ⟨K, hK⟩ := ih
      refine Ev.of hmono (k := K + 1) ?_
      rw [jetsamlaw13_texts.l0, if_pos (by omega), if_pos (by omega), if_pos (by omega), hrd, hrdM, if_pos (by rw [h]), IntWalk.wrap64_in _ (by omega)]
      have := hK K (Nat.le_refl _)
      simpa [h] using this
    · refine Ev.of hmono (k := 0 + 1) ?_
      rw [jetsamlaw13_texts.l0, if_pos (by omega), if_pos (by omega), if_pos (by omega), hrd, hrdM, if_neg (by have := str_ne h; simpa using this)]
      simp [h]
theorem texts_ev (L M : List ByteArray) (hL : L.length ≤ 9223372036854775807) : Ev (fun k => jetsamlaw13_texts.f k L M) (decide (L = M)) := by
  unfold jetsamlaw13_texts.f
  by_cases h : L.length = M.length
  · have hh : (L.length : Int) = (M.length : Int) := by omega
    simp only [hh, if_true]
    exact texts_from L M hL h L.length 0 (Nat.zero_le _) (by omega)
  · have hh : ¬ (L.length : Int) = (M.length : Int) := by omega
    simp only [hh, if_false]
    have : ¬ L = M := fun e => h (by rw [e])
    rw [decide_eq_false this]
    exact ⟨0, fun _ _ => rfl⟩
def foldN (b : UInt8) : Int := if 65 ≤ b.toNat ∧ b.toNat ≤ 90 then b.toNat + 32 else b.toNat
def sameB (a b : ByteArray) : Bool := decide (a.data.toList.map foldN = b.data.toList.map foldN)
theorem fold_f (b : UInt8) : jetsamlaw13_fold.f (b.toNat : Int) = some (foldN b) := by
  unfold jetsamlaw13_fold.f foldN
  have := b.toNat_lt
  by_cases h : 65 ≤ b.toNat
  · by_cases h' : b.toNat ≤ 90
    · rw [if_pos (by omega), if_pos (by omega), if_pos ⟨h, h'⟩]
      congr 1
      omega
    · rw [if_pos (by omega), if_neg (by omega), if_neg (by omega)]
  · rw [if_neg (by omega), if_neg (by omega)]
theorem same_from (a b : ByteArray) (ha : a.size ≤ 1099511627776) (hab : a.size = b.size) : ∀ (n i : Nat), i ≤ a.size → a.size - i ≤ n → Ev (fun k => jetsamlaw13_same.l0 k a b i) (decide ((a.data.toList.drop i).map foldN = (b.data.toList.drop i).map foldN))
  | 0, i, hi, hn => by
    obtain rfl : i = a.size := by omega
    refine ⟨1, fun k hk => ?_⟩
    obtain ⟨m, rfl⟩ : ∃ m, k = m + 1 := ⟨k - 1, by omega⟩
    show jetsamlaw13_same.l0 (m + 1) a b _ = _
    rw [jetsamlaw13_same.l0, if_neg (by omega), List.drop_of_length_le (by rw [data_length]; exact Nat.le_refl _), List.drop_of_length_le (by rw [data_length]; omega)]
    rfl
  | n + 1, i, hi, hn => by
    rcases Nat.lt_or_ge i a.size with hlt | hge
    case inr => exact same_from a b ha hab n i hi (by omega)
    have hmono : ∀ k, LeO (jetsamlaw13_same.l0 k a b i) (jetsamlaw13_same.l0 (k + 1) a b i) := fun k => jetsamlaw13_same.mono_l k _ _ _
    have hla : i < a.data.toList.length := by rw [data_length]; exact hlt
    have hlb : i < b.data.toList.length := by rw [data_length]; omega
    have hba := bt_nat a i _ (List.getElem?_eq_getElem hla)
    have hbb := bt_nat b i _ (List.getElem?_eq_getElem hlb)
    rw [List.drop_eq_getElem_cons hla, List.drop_eq_getElem_cons hlb]
    generalize a.data.toList[i] = x at *
    generalize b.data.toList[i] = y at *
    by_cases h : foldN x = foldN y
    · obtain ⟨K, hK⟩ := same_from a b ha hab n (i + 1) hlt (by omega)
      refine Ev.of hmono (k := K + 1) ?_
      rw [jetsamlaw13_same.l0, if_pos (by omega), if_pos (by omega), hba, fold_f, Option.bind_some, if_pos (by omega), hbb, fold_f, Option.bind_some, if_pos h, IntWalk.wrap64_in _ (by omega)]
      have := hK K (Nat.le_refl _)
      simpa [h] using this
    · refine Ev.of hmono (k := 0 + 1) ?_
      rw [jetsamlaw13_same.l0, if_pos (by omega), if_pos (by omega), hba, fold_f, Option.bind_some, if_pos (by omega), hbb, fold_f, Option.bind_some, if_neg h]
      simp [h]
theorem same_ev (a b : ByteArray) (ha : a.size ≤ 1099511627776) : Ev (fun k => jetsamlaw13_same.f k a b) (sameB a b) := by
  unfold jetsamlaw13_same.f
  by_cases h : a.size = b.size
  · have hh : (a.size : Int) = (b.size : Int) := by omega
    simp only [hh, if_true]
    exact same_from a b ha h a.size 0 (Nat.zero_le _) (by omega)
  · have hh : ¬ (a.size : Int) = (b.size : Int) := by omega
    simp only [hh, if_false]
    have : ¬ a.data.toList.map foldN = b.data.toList.map foldN := fun e => h (by have := congrArg List.length e; simpa [data_length] using this)
    rw [sameB, decide_eq_false this]
    exact ⟨0, fun _ _ => rfl⟩
end Go.Proofs.YtbjdipbhclihfaaDoor.Plain
set_option linter.unusedVariables false
set_option linter.unusedSimpArgs false
namespace Go.Proofs.YtbjdipbhclihfaaDoor.Plain
open Go.RowKit Go.Proofs.YtbjdipbhclihfaaDoorW.PrintWords Go.Proofs.YtbjdipbhclihfaaDoorW.PrintMore PTagsGets
theorem map_ascii : ∀ l : List UInt8, (∀ b ∈ l, b.toNat < 128) → (Lib.mapD smallF l).map (fun b => (b.toNat : Int)) = l.map foldN
  | [], _ => by simp [Lib.mapD, Lib.mapGoD]
  | b :: t, h => by
    have hb : b.toNat < 128 := h b (by simp)
    rw [Lib.mapD_step _ _ (by simp), Lib.decodeL_ascii b t hb]
    simp only [List.drop_succ_cons, List.drop_zero, List.map_append, List.map_cons]
    have ih := map_ascii t (fun x hx => h x (by simp [hx]))
    rw [ih]
    have hs : 0 ≤ smallF (b.toNat : Int) ∧ smallF (b.toNat : Int) ≤ 127 ∧ smallF (b.toNat : Int) = foldN b := by
      unfold smallF foldN
      split
      · rw [if_pos (by omega)]; omega
      · rw [if_neg (by omega)]; omega
    obtain ⟨h0, h1, h2⟩ := hs
    rw [if_pos h0, Lib.encodeRune, Lib.encodeRuneZ, if_pos ⟨h0, h1⟩, h2]
    rw [h2] at h0 h1
    simp only [List.map_cons, List.map_nil, List.singleton_append, List.cons.injEq, and_true]
    have : (foldN b).toNat.toUInt8.toNat = (foldN b).toNat := by
      rw [UInt8.toNat_ofNat']
      omega
    rw [this]
    omega
theorem map_inj_toNat : ∀ l m : List UInt8, l.map (fun b => (b.toNat : Int)) = m.map (fun b => (b.toNat : Int)) → l = m
  | [], [], _ => rfl
  | [], _ :: _, h => by simp at h
  | _ :: _, [], h => by simp at h
  | a :: l, b :: m, h => by
    simp only [List.map_cons, List.cons.injEq] at h
    have e : a = b := UInt8.toNat_inj.1 (Int.ofNat_inj.1 h.1)
    rw [e, map_inj_toNat l m h.2]
def Asc7 (s : ByteArray) : Prop := ∀ b ∈ s.data.toList, b.toNat < 128
theorem small_same (a b : ByteArray) (ha : Asc7 a) (hb : Asc7 b) : (smallB a = smallB b) = (sameB a b = true) := by
  have ea := map_ascii a.data.toList ha
  have eb := map_ascii b.data.toList hb
  unfold smallB sameB
  apply propext
  constructor
  · intro h
    have h' : Lib.mapD smallF a.data.toList = Lib.mapD smallF b.data.toList := by
      have := congrArg (fun x : ByteArray => x.data.toList) h
      simpa using this
    exact decide_eq_true (by rw [← ea, ← eb, h'])
  · intro h
    have h := of_decide_eq_true h
    rw [← ea, ← eb] at h
    rw [map_inj_toNat _ _ h]
def wantF (nm : ByteArray) (s : ByteArray) : Option ByteArray := if 0 ≤ comF s ∧ sameB (s.extract 0 (comF s).toNat) nm = true then some (s.extract ((comF s).toNat + 1) s.size) else none
theorem com_some (s : ByteArray) (h : commentB s = true) : 0 ≤ comF s ∧ comF s < s.size ∧ cutB s 61 = (s.extract 0 (comF s).toNat, s.extract ((comF s).toNat + 1) s.size, true) ∧ Asc7 (s.extract 0 (comF s).toNat) := by
  rcases split_at 61 s.data.toList with hs | ⟨p, r, hs, hp⟩
  · rw [comB_none s hs] at h; cases h
  · have hi := ib_app 61 p r hp
    rw [← hs] at hi
    have hc : comF s = p.length := by unfold comF; rw [if_pos h, hi]
    have hl := congrArg List.length hs
    rw [data_length, List.length_append, List.length_cons] at hl
    rw [comB_app s p r hs hp] at h
    refine ⟨by omega, by omega, ?_, ?_⟩
    · unfold cutB
      rw [hi, if_neg (by omega), hc]
    · unfold Asc7
      rw [ext0, hc, hs]
      intro b hb
      simp only [Int.toNat_natCast, List.take_left'] at hb
      simp only [Bool.and_eq_true, List.all_eq_true] at h
      have := of_decide_eq_true (h.1.2 b hb)
      omega
theorem want_get (nm s : ByteArray) (h : commentB s = true) (hn : Asc7 nm) : getF nm s = wantF nm s := by
  obtain ⟨h0, h1, hc, ha⟩ := com_some s h
  unfold getF wantF
  rw [hc]
  simp only [true_and, h0]
  simp only [small_same _ _ ha hn]
theorem want_all (nm : ByteArray) (L : List ByteArray) (h : ∀ s ∈ L, commentB s = true) (hn : Asc7 nm) : getB nm L = L.filterMap (wantF nm) := by
  unfold getB
  induction L with
  | nil => rfl
  | cons s L ih =>
    rw [List.filterMap_cons, List.filterMap_cons, want_get nm s (h s (by simp)) hn, ih (fun x hx => h x (by simp [hx]))]
end Go.Proofs.YtbjdipbhclihfaaDoor.Plain
set_option linter.unusedVariables false
namespace Go.Proofs.YtbjdipbhclihfaaDoor
open Go.RowKit Go.Proofs Go.Proofs.YtbjdipbhclihfaaDoorW.PrintWords Plain
theorem few9 (v : ByteArray) (A : Option Addr) (c : Nat) (L : List ByteArray) (w : World) (hr : Kd.string.C w A L.length L) (hc : L.length ≤ c) :
    Calls Tryd.prog 9 #[.agg #[.string v, .slice A L.length c]] w fun e w' => e = .returned (.bool (fewB v L)) ∧ Below w.heap.size w w' := by
  obtain ⟨k, hk⟩ := (few_ev v L (C_len hr)).rounds
  exact PTagsGets.jetsamlaw13_few.calls k v A c L _ w hr hc hk
theorem texts15 (A : Option Addr) (c : Nat) (L : List ByteArray) (A2 : Option Addr) (c2 : Nat) (M : List ByteArray) (w : World) (hr : Kd.string.C w A L.length L) (hc : L.length ≤ c) (hr2 : Kd.string.C w A2 M.length M) (hc2 : M.length ≤ c2) :
    Calls Tryd.prog 15 #[.slice A L.length c, .slice A2 M.length c2] w fun e w' => e = .returned (.bool (decide (L = M))) ∧ Drawn0 w w' := by
  obtain ⟨k, hk⟩ := (texts_ev L M (C_len hr)).rounds
  exact PTagsGets.jetsamlaw13_texts.calls k A c L A2 c2 M _ w hr hc hr2 hc2 hk
theorem same13 (a b : ByteArray) (w : World) (ha : a.size ≤ 1099511627776) :
    Calls Tryd.prog 13 #[.string a, .string b] w fun e w' => e = .returned (.bool (sameB a b)) ∧ Drawn0 w w' := by
  obtain ⟨k, hk⟩ := (same_ev a b ha).rounds
  exact PTagsGets.jetsamlaw13_same.calls k a b _ w hk
theorem comment12 (s : ByteArray) (w : World) (hs : s.size ≤ 1099511627776) :
    Calls Tryd.prog 12 #[.string s] w fun e w' => e = .returned (.int .i64 (comF s)) ∧ Drawn0 w w' := by
  obtain ⟨k, hk⟩ := (comment_ev s hs).rounds
  exact PTagsGets.jetsamref13_Comment.calls k s _ w hk
theorem bytes_from (L M : List Int) (hL : L.length ≤ 9223372036854775807) (hM : L.length = M.length) : ∀ (n i : Nat), i ≤ L.length → L.length - i ≤ n → Ev (fun k => PTagsGets.jetsamlaw11_Bytes.l0 k L M i) (decide (L.drop i = M.drop i))
  | 0, i, hi, hn => by
    obtain rfl : i = L.length := by omega
    refine ⟨1, fun k hk => ?_⟩
    obtain ⟨m, rfl⟩ : ∃ m, k = m + 1 := ⟨k - 1, by omega⟩
    show PTagsGets.jetsamlaw11_Bytes.l0 (m + 1) L M _ = _
    rw [PTagsGets.jetsamlaw11_Bytes.l0, if_neg (by omega), List.drop_of_length_le (Nat.le_refl _), List.drop_of_length_le (by omega)]
    rfl
  | n + 1, i, hi, hn => by
    rcases Nat.lt_or_ge i L.length with hlt | hge
    case inr => exact bytes_from L M hL hM n i hi (by omega)
    have hmono : ∀ k, LeO (PTagsGets.jetsamlaw11_Bytes.l0 k L M i) (PTagsGets.jetsamlaw11_Bytes.l0 (k + 1) L M i) := fun k => PTagsGets.jetsamlaw11_Bytes.mono_l k _ _ _
    have hltM : i < M.length := by omega
    have hrd : rd L i = L[i] := rdOf_at (0 : Int) L i hlt
    have hrdM : rd M i = M[i] := rdOf_at (0 : Int) M i hltM
    rw [List.drop_eq_getElem_cons hlt, List.drop_eq_getElem_cons hltM]
    have ih := bytes_from L M hL hM n (i + 1) hlt (by omega)
    generalize L.drop (i + 1) = tl at *
    generalize M.drop (i + 1) = tm at *
    by_cases h : L[i] = M[i]
    · obtain ⟨K, hK⟩ := ih
      refine Ev.of hmono (k := K + 1) ?_
      rw [PTagsGets.jetsamlaw11_Bytes.l0, if_pos (by omega), if_pos (by omega), if_pos (by omega), hrd, hrdM, if_pos h, IntWalk.wrap64_in _ (by omega)]
      have := hK K (Nat.le_refl _)
      simpa [h] using this
    · refine Ev.of hmono (k := 0 + 1) ?_
      rw [PTagsGets.jetsamlaw11_Bytes.l0, if_pos (by omega), if_pos (by omega), if_pos (by omega), hrd, hrdM, if_neg h]
      simp [h]
theorem bytes_ev (L M : List Int) (hL : L.length ≤ 9223372036854775807) : Ev (fun k => PTagsGets.jetsamlaw11_Bytes.f k L M) (decide (L = M)) := by
  unfold PTagsGets.jetsamlaw11_Bytes.f
  by_cases h : L.length = M.length
  · have hh : (L.length : Int) = (M.length : Int) := by omega
    simp only [hh, if_true]
    exact bytes_from L M hL h L.length 0 (Nat.zero_le _) (by omega)
  · have hh : ¬ (L.length : Int) = (M.length : Int) := by omega
    simp only [hh, if_false]
    have : ¬ L = M := fun e => h (by rw [e])
    rw [decide_eq_false this]
    exact ⟨0, fun _ _ => rfl⟩
theorem bytes18 (A : Option Addr) (c : Nat) (L : List Int) (A2 : Option Addr) (c2 : Nat) (M : List Int) (w : World) (hr : (Kd.int .u8).C w A L.length L) (hc : L.length ≤ c) (hr2 : (Kd.int .u8).C w A2 M.length M) (hc2 : M.length ≤ c2) :
    Calls Tryd.prog 18 #[.slice A L.length c, .slice A2 M.length c2] w fun e w' => e = .returned (.bool (decide (L = M))) ∧ Drawn0 w w' := by
  obtain ⟨k, hk⟩ := (bytes_ev L M (C_len hr)).rounds
  exact PTagsGets.jetsamlaw11_Bytes.calls k A c L A2 c2 M _ w hr hc hr2 hc2 hk
def exA : ByteArray := ⟨#[65, 61, 98]⟩
def exL : List Int := [1, 0, 0, 0, 120, 1, 0, 0, 0, 3, 0, 0, 0, 65, 61, 98]
theorem ex_ok : commentB exA = true := by decide +kernel
theorem ex_bytes : commentsBytes ⟨#[120]⟩ [exA] = exL := by decide +kernel
theorem ex_get : getB ⟨#[97]⟩ [exA] = [⟨#[98]⟩] := by decide +kernel
theorem row16 (W : World) : (Kd.int .u8).C (W.alloc (.cells #[.int .u8 1, .int .u8 0, .int .u8 0, .int .u8 0, .int .u8 120, .int .u8 1, .int .u8 0, .int .u8 0, .int .u8 0, .int .u8 3, .int .u8 0, .int .u8 0, .int .u8 0, .int .u8 65, .int .u8 61, .int .u8 98] 5)) (some ⟨W.heap.size, 0, none⟩) 16 exL := by
  refine C_lit1 rfl (blk_new W _) exL (by show 16 ≤ 9223372036854775807; decide) fun j p hj => ?_
  have hj' : j < 16 := (List.getElem?_eq_some_iff.1 hj).1
  match j, hj' with
  | 0, _ | 1, _ | 2, _ | 3, _ | 4, _ | 5, _ | 6, _ | 7, _ | 8, _ | 9, _ | 10, _ | 11, _ | 12, _ | 13, _ | 14, _ | 15, _ =>
    simp [exL] at hj
    subst hj
    exact ⟨_, rfl, rfl⟩
set_option maxRecDepth 100000 in
theorem awake10 (w : World) (hG : Glob w) : Calls Tryd.prog 10 #[] w fun e w' => e = .returned (.bool true) ∧ Below w.heap.size w w' := by
  have HG := Lib.hid hG
  clear hG
  have HA := Lib.hid (below_alloc (Below.refl w.heap.size w) (.cells #[.string exA] 9))
  go_enter Tryd.func10, Tryd.ntmps10
  go_wp2_with (fail)
  have hb0 : Below w.heap.size w ((w.alloc (.cells #[.string exA] 9)).alloc (.cells #[.string ⟨#[120]⟩, .slice (some ⟨w.heap.size, 0, none⟩) 1 1] 24)) := below_alloc HA.out _
  have hC0 : Kd.string.C ((w.alloc (.cells #[.string exA] 9)).alloc (.cells #[.string ⟨#[120]⟩, .slice (some ⟨w.heap.size, 0, none⟩) 1 1] 24)) (some ⟨w.heap.size, 0, none⟩) [exA].length [exA] := Kd.C_below (row1s w exA) (below_alloc (Below.refl _ _) _)
  have hk := blk_new (w.alloc (.cells #[.string exA] 9)) (.cells #[.string ⟨#[120]⟩, .slice (some ⟨w.heap.size, 0, none⟩) 1 1] 24)
  rw [show (w.alloc (.cells #[.string exA] 9)).heap.size = w.heap.size + 1 from by simp] at hk
  have HW := write11_yes ⟨#[120]⟩ _ 1 [exA] _ hC0 (by decide +kernel) (by decide +kernel) (show (1 : Nat) ≤ 9223372036854775807 by decide) (by intro s hs; rw [List.mem_singleton.1 hs]; exact (show (3 : Nat) ≤ 9223372036854775807 by decide)) (HG.out.below hb0) (by rw [ex_bytes]; decide)
  rw [ex_bytes] at HW
  change Calls Tryd.prog 11 #[.agg #[.string ⟨#[120]⟩, .slice (some ⟨w.heap.size, 0, none⟩) 1 1]] ((w.alloc (.cells #[.string exA] 9)).alloc (.cells #[.string ⟨#[120]⟩, .slice (some ⟨w.heap.size, 0, none⟩) 1 1] 24)) _
  generalize (w.alloc (.cells #[.string exA] 9)).alloc (.cells #[.string ⟨#[120]⟩, .slice (some ⟨w.heap.size, 0, none⟩) 1 1] 24) = W0 at *
  have HB0 := Lib.hid hb0
  have HC0 := Lib.hid hC0
  have HK := Lib.hid hk
  clear hb0 hC0 hk HA
  refine HW.mono ?_
  rintro e w1 ⟨u, rfl, hu, hb1⟩
  clear HW
  obtain ⟨A, c, rfl, hl, hC⟩ := RB.of_BYT hu
  have HR := Lib.hid hC
  have HL := Lib.hid hl
  have HB1 := Lib.hid (HB0.out.trans (hb1.mono HB0.out.size))
  have HC1 := Lib.hid (Kd.C_below HC0.out hb1)
  have hk1 := blk_below HK.out hb1
  clear hC hl hu hb1 HB0 HC0 HK
  have hm1 : Below w1.heap.size w1 (w1.alloc (.cells #[.int .u8 1, .int .u8 0, .int .u8 0, .int .u8 0, .int .u8 120, .int .u8 1, .int .u8 0, .int .u8 0, .int .u8 0, .int .u8 3, .int .u8 0, .int .u8 0, .int .u8 0, .int .u8 65, .int .u8 61, .int .u8 98] 5)) := below_alloc (Below.refl _ _) _
  have HB2 := Lib.hid (HB1.out.trans (hm1.mono HB1.out.size))
  have HR2 := Lib.hid (Kd.C_below HR.out hm1)
  have HC2 := Lib.hid (Kd.C_below HC1.out hm1)
  have hk2 := blk_below hk1 hm1
  have HX2 := Lib.hid (row16 w1)
  clear HB1 HR HC1 hk1 hm1
  go_wp2_with (fail)
  generalize hw2 : w1.alloc (.cells #[.int .u8 1, .int .u8 0, .int .u8 0, .int .u8 0, .int .u8 120, .int .u8 1, .int .u8 0, .int .u8 0, .int .u8 0, .int .u8 3, .int .u8 0, .int .u8 0, .int .u8 0, .int .u8 65, .int .u8 61, .int .u8 98] 5) = w2 at *
  go_at_call 18
  refine (bytes18 _ _ exL _ 16 exL w2 HR2.out HL.out HX2.out (by decide)).mono ?_
  rintro e w3 ⟨rfl, n, rfl⟩
  rw [decide_eq_true rfl]
  have HB3 := Lib.hid (pw_below_drewN HB2.out n)
  have HC3 := Lib.hid (Kd.C_below HC2.out (pw_below_drewN (Below.refl _ _) n))
  have hk3 := blk_drewN hk2 n
  clear HB2 HR2 HC2 hk2 HX2 hw2
  have hc0 := blk_cell hk3 0
  have hc1 := blk_cell hk3 1
  simp only [List.getElem?_toArray, List.getElem?_cons_zero, List.getElem?_cons_succ] at hc0 hc1
  go_wp2_with (fail)
  generalize w2.drewN n = w3 at *
  go_at_call 16
  refine (get16 ⟨#[120]⟩ ⟨#[97]⟩ _ 1 [exA] w3 HC3.out (by decide) (by decide) (by intro s hs; rw [List.mem_singleton.1 hs]; exact (show (3 : Nat) < 35184372088832 by decide)) (show (1 : Nat) < 35184372088832 by decide) (HG.out.below HB3.out)).mono ?_
  rintro e w4 ⟨u, rfl, hu, hb4⟩
  rw [ex_get] at hu
  obtain ⟨A4, c4, rfl, hl4, hC4⟩ := Kd.R_reads hu
  have hm4 : Below w4.heap.size w4 (w4.alloc (.cells #[.string ⟨#[98]⟩] 9)) := below_alloc (Below.refl _ _) _
  have HR4 := Lib.hid (Kd.C_below hC4 hm4)
  have HL4 := Lib.hid hl4
  have hb34 := HB3.out.trans (hb4.mono HB3.out.size)
  have HB4 := Lib.hid (hb34.trans (hm4.mono hb34.size))
  have HX4 := Lib.hid (row1s w4 ⟨#[98]⟩)
  clear HB3 HC3 hk3 hc0 hc1 hu hb4 hC4 hl4 hm4 hb34
  go_wp2_with (fail)
  generalize w4.alloc (.cells #[.string ⟨#[98]⟩] 9) = w5 at *
  go_at_call 15
  refine (texts15 _ _ [⟨#[98]⟩] _ 1 [⟨#[98]⟩] w5 HR4.out HL4.out HX4.out (by decide)).mono ?_
  rintro e w6 ⟨rfl, n6, rfl⟩
  rw [decide_eq_true rfl]
  have HB6 := Lib.hid (pw_below_drewN HB4.out n6)
  clear HB4 HR4 HX4
  go_wp2_with (fail)
  go_ret
  exact ⟨rfl, HB6.out⟩
end Go.Proofs.YtbjdipbhclihfaaDoor
set_option linter.unusedVariables false
namespace Go.Proofs.YtbjdipbhclihfaaDoor
open Go.RowKit Go.Proofs Go.Proofs.YtbjdipbhclihfaaDoorW.PrintWords Plain
theorem fin3 {w w0 W W' : World} (h0 : Below w.heap.size w w0) (h1 : Below w0.heap.size w0 W) (h2 : Below W.heap.size W W') : Below w.heap.size w W' := h0.trans ((h1.trans (h2.mono h1.size)).mono h0.size)
theorem fm_step {α β : Type} (f : α → Option β) (L : List α) (kk : Nat) (h : kk < L.length) : (L.take (kk + 1)).filterMap f = (L.take kk).filterMap f ++ (f L[kk]).toList := by
  rw [List.take_succ_eq_append_getElem h, List.filterMap_append]
  cases hg : f L[kk] <;> simp [hg]
theorem low4_len (n : Int) : (low4 n).length = 4 := rfl
theorem few_len (v : ByteArray) (L : List ByteArray) (h : fewB v L = true) : v.size ≤ 200 ∧ L.length ≤ 20 ∧ ∀ s ∈ L, s.size ≤ 200 := by
  unfold fewB at h
  simp only [Bool.and_eq_true, List.all_eq_true, decide_eq_true_eq] at h
  exact ⟨h.2, h.1.2, h.1.1⟩
theorem cb_len (v : ByteArray) (L : List ByteArray) (h : fewB v L = true) : (commentsBytes v L).length ≤ 16777215 := by
  obtain ⟨h1, h2, h3⟩ := few_len v L h
  unfold commentsBytes
  simp only [List.length_append, bytesOf_length, low4_len, List.length_flatten]
  have : ∀ L : List ByteArray, (∀ s ∈ L, s.size ≤ 200) → (L.map fun s => low4 s.size ++ bytesOf s).flatten.length ≤ 204 * L.length := by
    intro L
    induction L with
    | nil => intro _; simp
    | cons s L ih =>
      intro hs
      have a := ih (fun x hx => hs x (by simp [hx]))
      have b := hs s (by simp)
      simp only [List.map_cons, List.flatten_cons, List.length_append, bytesOf_length, low4_len, List.length_cons]
      omega
  have := this L h3
  rw [List.length_flatten] at this
  omega
theorem write11 (v : ByteArray) (A : Option Addr) (c : Nat) (L : List ByteArray) (w : World) (hr : Kd.string.C w A L.length L) (h : fewB v L = true) (hG : Glob w) :
    Calls Tryd.prog 11 #[.agg #[.string v, .slice A L.length c]] w fun e w' => ∃ u, e = .returned (.tuple #[u, .int .i64 (if writeOk v L = true then 0 else 12)]) ∧ Below w.heap.size w w' := by
  obtain ⟨h1, h2, h3⟩ := few_len v L h
  have hf : Fits v := Nat.le_trans h1 (by decide)
  have hF : ∀ s ∈ L, Fits s := fun s hs => Nat.le_trans (h3 s hs) (by decide)
  unfold writeOk
  cases hv : Lib.validD v.data.toList with
  | false => exact (write11_no1 v A c L w hv hf hG).mono fun e w' ⟨he, hb⟩ => ⟨_, he, hb⟩
  | true =>
    cases hL : L.any fun s => !commentB s with
    | true => exact (write11_no2 v A c L w hr hv hL hf hF hG).mono fun e w' ⟨he, hb⟩ => ⟨_, he, hb⟩
    | false => exact (write11_yes v A c L w hr hv hL hf hF hG (cb_len v L h)).mono fun e w' ⟨u, he, _, hb⟩ => ⟨u, he, hb⟩
set_option maxHeartbeats 4000000 in
set_option maxRecDepth 100000 in
theorem gets3 (v nm : ByteArray) (A : Option Addr) (c : Nat) (L : List ByteArray) (A2 : Option Addr) (c2 : Nat) (l : List ByteArray) (w : World) (hr : Kd.string.C w A L.length L) (hc : L.length ≤ c) (hr2 : Kd.string.C w A2 l.length l) (hc2 : l.length ≤ c2) (hG : Glob w) (hnm : nm.size ≤ 9223372036854775807) :
    Calls Tryd.prog 3 #[.agg #[.string v, .slice A L.length c], .string nm, .slice A2 l.length c2] w fun e w' => e = .returned (.bool true) ∧ Below w.heap.size w w' := by
  have HNM := Lib.hid hnm
  have hb0 : Below w.heap.size w (w.alloc (.cells #[.string v, .slice A L.length c] 24)) := below_alloc (Below.refl _ _) _
  have HR := Lib.hid (Kd.C_below hr hb0)
  have HR2 := Lib.hid (Kd.C_below hr2 hb0)
  have HC := Lib.hid hc
  have HC2 := Lib.hid hc2
  have HG := Lib.hid (hG.below hb0)
  have HB0 := Lib.hid hb0
  have hk0 := blk_new w (.cells #[.string v, .slice A L.length c] 24)
  have hfew := few9 v A c L _ HR.out HC.out
  clear hr hr2 hc hc2 hG hb0 hnm
  go_enter Tryd.func3, Tryd.ntmps3
  go_wp2_with (fail)
  generalize w.alloc (.cells #[.string v, .slice A L.length c] 24) = w0 at *
  have HAW : ∀ W, Hid (Below w0.heap.size w0 W) → Calls Tryd.prog 10 #[] W fun e w' => e = .returned (.bool true) ∧ Below W.heap.size W w' := fun W h => awake10 W (HG.out.below h.out)
  replace HAW := Lib.hid HAW
  cases hf : fewB v L with
  | false =>
    rw [hf] at hfew
    refine hfew.mono ?_
    rintro e w1 ⟨rfl, hb1⟩
    have HB1 := Lib.hid hb1
    clear hfew hb1
    go_wp2_with (fail)
    refine (HAW.out w1 HB1).mono ?_
    rintro e w2 ⟨rfl, hb2⟩
    have HB2 := Lib.hid (HB0.out.trans ((HB1.out.trans (hb2.mono HB1.out.size)).mono HB0.out.size))
    clear hb2 HB1
    go_wp2_with (fail)
    go_ret
    exact ⟨rfl, HB2.out⟩
  | true =>
    rw [hf] at hfew
    refine hfew.mono ?_
    rintro e w1 ⟨rfl, hb1⟩
    have HB1 := Lib.hid hb1
    clear hfew hb1
    by_cases hl : l.length > 20
    · have hl' : (l.length : Int) > 20 := by omega
      go_wp2_with (fail)
      refine (HAW.out _ HB1).mono ?_
      rintro e w9 ⟨rfl, hb9⟩
      have HB9 := Lib.hid (fin3 HB0.out HB1.out hb9)
      clear hb9
      go_wp2_with (fail)
      go_ret
      exact ⟨rfl, HB9.out⟩
    · have hl' : ¬ (l.length : Int) > 20 := by omega
      by_cases hn : nm.size > 100
      · have hn' : (nm.size : Int) > 100 := by omega
        go_wp2_with (fail)
        refine (HAW.out _ HB1).mono ?_
        rintro e w9 ⟨rfl, hb9⟩
        have HB9 := Lib.hid (fin3 HB0.out HB1.out hb9)
        clear hb9
        go_wp2_with (fail)
        go_ret
        exact ⟨rfl, HB9.out⟩
      · have hn' : ¬ (nm.size : Int) > 100 := by omega
        go_wp2_with (fail)
        go_loopg [7] nm.size (fun gg s7 wr => ∃ kk : Nat, kk ≤ nm.size ∧ nm.size - kk ≤ gg ∧ s7 = .int .i64 kk ∧ Hid (∀ b ∈ nm.data.toList.take kk, b.toNat < 128) ∧ w1 = wr)
        case atStart => exact ⟨0, Nat.zero_le _, by omega, rfl, Lib.hid (by simp), rfl⟩
        case round =>
          obtain ⟨kk, hkk, hg, rfl, HT, rfl⟩ := hrel
          by_cases hlt : kk < nm.size
          · have hltz : (kk : Int) < (nm.size : Int) := by omega
            have hll : kk < nm.data.toList.length := by rw [data_length]; exact hlt
            by_cases hbig : nm[kk].toNat > 127
            · have hbz : (nm[kk].toNat : Int) > 127 := by omega
              go_wp2_with (fail)
              refine (HAW.out _ HB1).mono ?_
              rintro e w9 ⟨rfl, hb9⟩
              have HB9 := Lib.hid (fin3 HB0.out HB1.out hb9)
              clear hb9
              go_wp2_with (fail)
              go_ret
              exact ⟨rfl, HB9.out⟩
            · have hbz : ¬ (nm[kk].toNat : Int) > 127 := by omega
              have HT2 : Hid (∀ b ∈ nm.data.toList.take (kk + 1), b.toNat < 128) := by
                rw [List.take_succ_eq_append_getElem hll]
                refine Lib.hid fun b hb => ?_
                rcases List.mem_append.1 hb with h | h
                · exact HT.out b h
                · rw [List.mem_singleton.1 h]
                  have : nm.data.toList[kk] = nm[kk] := rfl
                  rw [this]
                  omega
              go_wp2_with (fail)
              go_roundg (nm.size - (kk + 1))
              case measure => omega
              case rel => exact ⟨kk + 1, by omega, by omega, by go_num, HT2, rfl⟩
          · have hltz : ¬ (kk : Int) < (nm.size : Int) := by omega
            have hasc : Asc7 nm := by
              have h := HT.out
              rw [List.take_of_length_le (by rw [data_length]; omega)] at h
              exact h
            have HASC := Lib.hid hasc
            clear hasc HT
            have hk1 := blk_below hk0 HB1.out
            have hc0 := blk_cell hk1 0
            have hc1 := blk_cell hk1 1
            simp only [List.getElem?_toArray, List.getElem?_cons_zero, List.getElem?_cons_succ] at hc0 hc1
            go_wp2_with (fail)
            refine (write11 v A c L w1 (Kd.C_below HR.out HB1.out) hf (HG.out.below HB1.out)).mono ?_
            rintro e w2 ⟨u, rfl, hb2⟩
            have HB2 := Lib.hid (HB1.out.trans (hb2.mono HB1.out.size))
            have hk2 := blk_below hk1 hb2
            clear hb2 hc0 hc1 hk1 HB1
            by_cases hwo : writeOk v L = true
            case neg =>
              rw [if_neg hwo]
              go_wp2_with (fail)
              refine (HAW.out _ HB2).mono ?_
              rintro e w9 ⟨rfl, hb9⟩
              have HB9 := Lib.hid (fin3 HB0.out HB2.out hb9)
              clear hb9
              go_wp2_with (fail)
              go_ret
              exact ⟨rfl, HB9.out⟩
            case pos =>
              rw [if_pos hwo]
              obtain ⟨hv2, hL20, hs200⟩ := few_len v L hf
              have hcom : ∀ s ∈ L, commentB s = true := by
                intro s hs
                unfold writeOk at hwo
                simp only [Bool.and_eq_true, Bool.not_eq_true', List.any_eq_false] at hwo
                have := hwo.2 s hs
                simpa using this
              have HS := Lib.hid hs200
              have HCOM := Lib.hid hcom
              have HK2 := Lib.hid hk2
              clear hs200 hcom hk2
              go_wp2_with (fail)
              go_loopg [10, 11] L.length (fun gg s10 s11 wr => ∃ kk : Nat, kk ≤ L.length ∧ L.length - kk ≤ gg ∧ s11 = .int .i64 kk ∧ Hid (STR wr w2.heap.size s10 ((L.take kk).filterMap (wantF nm))) ∧ Hid (Below w2.heap.size w2 wr))
              case atStart => exact ⟨0, Nat.zero_le _, by omega, rfl, Lib.hid (Kd.R_nil _ _ _ _ _), Lib.hid (Below.refl _ _)⟩
              case round =>
                obtain ⟨kk, hkk, hg, rfl, HV, HB⟩ := hrel
                have HK3 := Lib.hid (blk_below HK2.out HB.out)
                have hc0 := blk_cell HK3.out 0
                have hc1 := blk_cell HK3.out 1
                simp only [List.getElem?_toArray, List.getElem?_cons_zero, List.getElem?_cons_succ] at hc0 hc1
                have HB3 := Lib.hid (HB2.out.trans (HB.out.mono HB2.out.size))
                by_cases hlt : kk < L.length
                · have hltz : (kk : Int) < (L.length : Int) := by omega
                  have hst := fm_step (wantF nm) L kk hlt
                  obtain ⟨ad, rfl, hcell⟩ := str_at HR.out kk hlt
                  replace hcell := pw_cell_below HB3.out hcell
                  have hsz := HS.out L[kk] (List.getElem_mem hlt)
                  have hcm := HCOM.out L[kk] (List.getElem_mem hlt)
                  have hle : ((L.take kk).filterMap (wantF nm)).length ≤ kk := Nat.le_trans (List.length_filterMap_le _ _) (by rw [List.length_take]; omega)
                  generalize L[kk] = s at hst hcell hsz hcm
                  generalize hnx : (L.take (kk + 1)).filterMap (wantF nm) = nx at hst
                  have HNX := Lib.hid hnx
                  clear hnx
                  generalize (L.take kk).filterMap (wantF nm) = pre at hst HV hle
                  obtain ⟨h0, h1, -, -⟩ := com_some s hcm
                  have hcom12 := fun W => comment12 s W (by omega)
                  unfold wantF at hst
                  generalize comF s = q at hst h0 h1 hcom12
                  obtain ⟨q, rfl⟩ : ∃ q' : Nat, q = (q' : Int) := ⟨q.toNat, by omega⟩
                  have HCOM12 := Lib.hid hcom12
                  clear hcom12 hcm
                  simp only [Int.toNat_natCast, h0, true_and] at hst
                  have hqq : (q : Int) + 1 ≤ (s.size : Int) := by omega
                  have hsame := fun W => same13 (s.extract 0 q) nm W (Nat.le_trans (extract_le _ _ _) (by omega))
                  have HSAME := Lib.hid hsame
                  clear hsame
                  have HDR := fun n => pw_below_drewN (Below.refl wr.heap.size wr) n
                  cases hsm : sameB (s.extract 0 q) nm with
                  | false =>
                    rw [hsm] at hst HSAME
                    have HST := Lib.hid (show nx = pre by simpa using hst)
                    clear hst hsm
                    go_wp2_with (first | (go_at_call 12; refine (HCOM12.out _).mono ?_; rintro e w' ⟨rfl, ⟨nd, rfl⟩⟩) | (go_at_call 13; refine (HSAME.out _).mono ?_; rintro e w' ⟨rfl, ⟨ne, rfl⟩⟩))
                    go_roundg (L.length - (kk + 1))
                    case measure => omega
                    case rel => exact ⟨kk + 1, by omega, by omega, by go_num, by rw [HNX.out, HST.out]; exact Lib.hid (Kd.R_below HV.out (HDR _)), Lib.hid (pw_below_drewN HB.out _)⟩
                  | true =>
                    rw [hsm] at hst HSAME
                    have HST := Lib.hid (show nx = pre ++ [s.extract (q + 1) s.size] by simpa using hst)
                    clear hst hsm
                    go_wp2_with (first | (go_at_call 12; refine (HCOM12.out _).mono ?_; rintro e w' ⟨rfl, ⟨nd, rfl⟩⟩) | (go_at_call 13; refine (HSAME.out _).mono ?_; rintro e w' ⟨rfl, ⟨ne, rfl⟩⟩) | (at_builtin; refine Kd.R_append_row Value.string ByteArray.empty (h1 := fun _ => rfl) (w0 := w2) w2.heap.size rfl (.tmp 74) (.tmp 83) 22 9 (.string ⟨#[]⟩) 16 rfl Tryd.underlying22 infoS rfl (by decide) _ pre [s.extract (q + 1) s.size] _ 1 1 (fun _ => True) rfl rfl (fun _ _ => trivial) (Kd.R_below HV.out (below_alloc (HDR (nd + ne)) _)) (row1s (wr.drewN (nd + ne)) (s.extract (q + 1) s.size)) (below_alloc (pw_below_drewN HB.out _) _) (Nat.le_trans HB.out.size (below_alloc (HDR (nd + ne)) _).size) (by omega) ?_; intro v1 w4 hR4 hB4 _ _; have HR4 := Lib.hid hR4; have HB4 := Lib.hid hB4; clear hR4 hB4))
                    go_roundg (L.length - (kk + 1))
                    case measure => omega
                    case rel => exact ⟨kk + 1, by omega, by omega, by go_num, by rw [HNX.out, HST.out]; exact HR4, HB4⟩
                · have hltz : ¬ (kk : Int) < (L.length : Int) := by omega
                  go_wp2_with (fail)
                  rw [List.take_of_length_le (show L.length ≤ kk by omega)] at HV
                  rw [← want_all nm L HCOM.out HASC.out] at HV
                  obtain ⟨AW, cw, rfl, hlw, hCW⟩ := Kd.R_reads HV.out
                  refine (with14 v A c L A2 c2 l wr (Kd.C_below HR.out HB3.out) HC.out (Kd.C_below HR2.out HB3.out) HC2.out (by omega)).mono ?_
                  rintro e w4 ⟨ud, rfl, hud, hb4⟩
                  obtain ⟨AD, cd, rfl, hld, hCD⟩ := Kd.R_reads hud
                  have hm4 : Below w4.heap.size w4 (w4.alloc (.cells #[.string v, .slice AD (L ++ l).length cd] 24)) := below_alloc (Below.refl _ _) _
                  have hk4 := blk_new w4 (.cells #[.string v, .slice AD (L ++ l).length cd] 24)
                  have hkc := blk_below (blk_below HK3.out hb4) hm4
                  have HW4 := Lib.hid (Kd.C_below hCW (hb4.trans (hm4.mono hb4.size)))
                  have HD4 := Lib.hid (Kd.C_below hCD hm4)
                  have HLW := Lib.hid hlw
                  have HLD := Lib.hid hld
                  have HB5 := Lib.hid (HB3.out.trans ((hb4.trans (hm4.mono hb4.size)).mono HB3.out.size))
                  have HR5 := Lib.hid (Kd.C_below HR.out HB5.out)
                  have HR25 := Lib.hid (Kd.C_below HR2.out HB5.out)
                  clear HV HB3 HB HK3 hc0 hc1 hud hCD hCW hb4 hm4 hlw hld
                  obtain ⟨nd, hnd⟩ : ∃ nd, (L ++ l).length = nd := ⟨_, rfl⟩
                  obtain ⟨nw, hnw⟩ : ∃ nw, (getB nm L).length = nw := ⟨_, rfl⟩
                  rw [hnd] at hk4 HD4 HLD hkc HW4 HR5 HR25 HB5
                  rw [hnw] at HW4 HLW
                  have HND := Lib.hid hnd
                  have HNW := Lib.hid hnw
                  simp only [hnd, hnw]
                  clear hnd hnw
                  have hc5 := blk_cell hkc 1
                  simp only [List.getElem?_toArray, List.getElem?_cons_zero, List.getElem?_cons_succ] at hc5
                  go_wp2_with (at_builtin; refine Kd.R_append_row Value.string ByteArray.empty (h1 := fun _ => rfl) (w0 := w4.alloc (.cells #[.string v, .slice AD nd cd] 24)) (w4.alloc (.cells #[.string v, .slice AD nd cd] 24)).heap.size rfl (.tmp 88) (.tmp 90) 22 9 (.string ⟨#[]⟩) 16 rfl Tryd.underlying22 infoS rfl (by decide) _ [] L A L.length c (fun _ => True) rfl rfl (fun _ _ => trivial) (Kd.R_nil _ _ _ _ _) HR5.out (Below.refl _ _) (Nat.le_refl _) (by simp; omega) ?_)
                  intro v6 w6 hR6 hB6 _ _
                  have hsz5 : (w4.alloc (.cells #[.string v, .slice AD nd cd] 24)).heap.size = w4.heap.size + 1 := by simp
                  rw [← hsz5] at hR6 hB6
                  generalize w4.alloc (.cells #[.string v, .slice AD nd cd] 24) = w5 at *
                  have HR6 := Lib.hid hR6
                  have HB6 := Lib.hid hB6
                  clear hR6 hB6 hc5
                  go_wp2_with (at_builtin; refine Kd.R_append_row Value.string ByteArray.empty (h1 := fun _ => rfl) (w0 := w5) w5.heap.size rfl (.tmp 92) (.tmp 93) 22 9 (.string ⟨#[]⟩) 16 rfl Tryd.underlying22 infoS rfl (by decide) _ L l A2 l.length c2 (fun _ => True) rfl rfl (fun _ _ => trivial) HR6.out (Kd.C_below HR25.out HB6.out) HB6.out HB6.out.size (by omega) ?_)
                  intro v7 w7 hR7 hB7 _ _
                  rw [← hsz5] at hR7 hB7
                  obtain ⟨AX, cx, rfl, hlx, hCX⟩ := Kd.R_reads hR7
                  have hkc7 := blk_below hkc hB7
                  have hk47 := blk_below hk4 hB7
                  have HX7 := Lib.hid hCX
                  have HLX := Lib.hid hlx
                  have HW7 := Lib.hid (Kd.C_below HW4.out hB7)
                  have HD7 := Lib.hid (Kd.C_below HD4.out hB7)
                  have HB7 := Lib.hid (HB5.out.trans (hB7.mono HB5.out.size))
                  clear hR7 hB7 HR6 HB6 hkc hk4 HW4 HD4 HR5 HR25 HB5 hCX hlx
                  rw [HND.out] at HX7 HLX
                  rw [HND.out]
                  have hc7 := blk_cell hkc7 0
                  have hc7' := blk_cell hkc7 1
                  simp only [List.getElem?_toArray, List.getElem?_cons_zero, List.getElem?_cons_succ] at hc7 hc7'
                  go_wp2_with (fail)
                  go_at_call 16
                  refine (get16 v nm A c L w7 (Kd.C_below HR.out HB7.out) HC.out (by omega) (fun s hs => Nat.lt_of_le_of_lt (HS.out s hs) (by decide)) (by omega) (HG.out.below HB7.out)).mono ?_
                  rintro e w8 ⟨u8, rfl, hu8, hb8⟩
                  obtain ⟨AG, cg, rfl, hlg, hCG⟩ := Kd.R_reads hu8
                  have HB8 := Lib.hid (HB7.out.trans (hb8.mono HB7.out.size))
                  have HG8 := Lib.hid hCG
                  have HLG := Lib.hid hlg
                  have HW8 := Lib.hid (Kd.C_below HW7.out hb8)
                  have HD8 := Lib.hid (Kd.C_below HD7.out hb8)
                  have HX8 := Lib.hid (Kd.C_below HX7.out hb8)
                  have hkc8 := blk_below hkc7 hb8
                  have hk48 := blk_below hk47 hb8
                  clear hu8 hCG hlg hb8 HB7 HW7 HD7 HX7 hkc7 hk47 hc7 hc7'
                  rw [HNW.out] at HG8 HLG ⊢
                  go_wp2_with (fail)
                  go_at_call 15
                  have HT := texts15 AG cg (getB nm L) AW cw (getB nm L) w8
                  rw [HNW.out] at HT
                  refine (HT HG8.out HLG.out HW8.out HLW.out).mono ?_
                  rintro e w9 ⟨rfl, n9, rfl⟩
                  rw [decide_eq_true rfl]
                  have hd9 := pw_below_drewN (Below.refl w8.heap.size w8) n9
                  have HB9 := Lib.hid (pw_below_drewN HB8.out n9)
                  have HD9 := Lib.hid (Kd.C_below HD8.out hd9)
                  have HX9 := Lib.hid (Kd.C_below HX8.out hd9)
                  have hkc9 := blk_drewN hkc8 n9
                  have hk49 := blk_drewN hk48 n9
                  clear HT hd9 HB8 HG8 HW8 HD8 HX8 hkc8 hk48
                  have d1 := blk_cell hkc9 0
                  have d2 := blk_cell hk49 0
                  have d3 := blk_cell hk49 1
                  simp only [List.getElem?_toArray, List.getElem?_cons_zero, List.getElem?_cons_succ] at d1 d2 d3
                  go_wp2_with (fail)
                  generalize w8.drewN n9 = w9 at *
                  go_at_call 15
                  have HT := texts15 AD cd (L ++ l) AX cx (L ++ l) w9
                  rw [HND.out] at HT
                  refine (HT HD9.out HLD.out HX9.out HLX.out).mono ?_
                  rintro e w10 ⟨rfl, n10, rfl⟩
                  rw [decide_eq_true rfl]
                  have HB10 := Lib.hid (pw_below_drewN HB9.out n10)
                  clear HT HB9 HD9 HX9 d1 d2 d3 hkc9 hk49
                  go_wp2_with (fail)
                  go_at_call 10
                  refine (HAW.out _ HB10).mono ?_
                  rintro e w11 ⟨rfl, hb11⟩
                  have HB11 := Lib.hid (fin3 HB0.out HB10.out hb11)
                  clear hb11
                  go_wp2_with (fail)
                  go_ret
                  exact ⟨rfl, HB11.out⟩
end Go.Proofs.YtbjdipbhclihfaaDoor
