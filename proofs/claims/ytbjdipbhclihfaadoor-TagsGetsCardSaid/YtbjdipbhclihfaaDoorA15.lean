import Derived.Test.YtbjdipbhclihfaaDoorA14
set_option linter.unusedVariables false
namespace Go.Proofs.YtbjdipbhclihfaaDoor
open Go.RowKit Go.Proofs Go.Proofs.YtbjdipbhclihfaaDoorW.PrintWords
def getF (nm : ByteArray) (s : ByteArray) : Option ByteArray := if (cutB s 61).2.2 = true ∧ smallB (cutB s 61).1 = smallB nm then some (cutB s 61).2.1 else none
def getB (nm : ByteArray) (L : List ByteArray) : List ByteArray := L.filterMap (getF nm)
theorem str_ne {a b : ByteArray} (h : ¬ a = b) : (a.toList == b.toList) = false := by
  rw [ByteArray.toList_eq, ByteArray.toList_eq, beq_eq_false_iff_ne]
  intro e
  exact h (by cases a; cases b; congr; exact Array.toList_inj.1 e)
theorem row1s (W : World) (v : ByteArray) : Kd.string.C (W.alloc (.cells #[.string v] 9)) (some ⟨W.heap.size, 0, none⟩) 1 [v] := by
  refine C_lit1 rfl (blk_new W _) [v] (by show 1 ≤ 9223372036854775807; decide) fun j p hj => ?_
  match j, hj with
  | 0, hj => simp at hj; subst hj; exact ⟨_, rfl, rfl⟩
theorem getB_step (nm : ByteArray) (L : List ByteArray) (kk : Nat) (h : kk < L.length) : getB nm (L.take (kk + 1)) = getB nm (L.take kk) ++ (getF nm L[kk]).toList := by
  unfold getB
  rw [List.take_succ_eq_append_getElem h, List.filterMap_append]
  cases hg : getF nm L[kk] <;> simp [hg]
theorem getB_le (nm : ByteArray) (L : List ByteArray) : (getB nm L).length ≤ L.length := List.length_filterMap_le _ _
set_option maxRecDepth 100000 in
theorem get16 (v nm : ByteArray) (A : Option Addr) (c : Nat) (L : List ByteArray) (w : World) (hr : Kd.string.C w A L.length L) (hc : L.length ≤ c) (hl : L.length ≤ 1099511627776) (hs : ∀ s ∈ L, s.size < 35184372088832) (hn : nm.size < 35184372088832) (hG : Glob w) :
    Calls Tryd.prog 16 #[.agg #[.string v, .slice A L.length c], .string nm] w fun e w' => ∃ u, e = .returned u ∧ STR w' w.heap.size u (getB nm L) ∧ Below w.heap.size w w' := by
  have hm := C_len hr
  have HR := Lib.hid hr
  have HC := Lib.hid hc
  have HS := Lib.hid hs
  have HN := Lib.hid hn
  have HG := Lib.hid hG
  have HA := Lib.hid (below_alloc (Below.refl w.heap.size w) (.cells #[.string v, .slice A L.length c] 24))
  clear hr hc hs hn hG
  go_enter Tryd.func16, Tryd.ntmps16
  go_wp2
  go_loopg [5, 14] L.length (fun gg s5 s14 wr => ∃ kk : Nat, kk ≤ L.length ∧ L.length - kk ≤ gg ∧ s14 = .int .i64 kk ∧ Hid (STR wr w.heap.size s5 (getB nm (L.take kk))) ∧ Hid (Below w.heap.size w wr))
  case atStart => exact ⟨0, Nat.zero_le _, by omega, rfl, Lib.hid (Kd.R_nil _ _ _ _ _), HA⟩
  case round =>
    obtain ⟨kk, hkk, hg, rfl, HV, HB⟩ := hrel
    by_cases hlt : kk < L.length
    · have hltz : (kk : Int) < (L.length : Int) := by omega
      have hst := getB_step nm L kk hlt
      obtain ⟨ad, rfl, hcell⟩ := str_at HR.out kk hlt
      replace hcell := pw_cell_below HB.out hcell
      have hsz := HS.out L[kk] (List.getElem_mem hlt)
      have hle := getB_le nm (L.take kk)
      rw [List.length_take] at hle
      generalize L[kk] = s at hst hcell hsz
      generalize hnx : getB nm (L.take (kk + 1)) = nx at hst
      have HNX := Lib.hid hnx
      clear hnx
      generalize getB nm (L.take kk) = pre at hst HV hle
      have hcut := cut44 s 61
      have hk1 := cutB_le s 61
      cases hcb : cutB s 61 with | mk k p =>
      obtain ⟨vv, is⟩ := p
      rw [hcb] at hk1
      simp only [hcb] at hcut
      unfold getF at hst
      simp only [hcb] at hst
      have hks : k.size < 35184372088832 := Nat.lt_of_le_of_lt hk1 hsz
      have hss : s.size ≤ 9223372036854775807 := by omega
      have HKS := Lib.hid hks
      have HSS := Lib.hid hss
      have HCUT := Lib.hid hcut
      clear hcb hk1 hks hss hsz hcut
      cases is with
      | false =>
        have HST := Lib.hid (show nx = pre by simpa using hst)
        clear hst
        go_wp2_with (go_at_call 44; refine (HCUT.out _ HSS.out).mono ?_; rintro e w' ⟨rfl, ⟨nd, rfl⟩⟩)
        go_roundg (L.length - (kk + 1))
        case measure => omega
        case rel => exact ⟨kk + 1, by omega, by omega, by go_num, by rw [HNX.out, HST.out]; exact Lib.hid (Kd.R_below HV.out (pw_below_drewN (Below.refl _ _) _)), Lib.hid (pw_below_drewN HB.out _)⟩
      | true =>
        by_cases heq : smallB k = smallB nm
        · have HST := Lib.hid (show nx = pre ++ [vv] by simpa [heq] using hst)
          clear hst
          go_wp2_with (go_at_call 44; refine (HCUT.out _ HSS.out).mono ?_; rintro e w2 ⟨rfl, ⟨nd, rfl⟩⟩)
          go_at_call 45
          have HB1 := Lib.hid (pw_below_drewN HB.out nd)
          refine (small45 k _ HKS.out (HG.out.below HB1.out)).mono ?_
          rintro e w2 ⟨rfl, hb2⟩
          have HB2 := Lib.hid (HB1.out.trans (hb2.mono HB1.out.size))
          have HV2 := Lib.hid (Kd.R_below HV.out ((pw_below_drewN (Below.refl _ _) nd).trans hb2))
          clear hb2 HV HB HB1
          go_wp2_with (fail)
          go_at_call 45
          refine (small45 nm _ HN.out (HG.out.below HB2.out)).mono ?_
          rintro e w3 ⟨rfl, hb3⟩
          have HB3 := Lib.hid (HB2.out.trans (hb3.mono HB2.out.size))
          have HV3 := Lib.hid (Kd.R_below HV2.out hb3)
          clear hb3 HV2 HB2
          have HA3 := Lib.hid (below_alloc (Below.refl w3.heap.size w3) (.cells #[.string vv] 9))
          go_wp2_with (at_builtin; refine Kd.R_append_row Value.string ByteArray.empty (h1 := fun _ => rfl) (w0 := w) w.heap.size rfl (.tmp 32) (.tmp 34) 22 9 (.string ⟨#[]⟩) 16 rfl Tryd.underlying22 infoS rfl (by decide) _ pre [vv] _ 1 1 (fun _ => True) rfl rfl (fun _ _ => trivial) (Kd.R_below HV3.out HA3.out) (row1s w3 vv) (HB3.out.trans (HA3.out.mono HB3.out.size)) (Nat.le_trans HB3.out.size HA3.out.size) (by omega) ?_)
          intro v1 w4 hR4 hB4 _ _
          have HR4 := Lib.hid hR4
          have HB4 := Lib.hid hB4
          clear hR4 hB4
          go_wp2
          go_roundg (L.length - (kk + 1))
          case measure => omega
          case rel => exact ⟨kk + 1, by omega, by omega, by go_num, by rw [HNX.out, HST.out]; exact HR4, HB4⟩
        · have HST := Lib.hid (show nx = pre by simpa [heq] using hst)
          clear hst
          have hbeq : ((smallB k).toList == (smallB nm).toList) = false := str_ne heq
          go_wp2_with (go_at_call 44; refine (HCUT.out _ HSS.out).mono ?_; rintro e w2 ⟨rfl, ⟨nd, rfl⟩⟩)
          go_at_call 45
          have HB1 := Lib.hid (pw_below_drewN HB.out nd)
          refine (small45 k _ HKS.out (HG.out.below HB1.out)).mono ?_
          rintro e w2 ⟨rfl, hb2⟩
          have HB2 := Lib.hid (HB1.out.trans (hb2.mono HB1.out.size))
          have HV2 := Lib.hid (Kd.R_below HV.out ((pw_below_drewN (Below.refl _ _) nd).trans hb2))
          clear hb2 HV HB HB1
          go_wp2_with (fail)
          go_at_call 45
          refine (small45 nm _ HN.out (HG.out.below HB2.out)).mono ?_
          rintro e w3 ⟨rfl, hb3⟩
          have HB3 := Lib.hid (HB2.out.trans (hb3.mono HB2.out.size))
          have HV3 := Lib.hid (Kd.R_below HV2.out hb3)
          clear hb3 HV2 HB2
          go_wp2_with (fail)
          go_roundg (L.length - (kk + 1))
          case measure => omega
          case rel => exact ⟨kk + 1, by omega, by omega, by go_num, by rw [HNX.out, HST.out]; exact HV3, HB3⟩
    · have hltz : ¬ (kk : Int) < (L.length : Int) := by omega
      have hfull : L.take kk = L := List.take_of_length_le (by omega)
      rw [hfull] at HV
      clear hfull
      go_wp2
      go_ret
      exact ⟨_, rfl, HV.out, HB.out⟩
end Go.Proofs.YtbjdipbhclihfaaDoor
