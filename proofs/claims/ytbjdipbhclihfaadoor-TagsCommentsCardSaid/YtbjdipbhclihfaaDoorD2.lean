/- TagsComments: at every comments and bytes the law's call returns true, and each argument reads as it did: which bytes comments are, which comments bytes are, and what is wrong with either. Conditions: the package variables unicode/utf8.first and unicode/utf8.acceptRanges start as the library's text lays them; the card ties that to the text. -/
import Derived.Test.YtbjdipbhclihfaaDoorD0
set_option linter.unusedVariables false
set_option linter.unusedSimpArgs false
namespace Go.Proofs.YtbjdipbhclihfaaDoor
open Go.RowKit Go.Proofs Go.Proofs.YtbjdipbhclihfaaDoorW.PrintWords Plain
set_option maxHeartbeats 1000000 in
set_option maxRecDepth 100000 in
theorem coms4 (v : ByteArray) (A : Option Addr) (c : Nat) (L : List ByteArray) (A2 : Option Addr) (c2 : Nat) (bs : List Int) (w : World) (hr : Kd.string.C w A L.length L) (hc : L.length ≤ c) (hr2 : (Kd.int .u8).C w A2 bs.length bs) (hc2 : bs.length ≤ c2) (hby : ByteL bs) (hG : Glob w) :
    Calls Tryd.prog 4 #[.agg #[.string v, .slice A L.length c], .slice A2 bs.length c2] w fun e w' => e = .returned (.bool true) ∧ Below w.heap.size w w' := by
  have hb0 : Below w.heap.size w (w.alloc (.cells #[.string v, .slice A L.length c] 24)) := below_alloc (Below.refl _ _) _
  have HR := Lib.hid (Kd.C_below hr hb0)
  have HR2 := Lib.hid (Kd.C_below hr2 hb0)
  have HC := Lib.hid hc
  have HC2 := Lib.hid hc2
  have HBY := Lib.hid hby
  have HG := Lib.hid (hG.below hb0)
  have HB0 := Lib.hid hb0
  have hk0 := blk_new w (.cells #[.string v, .slice A L.length c] 24)
  have hfew := few9 v A c L _ HR.out HC.out
  clear hr hr2 hc hc2 hG hb0 hby
  go_enter Tryd.func4, Tryd.ntmps4
  go_wp2_with (fail)
  generalize w.alloc (.cells #[.string v, .slice A L.length c] 24) = w0 at *
  have HAW : ∀ W, Hid (Below w0.heap.size w0 W) → Calls Tryd.prog 10 #[] W fun e w' => e = .returned (.bool true) ∧ Below W.heap.size W w' := fun W h => awake10 W (HG.out.below h.out)
  replace HAW := Lib.hid HAW
  cases hf : fewB v L with
  | false =>
    rw [hf] at hfew
    refine hfew.mono ?_
    rintro e w1 ⟨rfl, hb1⟩
    have HB1 := Lib.hid hb1
    clear hfew hb1
    go_wp2_with (fail)
    refine (HAW.out _ HB1).mono ?_
    rintro e w9 ⟨rfl, hb9⟩
    have HB9 := Lib.hid (fin3 HB0.out HB1.out hb9)
    clear hb9
    go_wp2_with (fail)
    go_ret
    exact ⟨rfl, HB9.out⟩
  | true =>
    rw [hf] at hfew
    refine hfew.mono ?_
    rintro e w1 ⟨rfl, hb1⟩
    have HB1 := Lib.hid hb1
    have hk1 := blk_below hk0 hb1
    clear hfew hb1
    by_cases hl : bs.length > 500
    · have hl' : (bs.length : Int) > 500 := by omega
      go_wp2_with (fail)
      refine (HAW.out _ HB1).mono ?_
      rintro e w9 ⟨rfl, hb9⟩
      have HB9 := Lib.hid (fin3 HB0.out HB1.out hb9)
      clear hb9
      go_wp2_with (fail)
      go_ret
      exact ⟨rfl, HB9.out⟩
    · have hl' : ¬ (bs.length : Int) > 500 := by omega
      have hsz := cb_len v L hf
      have hc0 := blk_cell hk1 0
      have hc1 := blk_cell hk1 1
      simp only [List.getElem?_toArray, List.getElem?_cons_zero, List.getElem?_cons_succ] at hc0 hc1
      go_wp2_with (fail)
      refine (write11g v A c L w1 (Kd.C_below HR.out HB1.out) hsz (HG.out.below HB1.out)).mono ?_
      rintro e w2 ⟨u, rfl, hu, hb2⟩
      have HB2 := Lib.hid (HB1.out.trans (hb2.mono HB1.out.size))
      have hk2 := blk_below hk1 hb2
      obtain ⟨A3, c3, rfl, hl3, hC3⟩ := RB.of_BYT hu
      have HX := Lib.hid hC3
      have HLX := Lib.hid hl3
      clear hb2 hu hc0 hc1 hk1 HB1 hl3 hC3
      have hc0 := blk_cell hk2 0
      have hc1 := blk_cell hk2 1
      simp only [List.getElem?_toArray, List.getElem?_cons_zero, List.getElem?_cons_succ] at hc0 hc1
      obtain ⟨ee, hee⟩ : ∃ ee : Int, (if writeOk v L = true then (0 : Int) else 12) = ee := ⟨_, rfl⟩
      obtain ⟨xx, hxx⟩ : ∃ xx : List Int, (if writeOk v L = true then commentsBytes v L else []) = xx := ⟨_, rfl⟩
      rw [hee]
      rw [hxx] at HX HLX ⊢
      have HEE := Lib.hid hee
      have HXX := Lib.hid hxx
      clear hee hxx
      go_wp2_with (fail)
      refine (ref17 v A c L w2 (Kd.C_below HR.out HB2.out) HC.out hsz).mono ?_
      rintro e w3 ⟨u, rfl, hu, hb3⟩
      rw [HXX.out] at hu
      rw [HEE.out]
      have HB3 := Lib.hid (HB2.out.trans (hb3.mono HB2.out.size))
      have hk3 := blk_below hk2 hb3
      obtain ⟨A4, c4, rfl, hl4, hC4⟩ := RB.of_BYT hu
      have HX3 := Lib.hid (Kd.C_below HX.out hb3)
      have HY3 := Lib.hid hC4
      have HLY := Lib.hid hl4
      clear hb3 hu hc0 hc1 hk2 HB2 hl4 hC4 HX
      go_wp2_with (fail)
      refine (bytes18 A3 c3 xx A4 c4 xx w3 HX3.out HLX.out HY3.out HLY.out).mono ?_
      rintro e w4 ⟨rfl, ⟨n4, rfl⟩⟩
      rw [decide_eq_true rfl]
      have HB4 := Lib.hid (pw_below_drewN HB3.out n4)
      have hk4 := blk_drewN hk3 n4
      clear hk3 HB3 HX3 HY3
      generalize w3.drewN n4 = w4 at *
      have HRD := Lib.hid (read19 A2 c2 bs w4 (Kd.C_below HR2.out HB4.out) HC2.out HBY.out (by omega) (HG.out.below HB4.out))
      go_wp2_with (fail)
      refine HRD.out.mono ?_
      rintro e w5 ⟨u, rfl, hu, hb5⟩
      obtain ⟨A5, c5, rfl, hl5, hC5⟩ := hu
      have hm5 : Below w5.heap.size w5 (w5.alloc (.cells #[.string (readB bs).1, .slice A5 (readB bs).2.1.length c5] 24)) := below_alloc (Below.refl _ _) _
      have HB5 := Lib.hid (HB4.out.trans ((hb5.trans (hm5.mono hb5.size)).mono HB4.out.size))
      have hk5 := blk_new w5 (.cells #[.string (readB bs).1, .slice A5 (readB bs).2.1.length c5] 24)
      have HD5 := Lib.hid (Kd.C_below hC5 hm5)
      have HLD := Lib.hid hl5
      clear hb5 hm5 hC5 hl5 HRD HB4 hk4
      have HRF : ∀ W, Below w0.heap.size w0 W → Calls Tryd.prog 20 #[.slice A2 bs.length c2] W fun r W' => RefRd W W' bs r := fun W hW => ref20 A2 c2 bs W (Kd.C_below HR2.out hW) HC2.out HBY.out (by omega)
      replace HRF := Lib.hid HRF
      have HRR : Hid (∀ W W' e, RefRd W W' bs e → ∃ u, e = .returned (.tuple #[.string (readB bs).1, u, .int .i64 (readB bs).2.2]) ∧ RS W' u (readB bs).2.1 ∧ Below W.heap.size W W') := Lib.hid fun W W' e h => h
      generalize (readB bs).1 = rv at *
      generalize (readB bs).2.1 = rl at *
      generalize (readB bs).2.2 = re at *
      go_wp2_with (fail)
      generalize w5.alloc (.cells #[.string rv, .slice A5 rl.length c5] 24) = w6 at *
      refine (HRF.out w6 HB5.out).mono ?_
      rintro e w7 hrf
      obtain ⟨u, rfl, hu, hb7⟩ := HRR.out _ _ _ hrf
      obtain ⟨A7, c7, rfl, hl7, hC7⟩ := hu
      have HB7 := Lib.hid (HB5.out.trans (hb7.mono HB5.out.size))
      have hk7 := blk_below hk5 hb7
      have HD7 := Lib.hid (Kd.C_below HD5.out hb7)
      have HE7 := Lib.hid hC7
      have HLE := Lib.hid hl7
      clear hb7 hk5 HD5 hC7 hl7 HB5 HRF HRR hrf
      have hc0 := blk_cell hk7 0
      have hc1 := blk_cell hk7 1
      simp only [List.getElem?_toArray, List.getElem?_cons_zero, List.getElem?_cons_succ] at hc0 hc1
      go_wp2_with (fail)
      refine (texts15 A5 c5 rl A7 c7 rl w7 HD7.out HLD.out HE7.out HLE.out).mono ?_
      rintro e w8 ⟨rfl, ⟨n8, rfl⟩⟩
      rw [decide_eq_true rfl]
      have HB8 := Lib.hid (pw_below_drewN HB7.out n8)
      clear hk7 hc0 hc1 HB7 HD7 HE7
      generalize w7.drewN n8 = w8 at *
      go_wp2_with (fail)
      refine (HAW.out _ HB8).mono ?_
      rintro e w9 ⟨rfl, hb9⟩
      have HB9 := Lib.hid (fin3 HB0.out HB8.out hb9)
      clear hb9
      go_wp2_with (fail)
      go_ret
      exact ⟨rfl, HB9.out⟩
end Go.Proofs.YtbjdipbhclihfaaDoor
namespace Go.Proofs.YtbjdipbhclihfaaDoor.tagsComments
open Go.ChangeShapes Go.WideShapes Go.ChangeAt Go.RowKit Go.Proofs Go.Proofs.YtbjdipbhclihfaaDoorW.PrintWords
open Go.ChangeMaps (open_string shut_string)

set_option maxRecDepth 100000 in
theorem witness_row (os : Os) {H : Type} (enc : TypeId × Value → H) :
    (OpenSpec.ofChange Rows.tagsCommentsSpec).preRow enc Tryd.prog Tryd.f4 Rows.tagsCommentsRow.domain false Rows.tagsCommentsRow.laid ((laidWorld os).forCall (fun _ _ => 0) ⟨#[], #[.agg #[.string ⟨#[]⟩, .slice none 0 0], .slice none 0 0], []⟩).memory #[.agg #[.string ⟨#[]⟩, .slice none 0 0], .slice none 0 0] := by
  have hw : (DataW.whole enc Tryd.prog ((laidWorld os).forCall (fun _ _ => 0) ⟨#[], #[.agg #[.string ⟨#[]⟩, .slice none 0 0], .slice none 0 0], []⟩).memory Tryd.f4.params.toList Rows.tagsCommentsSpec.vars false #[Value.agg #[.string ⟨#[]⟩, .slice none 0 0], .slice none 0 0].toList 8).map (fun x => (x.1, x.2.1)) =
      some ([.agg [.lit (.string []), .nil], .nil], []) := by kernel_rfl
  obtain ⟨⟨x1, x2, x3⟩, hx, hx1⟩ := Option.map_eq_some_iff.1 hw
  simp only [Prod.mk.injEq] at hx1
  obtain ⟨rfl, rfl⟩ := hx1
  exact OpenSpec.preRow_of_cond 8 hx (by kernel_rfl) (fun k hk => by cases hk) (by kernel_rfl) (laid_met os _)

set_option maxRecDepth 100000 in
theorem lifted (os : Os) (started : os.Started) (H : Type) (enc : TypeId × Value → H) (F : Stop.Interp) :
    ReturnsInHanded {} Tryd.checked os 4 .any ((OpenSpec.ofChange Rows.tagsCommentsSpec).preRow enc Tryd.prog Tryd.f4 Rows.tagsCommentsRow.domain false Rows.tagsCommentsRow.laid) (((OpenSpec.ofChange Rows.tagsCommentsSpec).at F).post enc Tryd.prog Tryd.f4 false true false false) := by
  refine returnsInHanded_of_row (C := Tryd.checked) (s := OpenSpec.ofChange Rows.tagsCommentsSpec) own started (by kernel_rfl) Tryd.func4
    (witness_row_atRef (enc := enc) (C := Tryd.checked) false (laidWorld os) #[.agg #[.string ⟨#[]⟩, .slice none 0 0], .slice none 0 0] rfl (by kernel_rfl) (by kernel_rfl) (by kernel_rfl) (witness_row os enc)) ?_
  intro W base args ds gs before hval0 hW _ _ _ hL _ _
  have hval : ∀ (j : Nat) t v, Tryd.f4.params[j]? = some t → args[j]? = some v → Value.okWide Tryd.prog W .any base t v := hval0
  have hW' := hW
  obtain ⟨p, q, hA0, hV0, rfl, _, _⟩ := hW
  have hA : DataW.TrodAll enc Tryd.prog W 0 (fun _ => true) true Tryd.f4.params.toList args.toList ds p := hA0
  rw [Tryd.params4] at hA hval
  obtain ⟨v0, v1, d0, d1, p0, p1, rfl, rfl, rfl, h0, h1⟩ := trodAll_two hA
  obtain ⟨rfl, rfl⟩ := trodVars_none hV0
  have h0k := h0
  have h1k := h1
  obtain ⟨s, A, c, L, rfl, hc, hC, hs, hLs⟩ := open_com (hval 0 24 v0 rfl rfl) h0
  obtain ⟨A2, c2, bs, rfl, hc2, hC2, hby⟩ := open_bytes (hval 1 27 v1 rfl rfl) h1
  clear hA0 hV0 hval0
  simp only [List.append_nil] at hW'
  have hlt : ∀ x ∈ p0 ++ p1, x.block < W.heap.size := fun x hx => by simpa using hW'.lt x (by simpa using hx)
  refine (coms4 s A c L A2 c2 bs W hC hc hC2 hc2 hby (glob_of hL)).mono ?_
  rintro e W' ⟨rfl, bel⟩
  refine ⟨_, rfl, _, _, _, [], p0 ++ p1, [], hW', trodAll_mk1 (shut_bool Tryd.underlying4 _), ?_, ?_, bel.frame _, fun h => by cases h⟩
  · exact trodAll_mk2 (Below.trod laidOut (by kernel_rfl) (of_decide_eq_true (by kernel_rfl)) h0k bel (fun x hx => hlt x (by simp [hx]))) (Below.trod laidOut (by kernel_rfl) (of_decide_eq_true (by kernel_rfl)) h1k bel (fun x hx => hlt x (by simp [hx])))
  · rfl

theorem said : Rows.TagsCommentsSaid :=
  OpenClaim.holds_of_cond 4 Tryd.f4 rfl rfl rfl rfl rfl rfl rfl ⟨rfl, rfl, rfl, rfl, rfl⟩ rfl rfl rfl rfl rfl (by kernel_rfl) Tryd.func4 (by kernel_rfl)
    (of_decide_eq_true (by kernel_rfl)) (by unfold Func.isWrapper; first | (rw [if_pos (by decide +kernel)]; kernel_rfl) | (rw [if_neg (by decide +kernel)]; exact ⟨rfl, rfl⟩))
    (fun os started H enc _ F => by rw [OpenClaim.pre_eq_preRow]; exact lifted os started H enc F)
theorem plain (f : FuncId) (fn : Func) (hf : Tryd.pinned.checked.prog.funcNamed "jetsam/jetsamlaw13.TagsComments" = some f) (hfn : Tryd.pinned.checked.prog.funcs[f]? = some fn) :
    false = Tryd.pinned.checked.prog.looks [] ∧ ∀ (j : Nat) t, fn.params[j]? = some t → Tryd.pinned.checked.prog.wantsStandIn t = false := by
  obtain rfl : f = 4 := Option.some.inj ((show Tryd.prog.funcNamed "jetsam/jetsamlaw13.TagsComments" = some 4 by kernel_rfl).symm.trans hf) |>.symm
  obtain rfl : fn = Tryd.f4 := (Option.some.inj (Tryd.func4.symm.trans hfn)).symm
  refine ⟨by kernel_rfl, fun j t ht => ?_⟩
  rw [Tryd.params4] at ht
  match j, ht with
  | 0, ht => obtain rfl : 24 = t := Option.some.inj ht; exact (show Tryd.prog.wantsStandIn 24 = false by kernel_rfl)
  | 1, ht => obtain rfl : 27 = t := Option.some.inj ht; exact (show Tryd.prog.wantsStandIn 27 = false by kernel_rfl)
  | j + 2, ht => simp at ht
theorem card : Rows.TagsCommentsCardSaid :=
  Claim7.holds_tied_plain_at .later [] _ _ _ _ said (fun _ h => by cases h) (by kernel_rfl) (fun _ h => by cases h) tagsComments_row_tie rfl ⟨rfl, rfl⟩ (by kernel_rfl) rfl plain (by kernel_rfl)
end Go.Proofs.YtbjdipbhclihfaaDoor.tagsComments
namespace Go.Proofs.YtbjdipbhclihfaaDoor
/-- The card of TagsComments. -/
theorem tagsComments_holds : Rows.TagsCommentsCardSaid := tagsComments.card
#print axioms tagsComments_holds
end Go.Proofs.YtbjdipbhclihfaaDoor
