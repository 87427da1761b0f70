/- TagsPictures: at every picture and bytes the law's call returns true, and each argument reads as it did: which bytes a picture is, which picture bytes are, and what is wrong with either. Conditions: the package variables unicode/utf8.first and unicode/utf8.acceptRanges start as the library's text lays them; the card ties that to the text. -/
import Derived.Test.YtbjdipbhclihfaaDoorD0
import Derived.Test.YtbjdipbhclihfaaDoorE15
set_option linter.unusedVariables false
set_option linter.unusedSimpArgs false
namespace Go.Proofs.YtbjdipbhclihfaaDoor
open Go.ChangeShapes Go.WideShapes Go.ChangeAt Go.RowKit Go.Proofs Go.Proofs.YtbjdipbhclihfaaDoorW.PrintWords
theorem cells45 : Tryd.prog.cellsOf 45 = 8 := by kernel_rfl
theorem cells3 : Tryd.prog.cellsOf 3 = 1 := by kernel_rfl
theorem cells27 : Tryd.prog.cellsOf 27 = 1 := by kernel_rfl
section
variable {H : Type} {enc : TypeId × Value → H} {W : World}
set_option maxRecDepth 100000 in
/-- The cell of a []byte that came in, nil or not. -/
theorem open_bytes_cell {fuel : Nat} {u : Value} {x : DataW H × List MemPlace} (hf : DataW.trod enc Tryd.prog W 0 (fun _ => true) true fuel 27 [u] = some x) :
    ∃ (A : Option Addr) (c : Nat) (bs : List Int), u = .slice A bs.length c ∧ bs.length ≤ c ∧ (Kd.int .u8).C W A bs.length bs ∧ Plain.ByteL bs := by
  rcases open_ints Tryd.underlying27 Tryd.underlying5 cells5 hf with ⟨hcs, _⟩ | ⟨x, l, c, zs, hcs, _, hl, hm, hz, _, hcell, hwz⟩
  · simp at hcs
    subst hcs
    exact ⟨none, 0, [], rfl, Nat.le_refl _, C_nil8 W, by intro x hx; cases hx⟩
  · simp at hcs
    subst hcs
    have hz' : zs.length = c := by simpa using hz
    have hlen : (zs.take l).length = l := by simp; omega
    refine ⟨some x, c, zs.take l, by rw [hlen], by omega, ?_, ?_⟩
    · refine C_cells (d := Kd.int .u8) rfl (W := W) (a := x) (zs.take l) (by rw [hlen]; unfold maxLen at hm; omega) (fun j p hj => ?_)
      have hj' : j < l := by
        have := (List.getElem?_eq_some_iff.1 hj).1
        omega
      refine ⟨_, hcell j (by omega), ?_⟩
      rw [List.getElem?_take_of_lt hj'] at hj
      have : zs.getD j 0 = p := by simp [List.getD, hj]
      rw [this]
      rfl
    · intro y hy
      have := hwz y (List.mem_of_mem_take hy)
      have h2 : (decide (0 ≤ y) && decide (y ≤ 255)) = true := this
      simpa using h2
set_option maxRecDepth 100000 in
/-- A picture that came in. -/
theorem open_pic {r : Reach} {b0 : Nat} {v : Value} {d : DataW H} {ps : List MemPlace} (hval : Value.okWide Tryd.prog W r b0 45 v) (hd : DataW.Trod enc Tryd.prog W 0 (fun _ => true) true 45 v d ps) :
    ∃ (k x h dd c : Int) (m t : ByteArray) (A : Option Addr) (cA : Nat) (bs : List Int), v = .agg #[.int .i64 k, .string m, .string t, .int .i64 x, .int .i64 h, .int .i64 dd, .int .i64 c, .slice A bs.length cA] ∧ bs.length ≤ cA ∧ (Kd.int .u8).C W A bs.length bs ∧ m.size ≤ maxLen ∧ t.size ≤ maxLen := by
  obtain ⟨cs, rfl, hcs⟩ := okWide_struct Tryd.underlying45 hval
  obtain ⟨fuel, hf⟩ := hd
  obtain ⟨xs, n, _, _, hl, hlen, hfs⟩ := DataW.trod_struct Tryd.underlying45 hf
  rw [cells45] at hcs
  match cs, hcs, xs, hlen with
  | ⟨[a0, a1, a2, a3, a4, a5, a6, a7]⟩, _, [y0, y1, y2, y3, y4, y5, y6, y7], _ =>
    have h0 := hfs 0 _ rfl
    have h1 := hfs 1 _ rfl
    have h2 := hfs 2 _ rfl
    have h3 := hfs 3 _ rfl
    have h4 := hfs 4 _ rfl
    have h5 := hfs 5 _ rfl
    have h6 := hfs 6 _ rfl
    have h7 := hfs 7 _ rfl
    change DataW.trod enc Tryd.prog W 0 (fun _ => true) true n 3 (List.take (Tryd.prog.cellsOf 3) [a0, a1, a2, a3, a4, a5, a6, a7]) = some y0 at h0
    rw [cells3] at h0
    change DataW.trod enc Tryd.prog W 0 (fun _ => true) true n 3 [a0] = some y0 at h0
    change DataW.trod enc Tryd.prog W 0 (fun _ => true) true n 9 (List.take (Tryd.prog.cellsOf 9) [a1, a2, a3, a4, a5, a6, a7]) = some y1 at h1
    rw [cells9] at h1
    change DataW.trod enc Tryd.prog W 0 (fun _ => true) true n 9 [a1] = some y1 at h1
    change DataW.trod enc Tryd.prog W 0 (fun _ => true) true n 9 (List.take (Tryd.prog.cellsOf 9) [a2, a3, a4, a5, a6, a7]) = some y2 at h2
    rw [cells9] at h2
    change DataW.trod enc Tryd.prog W 0 (fun _ => true) true n 9 [a2] = some y2 at h2
    change DataW.trod enc Tryd.prog W 0 (fun _ => true) true n 3 (List.take (Tryd.prog.cellsOf 3) [a3, a4, a5, a6, a7]) = some y3 at h3
    rw [cells3] at h3
    change DataW.trod enc Tryd.prog W 0 (fun _ => true) true n 3 [a3] = some y3 at h3
    change DataW.trod enc Tryd.prog W 0 (fun _ => true) true n 3 (List.take (Tryd.prog.cellsOf 3) [a4, a5, a6, a7]) = some y4 at h4
    rw [cells3] at h4
    change DataW.trod enc Tryd.prog W 0 (fun _ => true) true n 3 [a4] = some y4 at h4
    change DataW.trod enc Tryd.prog W 0 (fun _ => true) true n 3 (List.take (Tryd.prog.cellsOf 3) [a5, a6, a7]) = some y5 at h5
    rw [cells3] at h5
    change DataW.trod enc Tryd.prog W 0 (fun _ => true) true n 3 [a5] = some y5 at h5
    change DataW.trod enc Tryd.prog W 0 (fun _ => true) true n 3 (List.take (Tryd.prog.cellsOf 3) [a6, a7]) = some y6 at h6
    rw [cells3] at h6
    change DataW.trod enc Tryd.prog W 0 (fun _ => true) true n 3 [a6] = some y6 at h6
    change DataW.trod enc Tryd.prog W 0 (fun _ => true) true n 27 (List.take (Tryd.prog.cellsOf 27) [a7]) = some y7 at h7
    rw [cells27] at h7
    change DataW.trod enc Tryd.prog W 0 (fun _ => true) true n 27 [a7] = some y7 at h7
    obtain ⟨k, e0, -, -⟩ := DataW.trod_int Tryd.underlying3 h0
    obtain ⟨x, e3, -, -⟩ := DataW.trod_int Tryd.underlying3 h3
    obtain ⟨h, e4, -, -⟩ := DataW.trod_int Tryd.underlying3 h4
    obtain ⟨dd, e5, -, -⟩ := DataW.trod_int Tryd.underlying3 h5
    obtain ⟨c, e6, -, -⟩ := DataW.trod_int Tryd.underlying3 h6
    obtain ⟨m, e1, -, hm⟩ := DataW.trod_string Tryd.underlying9 h1
    obtain ⟨t, e2, -, ht⟩ := DataW.trod_string Tryd.underlying9 h2
    obtain ⟨A, cA, bs, rfl, hc, hC, _⟩ := open_bytes_cell h7
    simp at e0 e1 e2 e3 e4 e5 e6
    subst e0 e1 e2 e3 e4 e5 e6
    exact ⟨k, x, h, dd, c, m, t, A, cA, bs, rfl, hc, hC, hm, ht⟩
end
end Go.Proofs.YtbjdipbhclihfaaDoor
namespace Go.Proofs.YtbjdipbhclihfaaDoor.tagsPictures
open Go.ChangeShapes Go.WideShapes Go.ChangeAt Go.RowKit Go.Proofs Go.Proofs.YtbjdipbhclihfaaDoorW.PrintWords
open Go.ChangeMaps (open_string shut_string)

set_option maxRecDepth 100000 in
theorem witness_row (os : Os) {H : Type} (enc : TypeId × Value → H) :
    (OpenSpec.ofChange Rows.tagsPicturesSpec).preRow enc Tryd.prog Tryd.f5 Rows.tagsPicturesRow.domain false Rows.tagsPicturesRow.laid ((laidWorld os).forCall (fun _ _ => 0) ⟨#[], #[.agg #[.int .i64 0, .string ⟨#[]⟩, .string ⟨#[]⟩, .int .i64 0, .int .i64 0, .int .i64 0, .int .i64 0, .slice none 0 0], .slice none 0 0], []⟩).memory #[.agg #[.int .i64 0, .string ⟨#[]⟩, .string ⟨#[]⟩, .int .i64 0, .int .i64 0, .int .i64 0, .int .i64 0, .slice none 0 0], .slice none 0 0] := by
  have hw : (DataW.whole enc Tryd.prog ((laidWorld os).forCall (fun _ _ => 0) ⟨#[], #[.agg #[.int .i64 0, .string ⟨#[]⟩, .string ⟨#[]⟩, .int .i64 0, .int .i64 0, .int .i64 0, .int .i64 0, .slice none 0 0], .slice none 0 0], []⟩).memory Tryd.f5.params.toList Rows.tagsPicturesSpec.vars false #[Value.agg #[.int .i64 0, .string ⟨#[]⟩, .string ⟨#[]⟩, .int .i64 0, .int .i64 0, .int .i64 0, .int .i64 0, .slice none 0 0], .slice none 0 0].toList 8).map (fun x => (x.1, x.2.1)) =
      some ([.agg [.lit (.int .i64 0), .lit (.string []), .lit (.string []), .lit (.int .i64 0), .lit (.int .i64 0), .lit (.int .i64 0), .lit (.int .i64 0), .nil], .nil], []) := by kernel_rfl
  obtain ⟨⟨x1, x2, x3⟩, hx, hx1⟩ := Option.map_eq_some_iff.1 hw
  simp only [Prod.mk.injEq] at hx1
  obtain ⟨rfl, rfl⟩ := hx1
  exact OpenSpec.preRow_of_cond 8 hx (by kernel_rfl) (fun k hk => by cases hk) (by kernel_rfl) (laid_met os _)

set_option maxRecDepth 100000 in
theorem lifted (os : Os) (started : os.Started) (H : Type) (enc : TypeId × Value → H) (F : Stop.Interp) :
    ReturnsInHanded {} Tryd.checked os 5 .any ((OpenSpec.ofChange Rows.tagsPicturesSpec).preRow enc Tryd.prog Tryd.f5 Rows.tagsPicturesRow.domain false Rows.tagsPicturesRow.laid) (((OpenSpec.ofChange Rows.tagsPicturesSpec).at F).post enc Tryd.prog Tryd.f5 false true false false) := by
  refine returnsInHanded_of_row (C := Tryd.checked) (s := OpenSpec.ofChange Rows.tagsPicturesSpec) own started (by kernel_rfl) Tryd.func5
    (witness_row_atRef (enc := enc) (C := Tryd.checked) false (laidWorld os) #[.agg #[.int .i64 0, .string ⟨#[]⟩, .string ⟨#[]⟩, .int .i64 0, .int .i64 0, .int .i64 0, .int .i64 0, .slice none 0 0], .slice none 0 0] rfl (by kernel_rfl) (by kernel_rfl) (by kernel_rfl) (witness_row os enc)) ?_
  intro W base args ds gs before hval0 hW _ _ _ hL _ _
  have hval : ∀ (j : Nat) t v, Tryd.f5.params[j]? = some t → args[j]? = some v → Value.okWide Tryd.prog W .any base t v := hval0
  have hW' := hW
  obtain ⟨p, q, hA0, hV0, rfl, _, _⟩ := hW
  have hA : DataW.TrodAll enc Tryd.prog W 0 (fun _ => true) true Tryd.f5.params.toList args.toList ds p := hA0
  rw [Tryd.params5] at hA hval
  obtain ⟨v0, v1, d0, d1, p0, p1, rfl, rfl, rfl, h0, h1⟩ := trodAll_two hA
  obtain ⟨rfl, rfl⟩ := trodVars_none hV0
  have h0k := h0
  have h1k := h1
  obtain ⟨k, x, h, dd, cc, m, t, A, c, data, rfl, hc, hC, hm, ht⟩ := open_pic (hval 0 45 v0 rfl rfl) h0
  obtain ⟨A2, c2, bs, rfl, hc2, hC2, hby⟩ := open_bytes (hval 1 27 v1 rfl rfl) h1
  clear hA0 hV0 hval0
  simp only [List.append_nil] at hW'
  have hlt : ∀ x ∈ p0 ++ p1, x.block < W.heap.size := fun x hx => by simpa using hW'.lt x (by simpa using hx)
  refine (pics5 k x h dd cc m t A c data A2 c2 bs W hC hc hC2 hc2 hby (by unfold maxLen at hm; omega) (by unfold maxLen at ht; omega) (glob_of hL)).mono ?_
  rintro e W' ⟨rfl, bel⟩
  refine ⟨_, rfl, _, _, _, [], p0 ++ p1, [], hW', trodAll_mk1 (shut_bool Tryd.underlying4 _), ?_, ?_, bel.frame _, fun h => by cases h⟩
  · exact trodAll_mk2 (Below.trod laidOut (by kernel_rfl) (of_decide_eq_true (by kernel_rfl)) h0k bel (fun x hx => hlt x (by simp [hx]))) (Below.trod laidOut (by kernel_rfl) (of_decide_eq_true (by kernel_rfl)) h1k bel (fun x hx => hlt x (by simp [hx])))
  · rfl

theorem said : Rows.TagsPicturesSaid :=
  OpenClaim.holds_of_cond 5 Tryd.f5 rfl rfl rfl rfl rfl rfl rfl ⟨rfl, rfl, rfl, rfl, rfl⟩ rfl rfl rfl rfl rfl (by kernel_rfl) Tryd.func5 (by kernel_rfl)
    (of_decide_eq_true (by kernel_rfl)) (by unfold Func.isWrapper; first | (rw [if_pos (by decide +kernel)]; kernel_rfl) | (rw [if_neg (by decide +kernel)]; exact ⟨rfl, rfl⟩))
    (fun os started H enc _ F => by rw [OpenClaim.pre_eq_preRow]; exact lifted os started H enc F)
theorem plain (f : FuncId) (fn : Func) (hf : Tryd.pinned.checked.prog.funcNamed "jetsam/jetsamlaw13.TagsPictures" = some f) (hfn : Tryd.pinned.checked.prog.funcs[f]? = some fn) :
    false = Tryd.pinned.checked.prog.looks [] ∧ ∀ (j : Nat) t, fn.params[j]? = some t → Tryd.pinned.checked.prog.wantsStandIn t = false := by
  obtain rfl : f = 5 := Option.some.inj ((show Tryd.prog.funcNamed "jetsam/jetsamlaw13.TagsPictures" = some 5 by kernel_rfl).symm.trans hf) |>.symm
  obtain rfl : fn = Tryd.f5 := (Option.some.inj (Tryd.func5.symm.trans hfn)).symm
  refine ⟨by kernel_rfl, fun j t ht => ?_⟩
  rw [Tryd.params5] at ht
  match j, ht with
  | 0, ht => obtain rfl : 45 = t := Option.some.inj ht; exact (show Tryd.prog.wantsStandIn 45 = false by kernel_rfl)
  | 1, ht => obtain rfl : 27 = t := Option.some.inj ht; exact (show Tryd.prog.wantsStandIn 27 = false by kernel_rfl)
  | j + 2, ht => simp at ht
theorem card : Rows.TagsPicturesCardSaid :=
  Claim7.holds_tied_plain_at .later [] _ _ _ _ said (fun _ h => by cases h) (by kernel_rfl) (fun _ h => by cases h) tagsPictures_row_tie rfl ⟨rfl, rfl⟩ (by kernel_rfl) rfl plain (by kernel_rfl)
end Go.Proofs.YtbjdipbhclihfaaDoor.tagsPictures
namespace Go.Proofs.YtbjdipbhclihfaaDoor
/-- The card of TagsPictures. -/
theorem tagsPictures_holds : Rows.TagsPicturesCardSaid := tagsPictures.card
#print axioms tagsPictures_holds
end Go.Proofs.YtbjdipbhclihfaaDoor
