import Derived.Test.YtbjdipbhclihfaaDoorA12
set_option linter.unusedVariables false
namespace Go.Proofs.YtbjdipbhclihfaaDoor
open Go.RowKit Go.Proofs Go.Proofs.YtbjdipbhclihfaaDoorW.PrintWords
/-- A slice of strings that is read. -/
def RS (W : World) (u : Value) (xs : List ByteArray) : Prop := ∃ A c, u = .slice A xs.length c ∧ xs.length ≤ c ∧ Kd.string.C W A xs.length xs
theorem RS.below {W W1 : World} {u : Value} {xs : List ByteArray} (h : RS W u xs) (hb : Below W.heap.size W W1) : RS W1 u xs := by
  obtain ⟨A, c, he, hl, hC⟩ := h
  exact ⟨A, c, he, hl, Kd.C_below hC hb⟩
theorem RS.of_STR {W : World} {base : Nat} {u : Value} {xs : List ByteArray} (h : STR W base u xs) : RS W u xs := by
  obtain ⟨A, c, he, hl, hC⟩ := Kd.R_reads h
  exact ⟨A, c, he, hl, hC⟩
theorem rows2s {W : World} {A1 A2 : Option Addr} {c1 c2 : Nat} {x1 x2 : List ByteArray} (h1 : Kd.string.C W A1 x1.length x1) (l1 : x1.length ≤ c1) (h2 : Kd.string.C W A2 x2.length x2) (l2 : x2.length ≤ c2) :
    (Kd.slice 9 Kd.string).C (W.alloc (.cells #[.slice A1 x1.length c1, .slice A2 x2.length c2] 22)) (some ⟨W.heap.size, 0, none⟩) 2 [x1, x2] := by
  have hb : Below W.heap.size W (W.alloc (.cells #[.slice A1 x1.length c1, .slice A2 x2.length c2] 22)) := below_alloc (Below.refl _ _) _
  refine C_lit1 rfl (blk_new W _) [x1, x2] (by show 2 ≤ 9223372036854775807; decide) fun j p hj => ?_
  match j, hj with
  | 0, hj => simp at hj; subst hj; exact ⟨_, rfl, A1, c1, rfl, l1, Kd.C_below h1 hb⟩
  | 1, hj => simp at hj; subst hj; exact ⟨_, rfl, A2, c2, rfl, l2, Kd.C_below h2 hb⟩
set_option maxRecDepth 100000 in
theorem with14 (v : ByteArray) (A : Option Addr) (c : Nat) (L : List ByteArray) (A2 : Option Addr) (c2 : Nat) (l : List ByteArray) (w : World) (hr : Kd.string.C w A L.length L) (hc : L.length ≤ c) (hr2 : Kd.string.C w A2 l.length l) (hc2 : l.length ≤ c2) (hl : L.length + l.length ≤ 1099511627776) :
    Calls Tryd.prog 14 #[.agg #[.string v, .slice A L.length c], .slice A2 l.length c2] w fun e w' => ∃ u, e = .returned (.agg #[.string v, u]) ∧ STR w' w.heap.size u (L ++ l) ∧ Below w.heap.size w w' := by
  have HR := Lib.hid hr
  have HR2 := Lib.hid hr2
  have HC := Lib.hid hc
  have HC2 := Lib.hid hc2
  have HL := Lib.hid (show ([L, l] : List (List ByteArray)).flatten.length ≤ 1099511627776 by simpa using hl)
  clear hr hr2 hc hc2 hl
  go_enter Tryd.func14, Tryd.ntmps14
  go_wp2_with (fail)
  have hA : Below w.heap.size w ((w.alloc (.cells #[.string v, .slice A L.length c] 24)).alloc (.cells #[.string ⟨#[]⟩, .slice none 0 0] 24)) := below_alloc (below_alloc (Below.refl _ _) _) _
  have hh := rows2s (Kd.C_below HR.out hA) HC.out (Kd.C_below HR2.out hA) HC2.out
  rw [show ((w.alloc (.cells #[.string v, .slice A L.length c] 24)).alloc (.cells #[.string ⟨#[]⟩, .slice none 0 0] 24)).heap.size = w.heap.size + 1 + 1 from by simp] at hh
  have HH := Lib.hid hh
  have HA := Lib.hid hA
  clear hh hA
  refine (concat43 _ _ [L, l] _ HH.out HL.out).mono ?_
  rintro e w1 ⟨u, rfl, hu, hb⟩
  have b0 := blk_below (blk_alloc (blk_alloc (blk_new w (.cells #[.string v, .slice A L.length c] 24)) (.cells #[.string ⟨#[]⟩, .slice none 0 0] 24)) (.cells #[.slice A L.length c, .slice A2 l.length c2] 22)) (hb.mono (by exact Nat.le_refl _))
  have b1 := blk_below (blk_alloc (blk_new (w.alloc (.cells #[.string v, .slice A L.length c] 24)) (.cells #[.string ⟨#[]⟩, .slice none 0 0] 24)) (.cells #[.slice A L.length c, .slice A2 l.length c2] 22)) (hb.mono (by exact Nat.le_refl _))
  rw [show (w.alloc (.cells #[.string v, .slice A L.length c] 24)).heap.size = w.heap.size + 1 from by simp] at b1
  have hB : Below w.heap.size w w1 := (HA.out.alloc (by simp; omega) _).trans (hb.mono (by simp; omega))
  have hu := Kd.R_lower (base' := w.heap.size) hu (by simp; omega)
  clear hb HH
  obtain ⟨A', c', rfl, hl', hC'⟩ := Kd.R_reads hu
  have b2 := blk_put b0 1 (.slice A' [L, l].flatten.length c') (cs' := #[.string v, .slice A' [L, l].flatten.length c']) rfl
  have b3 : (w1.setCell ⟨w.heap.size, 1, none⟩ (.slice A' [L, l].flatten.length c')).heap[w.heap.size + 1]? = _ := blk_far b1 (by simp) _
  have B5 := Lib.hid (blk_put (blk_put b3 0 (.string v) (cs' := #[.string v, .slice none 0 0]) rfl) 1 (.slice A' [L, l].flatten.length c') (cs' := #[.string v, .slice A' [L, l].flatten.length c']) rfl)
  have FL := Lib.hid (show [L, l].flatten = L ++ l by simp)
  have HU := Lib.hid (Kd.R_set (Kd.R_set (Kd.R_set hu b0 (by decide) 1 (.slice A' [L, l].flatten.length c')) b3 (by decide) 0 (.string v)) (blk_put b3 0 (.string v) (cs' := #[.string v, .slice none 0 0]) rfl) (by decide) 1 (.slice A' [L, l].flatten.length c'))
  have HB := Lib.hid (((hB.setCell (p := ⟨w.heap.size, 1, none⟩) (Nat.le_refl _) (.slice A' [L, l].flatten.length c')).setCell (p := ⟨w.heap.size + 1, 0, none⟩) (Nat.le_succ _) (.string v)).setCell (p := ⟨w.heap.size + 1, 1, none⟩) (Nat.le_succ _) (.slice A' [L, l].flatten.length c'))
  have e1 := blk_cell b0 1
  have e2 := blk_frozen b0 1
  have e3 := blk_cell b2 0
  have e4 := blk_cell b2 1
  have e5 := blk_cell b3 0
  have e6 := blk_frozen b3 0
  have e7 := blk_cell b3 1
  have e8 := blk_frozen b3 1
  simp only [List.getElem?_toArray, List.getElem?_cons_zero, List.getElem?_cons_succ] at e1 e3 e4 e5 e7
  clear hu hC' hB b0 b1 b2 b3
  generalize [L, l].flatten = fl at *
  go_wp2_with (fail)
  refine bodyPost_ret (results_single rfl (.cell _ _ _ _ _ rfl B5.out Tryd.underlying24 rfl rfl .nil)) rfl ?_
  exact ⟨_, rfl, FL.out ▸ HU.out, HB.out⟩
end Go.Proofs.YtbjdipbhclihfaaDoor
