import Derived.Test.YtbjdipbhclihfaaDoorM2
import Derived.Lib.EndianBits
import Derived.WalkMore
set_option linter.unusedVariables false
set_option linter.unusedSimpArgs false
namespace Go.Proofs.YtbjdipbhclihfaaDoor
open Go.RowKit Go.Proofs Go.Proofs.YtbjdipbhclihfaaDoorW.PrintWords Plain
/-- All blocks that were there but g are as they were. -/
structure But (g : Nat) (w w' : World) : Prop where
  os : w'.os = w.os
  tape : w'.tape = w.tape
  output : w'.output = w.output
  size : w.heap.size ≤ w'.heap.size
  block : ∀ k, k < w.heap.size → k ≠ g → w'.heap[k]? = w.heap[k]?
theorem But.refl (g : Nat) (w : World) : But g w w := ⟨rfl, rfl, rfl, Nat.le_refl _, fun _ _ _ => rfl⟩
theorem But.trans {g : Nat} {a b c : World} (h : But g a b) (k : But g b c) : But g a c :=
  ⟨k.os.trans h.os, k.tape.trans h.tape, k.output.trans h.output, Nat.le_trans h.size k.size, fun i hi hne => (k.block i (Nat.lt_of_lt_of_le hi h.size) hne).trans (h.block i hi hne)⟩
theorem But.of {g : Nat} {w w' : World} (h : Below w.heap.size w w') : But g w w' := ⟨h.os, h.tape, h.output, h.size, fun k hk _ => h.block k hk⟩
theorem But.set {g : Nat} {w W : World} (h : But g w W) (j : Nat) (u : Value) : But g w (W.setCell ⟨g, j, none⟩ u) :=
  h.trans ⟨rfl, rfl, rfl, by simp [World.setCell], fun k _ hk => Below.heap_setCell W ⟨g, j, none⟩ u k hk⟩
theorem But.below {g : Nat} {w w' w0 : World} (h : But g w w') (hb : Below w0.heap.size w0 w) (hg : w0.heap.size ≤ g) : Below w0.heap.size w0 w' :=
  ⟨h.os.trans hb.os, h.tape.trans hb.tape, h.output.trans hb.output, Nat.le_trans hb.size h.size, fun k hk => (h.block k (Nat.lt_of_lt_of_le hk hb.size) (by omega)).trans (hb.block k hk)⟩
theorem But.blk {g j : Nat} {o : Obj} {w w' : World} (h : But g w w') (hj : w.heap[j]? = some o) (hne : j ≠ g) : w'.heap[j]? = some o := (h.block j (blk_lt hj) hne).trans hj
/-- A reader at block g: the bytes that are left, whether more were asked for, whether something was not as it has to be. -/
structure RD (w0 W : World) (g : Nat) (bs : List Int) (e bad : Bool) : Prop where
  lt : w0.heap.size ≤ g
  bel : Below w0.heap.size w0 W
  row : ∃ A c, W.heap[g]? = some (.cells #[.slice A bs.length c, .bool e, .bool bad] 80 (0, 0)) ∧ bs.length ≤ c ∧ (Kd.int .u8).C w0 A bs.length bs
theorem RD.but {w0 W W' : World} {g g' : Nat} {bs : List Int} {e bad : Bool} (h : RD w0 W g bs e bad) (hb : But g' W W') (hg : w0.heap.size ≤ g') (hne : g ≠ g') : RD w0 W' g bs e bad := by
  obtain ⟨A, c, hk, hl, hC⟩ := h.row
  exact ⟨h.lt, hb.below h.bel hg, A, c, hb.blk hk hne, hl, hC⟩
theorem RD.of {w0 W W' : World} {g : Nat} {bs : List Int} {e bad : Bool} (h : RD w0 W g bs e bad) (hb : Below W.heap.size W W') : RD w0 W' g bs e bad := by
  obtain ⟨A, c, hk, hl, hC⟩ := h.row
  exact ⟨h.lt, h.bel.trans (hb.mono h.bel.size), A, c, blk_below hk hb, hl, hC⟩
theorem C_nil8 (w : World) : (Kd.int .u8).C w none 0 [] := by
  obtain ⟨A, c, he, _, hC⟩ := Kd.R_reads (Kd.R_nil (Kd.int .u8) 5 w 0 (fun _ => True))
  injection he with h1 h2 h3
  subst h1
  exact hC
set_option maxRecDepth 100000 in
theorem take74_no (w0 W : World) (g : Nat) (bs : List Int) (e bad : Bool) (n : Int) (h : RD w0 W g bs e bad) (hn : n < 0 ∨ (bs.length : Int) < n) :
    Calls Tryd.prog 74 #[.pointer (some ⟨g, 0, none⟩), .int .i64 n] W fun r W' => r = .returned (.slice none 0 0) ∧ RD w0 W' g [] true bad ∧ But g W W' := by
  obtain ⟨A, c, hk, hl, hC⟩ := h.row
  have hlt := h.lt
  have HBEL := Lib.hid h.bel
  have hm := C_len hC
  have b1 := blk_put hk 1 (.bool true) (cs' := #[.slice A bs.length c, .bool true, .bool bad]) rfl
  have b2 := blk_put b1 0 (.slice none 0 0) (cs' := #[.slice none 0 0, .bool true, .bool bad]) rfl
  have HB2 := Lib.hid b2
  have HK := Lib.hid ((But.refl g W).set 1 (.bool true) |>.set 0 (.slice none 0 0))
  have c0 := blk_cell hk 0
  have c1 := blk_cell hk 1
  have f1 := blk_frozen hk 1
  have d0 := blk_cell b1 0
  have f0 := blk_frozen b1 0
  simp only [List.getElem?_toArray, List.getElem?_cons_zero, List.getElem?_cons_succ] at c0 c1 d0
  clear h hk b1 b2 hC
  by_cases h1 : n < 0
  · go_enter Tryd.func74, Tryd.ntmps74
    go_wp2_with (fail)
    go_ret
    exact ⟨rfl, ⟨hlt, HK.out.below HBEL.out hlt, none, 0, HB2.out, Nat.le_refl _, C_nil8 _⟩, HK.out⟩
  · have h2 : n > (bs.length : Int) := by omega
    go_enter Tryd.func74, Tryd.ntmps74
    go_wp2_with (fail)
    go_ret
    exact ⟨rfl, ⟨hlt, HK.out.below HBEL.out hlt, none, 0, HB2.out, Nat.le_refl _, C_nil8 _⟩, HK.out⟩
set_option maxRecDepth 100000 in
theorem take74 (w0 W : World) (g : Nat) (bs : List Int) (e bad : Bool) (n : Nat) (h : RD w0 W g bs e bad) (hn : n ≤ bs.length) :
    Calls Tryd.prog 74 #[.pointer (some ⟨g, 0, none⟩), .int .i64 n] W fun r W' => ∃ A' c', r = .returned (.slice A' n c') ∧ n ≤ c' ∧ (Kd.int .u8).C w0 A' n (bs.take n) ∧ RD w0 W' g (bs.drop n) e bad ∧ But g W W' := by
  obtain ⟨A, c, hk, hl, hC⟩ := h.row
  have hlt := h.lt
  have HBEL := Lib.hid h.bel
  have hm := C_len hC
  have hT := Kd.C_take hC hn
  have hD := Kd.C_drop hC hn hl
  have hlT : (bs.take n).length = n := by simp; omega
  have hlD : (bs.drop n).length = bs.length - n := by simp
  rw [hlT] at hT
  have HT := Lib.hid hT
  have HD := Lib.hid hD
  have HLD := Lib.hid hlD
  have c0 := blk_cell hk 0
  have f0 := blk_frozen hk 0
  simp only [List.getElem?_toArray, List.getElem?_cons_zero, List.getElem?_cons_succ] at c0
  have HKk := Lib.hid hk
  clear h hk hC hT hD hlD hlT
  have h1 : ¬ (n : Int) < 0 := by omega
  have h2 : ¬ (n : Int) > (bs.length : Int) := by omega
  go_enter Tryd.func74, Tryd.ntmps74
  go_wp2_with (fail)
  · go_ret
    have hD := HD.out
    rw [if_pos h, HLD.out] at hD
    refine ⟨A, n, rfl, Nat.le_refl _, HT.out, ⟨hlt, ((But.refl g W).set 0 _).below HBEL.out hlt, A, 0, ?_, ?_, by rw [HLD.out]; exact hD⟩, (But.refl g W).set 0 _⟩
    · rw [HLD.out]
      exact blk_put HKk.out 0 _ rfl
    · rw [HLD.out]; omega
  · go_ret
    have hD := HD.out
    rw [if_neg h, HLD.out, show n * (Kd.int .u8).sz = n from Nat.mul_one n] at hD
    refine ⟨A, c, rfl, by omega, HT.out, ⟨hlt, ((But.refl g W).set 0 _).below HBEL.out hlt, Option.map (fun x => x.add n) A, c - n, ?_, ?_, by rw [HLD.out]; exact hD⟩, (But.refl g W).set 0 _⟩
    · rw [HLD.out]
      exact blk_put HKk.out 0 _ rfl
    · rw [HLD.out]; omega
theorem RD.end_ {w0 W : World} {g : Nat} {bs : List Int} {e bad : Bool} (h : RD w0 W g bs e bad) : W.cell? ⟨g, 1, none⟩ = some (.bool e) := by
  obtain ⟨A, c, hk, _, _⟩ := h.row
  exact blk_cell hk 1
theorem RD.bad_ {w0 W : World} {g : Nat} {bs : List Int} {e bad : Bool} (h : RD w0 W g bs e bad) : W.cell? ⟨g, 2, none⟩ = some (.bool bad) := by
  obtain ⟨A, c, hk, _, _⟩ := h.row
  exact blk_cell hk 2
/-- What 'over' tells. -/
def overF (bs : List Int) (e bad : Bool) : Int := if e = true then 11 else if bad = true then 12 else if bs.length = 0 then 0 else 12
theorem over49 (w0 W : World) (g : Nat) (bs : List Int) (e bad : Bool) (h : RD w0 W g bs e bad) :
    Calls Tryd.prog 49 #[.pointer (some ⟨g, 0, none⟩)] W fun r W' => r = .returned (.int .i64 (overF bs e bad)) ∧ W = W' := by
  obtain ⟨A, c, hk, hl, hC⟩ := h.row
  have c0 := blk_cell hk 0
  have c1 := blk_cell hk 1
  have c2 := blk_cell hk 2
  simp only [List.getElem?_toArray, List.getElem?_cons_zero, List.getElem?_cons_succ] at c0 c1 c2
  clear h hk hC
  cases e with
  | true =>
    go_enter Tryd.func49, Tryd.ntmps49
    go_wp2_with (fail)
    go_ret
    exact ⟨rfl, rfl⟩
  | false =>
    cases bad with
    | true =>
      go_enter Tryd.func49, Tryd.ntmps49
      go_wp2_with (fail)
      go_ret
      exact ⟨rfl, rfl⟩
    | false =>
      by_cases h0 : bs.length = 0
      · have h1 : ¬ (bs.length : Int) > 0 := by omega
        have HF := Lib.hid (show overF bs false false = 0 by simp [overF, h0])
        clear h0
        go_enter Tryd.func49, Tryd.ntmps49
        go_wp2_with (fail)
        go_ret
        rw [HF.out]
        exact ⟨rfl, rfl⟩
      · have h1 : (bs.length : Int) > 0 := by omega
        have HF := Lib.hid (show overF bs false false = 12 by simp [overF, h0])
        clear h0
        go_enter Tryd.func49, Tryd.ntmps49
        go_wp2_with (fail)
        go_ret
        rw [HF.out]
        exact ⟨rfl, rfl⟩
end Go.Proofs.YtbjdipbhclihfaaDoor
set_option linter.unusedVariables false
set_option linter.unusedSimpArgs false
namespace Go.Proofs.YtbjdipbhclihfaaDoor.Plain
open Go.RowKit Go.Proofs.YtbjdipbhclihfaaDoorW.PrintWords Go.Proofs.YtbjdipbhclihfaaDoorW.PrintMore PTagsGets
/-- Bytes. -/
def ByteL (bs : List Int) : Prop := ∀ x ∈ bs, 0 ≤ x ∧ x ≤ 255
theorem ByteL.drop {bs : List Int} (h : ByteL bs) (n : Nat) : ByteL (bs.drop n) := fun x hx => h x (List.mem_of_mem_drop hx)
theorem ByteL.take {bs : List Int} (h : ByteL bs) (n : Nat) : ByteL (bs.take n) := fun x hx => h x (List.mem_of_mem_take hx)
theorem ByteL.rd {bs : List Int} (h : ByteL bs) (i : Int) : 0 ≤ YtbjdipbhclihfaaDoorW.PrintWords.rd bs i ∧ YtbjdipbhclihfaaDoorW.PrintWords.rd bs i ≤ 255 := by
  unfold YtbjdipbhclihfaaDoorW.PrintWords.rd
  rw [List.getD_eq_getElem?_getD]
  cases hx : bs[i.toNat]? with
  | none => simp
  | some x => exact h x (List.mem_of_getElem? hx)
/-- Four bytes as a number, the lowest first. -/
def le4 (bs : List Int) : Int := YtbjdipbhclihfaaDoorW.PrintWords.rd bs 0 + 256 * YtbjdipbhclihfaaDoorW.PrintWords.rd bs 1 + 65536 * YtbjdipbhclihfaaDoorW.PrintWords.rd bs 2 + 16777216 * YtbjdipbhclihfaaDoorW.PrintWords.rd bs 3
theorem le4_range {bs : List Int} (h : ByteL bs) : 0 ≤ le4 bs ∧ le4 bs ≤ 4294967295 := by
  have h0 := h.rd 0
  have h1 := h.rd 1
  have h2 := h.rd 2
  have h3 := h.rd 3
  unfold le4
  omega
/-- A text whose length stands ahead of it. -/
def ptxt (bs : List Int) : Option (ByteArray × List Int) :=
  if bs.length < 4 then none else if (bs.length : Int) < 4 + le4 bs then none else some (strOfNums ((bs.drop 4).take (le4 bs).toNat), (bs.drop 4).drop (le4 bs).toNat)
def ptxts : Nat → List Int → Option (List ByteArray × List Int)
  | 0, bs => some ([], bs)
  | n + 1, bs => (ptxt bs).bind fun x => (ptxts n x.2).map fun y => (x.1 :: y.1, y.2)
/-- What bytes are as comments. -/
def readB (bs : List Int) : ByteArray × List ByteArray × Int :=
  match ptxt bs with
  | none => (⟨#[]⟩, [], 11)
  | some (v, r) => if r.length < 4 then (⟨#[]⟩, [], 11) else match ptxts (le4 r).toNat (r.drop 4) with
    | none => (⟨#[]⟩, [], 11)
    | some (L, q) => if q.length = 0 then (if writeOk v L = true then (v, L, 0) else (⟨#[]⟩, [], 12)) else (⟨#[]⟩, [], 12)
theorem ptxt_size {bs : List Int} (h : ByteL bs) {s : ByteArray} {r : List Int} (hp : ptxt bs = some (s, r)) : 4 + s.size + r.length = bs.length ∧ ByteL r ∧ 4 ≤ bs.length ∧ 4 + le4 bs ≤ bs.length ∧ s = strOfNums ((bs.drop 4).take (le4 bs).toNat) ∧ r = (bs.drop 4).drop (le4 bs).toNat := by
  have hr := le4_range h
  unfold ptxt at hp
  split at hp
  · cases hp
  · split at hp
    · cases hp
    · simp only [Option.some.injEq, Prod.mk.injEq] at hp
      obtain ⟨rfl, rfl⟩ := hp
      refine ⟨?_, (h.drop 4).drop _, by omega, by omega, rfl, rfl⟩
      rw [strOfNums_size]
      simp only [List.length_take, List.length_drop]
      omega
theorem ptxts_step (n : Nat) (bs : List Int) (acc : List ByteArray) (f : Option (List ByteArray × List Int)) (h : f = (ptxts (n + 1) bs).map fun x => (acc ++ x.1, x.2)) (s : ByteArray) (r : List Int) (hp : ptxt bs = some (s, r)) :
    f = (ptxts n r).map fun x => ((acc ++ [s]) ++ x.1, x.2) := by
  rw [h]
  simp only [ptxts, hp, Option.bind_some, Option.map_map]
  congr 1
  funext x
  simp
theorem ptxts_none (n : Nat) (bs : List Int) (acc : List ByteArray) (f : Option (List ByteArray × List Int)) (h : f = (ptxts (n + 1) bs).map fun x => (acc ++ x.1, x.2)) (hp : ptxt bs = none) : f = none := by
  rw [h]
  simp [ptxts, hp]
theorem ptxts_zero (bs : List Int) (acc : List ByteArray) (f : Option (List ByteArray × List Int)) (h : f = (ptxts 0 bs).map fun x => (acc ++ x.1, x.2)) : f = some (acc, bs) := by
  rw [h]
  simp [ptxts]
end Go.Proofs.YtbjdipbhclihfaaDoor.Plain
set_option linter.unusedVariables false
namespace Go.Proofs.YtbjdipbhclihfaaDoor
open Go.RowKit Go.Proofs Go.Proofs.YtbjdipbhclihfaaDoorW.PrintWords Plain
theorem text41 (s : ByteArray) (w : World) (hs : s.size ≤ 1099511627776) :
    Calls Tryd.prog 41 #[.string s] w fun e w' => e = .returned (.bool (Lib.validD s.data.toList)) ∧ Drawn0 w w' := by
  obtain ⟨k, hk⟩ := (text_ev s hs).rounds
  exact PTagsGets.jetsamref13_Text.calls k s _ w hk
theorem low46 (n : Nat) (w : World) (hn : n ≤ 1099511627776) :
    Calls Tryd.prog 46 #[.int .i64 (n : Nat)] w fun e w' => ∃ u, e = .returned u ∧ BYT w' w.heap.size u (low4 n) ∧ Below w.heap.size w w' := by
  have e0 : Int.tmod (n : Int) 256 = (n : Int) % 256 := Int.tmod_eq_emod_of_nonneg (by omega)
  have e1 : Int.tdiv (n : Int) 256 = (n : Int) / 256 := Int.tdiv_eq_ediv_of_nonneg (by omega)
  have e2 : Int.tdiv (n : Int) 65536 = (n : Int) / 65536 := Int.tdiv_eq_ediv_of_nonneg (by omega)
  have e3 : Int.tdiv (n : Int) 16777216 = (n : Int) / 16777216 := Int.tdiv_eq_ediv_of_nonneg (by omega)
  have e4 : Int.tmod ((n : Int) / 256) 256 = (n : Int) / 256 % 256 := Int.tmod_eq_emod_of_nonneg (by omega)
  have e5 : Int.tmod ((n : Int) / 65536) 256 = (n : Int) / 65536 % 256 := Int.tmod_eq_emod_of_nonneg (by omega)
  have e6 : Int.tmod ((n : Int) / 16777216) 256 = (n : Int) / 16777216 % 256 := Int.tmod_eq_emod_of_nonneg (by omega)
  go_enter Tryd.func46, Tryd.ntmps46
  go_wp2
  go_ret
  refine ⟨_, rfl, ?_, below_alloc (Below.refl _ _) _⟩
  have h := Kd.R_of_own (enc := Value.int .u8) (h1 := fun _ => rfl) (own_lit w w.heap.size 5 .u8 (low4 n) (Nat.le_refl _) (by show 4 ≤ 9223372036854775807; decide)) (ok := fun _ => True) (fun _ _ => trivial)
  exact h
/-- ref.low -/
def low50F (bs : List Int) (a : Nat) : Int := if bs.length < a + 4 then -1 else le4 (bs.drop a)
set_option maxRecDepth 100000 in
theorem low50 (A : Option Addr) (c : Nat) (bs : List Int) (a : Nat) (w : World) (hr : (Kd.int .u8).C w A bs.length bs) (hB : ByteL bs) (ha : a ≤ 1099511627776) :
    Calls Tryd.prog 50 #[.slice A bs.length c, .int .i64 (a : Nat)] w fun e w' => e = .returned (.int .i64 (low50F bs a)) ∧ Drawn0 w w' := by
  by_cases h : bs.length < a + 4
  · have h' : (a : Int) + 4 > (bs.length : Int) := by omega
    have HF := Lib.hid (show low50F bs a = -1 from if_pos h)
    clear hr
    go_enter Tryd.func50, Tryd.ntmps50
    go_wp2_with (fail)
    go_ret
    rw [HF.out]
    exact ⟨rfl, 0, rfl⟩
  · have h' : ¬ (a : Int) + 4 > (bs.length : Int) := by omega
    have HF : Hid (low50F bs a = rd bs a + 256 * rd bs (a + 1) + 65536 * rd bs (a + 2) + 16777216 * rd bs (a + 3)) := by
      refine Lib.hid ?_
      unfold low50F
      rw [if_neg h]
      unfold le4 YtbjdipbhclihfaaDoorW.PrintWords.rd
      simp only [List.getD_eq_getElem?_getD, List.getElem?_drop]
      rfl
    have hm := C_len hr
    have k0 := hB.rd a
    have k1 := hB.rd (a + 1)
    have k2 := hB.rd (a + 2)
    have k3 := hB.rd (a + 3)
    obtain ⟨z, hz⟩ : ∃ z : Int, (a : Int) = z := ⟨_, rfl⟩
    rw [hz] at h' k0 k1 k2 k3 HF ⊢
    have p0 : 0 ≤ z := by omega
    have q0 : z < (bs.length : Int) := by omega
    obtain ⟨z1, hz1⟩ : ∃ z1 : Int, z + 1 = z1 := ⟨_, rfl⟩
    have w1 : IntKind.i64.wrap (z + 1) = z1 := (IntWalk.i64_in _ (by omega)).trans hz1
    have w1' : wrap64 (z + 1) = z1 := (IntWalk.wrap64_in _ (by omega)).trans hz1
    have p1 : 0 ≤ z1 := by omega
    have q1 : z1 < (bs.length : Int) := by omega
    obtain ⟨z2, hz2⟩ : ∃ z2 : Int, z + 2 = z2 := ⟨_, rfl⟩
    have w2 : IntKind.i64.wrap (z + 2) = z2 := (IntWalk.i64_in _ (by omega)).trans hz2
    have w2' : wrap64 (z + 2) = z2 := (IntWalk.wrap64_in _ (by omega)).trans hz2
    have p2 : 0 ≤ z2 := by omega
    have q2 : z2 < (bs.length : Int) := by omega
    obtain ⟨z3, hz3⟩ : ∃ z3 : Int, z + 3 = z3 := ⟨_, rfl⟩
    have w3 : IntKind.i64.wrap (z + 3) = z3 := (IntWalk.i64_in _ (by omega)).trans hz3
    have w3' : wrap64 (z + 3) = z3 := (IntWalk.wrap64_in _ (by omega)).trans hz3
    have p3 : 0 ≤ z3 := by omega
    have q3 : z3 < (bs.length : Int) := by omega
    obtain ⟨z4, hz4⟩ : ∃ z4 : Int, z + 4 = z4 := ⟨_, rfl⟩
    have w4 : IntKind.i64.wrap (z + 4) = z4 := (IntWalk.i64_in _ (by omega)).trans hz4
    have w4' : wrap64 (z + 4) = z4 := (IntWalk.wrap64_in _ (by omega)).trans hz4
    have q4 : ¬ (bs.length : Int) < z4 := by omega
    have q4' : decide ((bs.length : Int) < z4) = false := decide_eq_false q4
    rw [hz1, hz2, hz3] at HF
    rw [hz1] at k1
    rw [hz2] at k2
    rw [hz3] at k3
    clear hz1 hz2 hz3 hz4
    obtain ⟨ad, rfl, c0⟩ := Kd.at_int hr z p0 q0
    obtain ⟨ad', e1, c1⟩ := Kd.at_int hr z1 p1 q1
    cases e1
    obtain ⟨ad', e1, c2⟩ := Kd.at_int hr z2 p2 q2
    cases e1
    obtain ⟨ad', e1, c3⟩ := Kd.at_int hr z3 p3 q3
    cases e1
    generalize rd bs z = x0 at *
    generalize rd bs z1 = x1 at *
    generalize rd bs z2 = x2 at *
    generalize rd bs z3 = x3 at *
    have v0 : IntKind.i64.wrap (x0) = x0 := IntWalk.i64_in _ (by omega)
    have v0' : wrap64 (x0) = x0 := IntWalk.wrap64_in _ (by omega)
    have v1 : IntKind.i64.wrap (x1) = x1 := IntWalk.i64_in _ (by omega)
    have v1' : wrap64 (x1) = x1 := IntWalk.wrap64_in _ (by omega)
    have v2 : IntKind.i64.wrap (x2) = x2 := IntWalk.i64_in _ (by omega)
    have v2' : wrap64 (x2) = x2 := IntWalk.wrap64_in _ (by omega)
    have v3 : IntKind.i64.wrap (x3) = x3 := IntWalk.i64_in _ (by omega)
    have v3' : wrap64 (x3) = x3 := IntWalk.wrap64_in _ (by omega)
    have u1 : IntKind.i64.wrap (256 * x1) = 256 * x1 := IntWalk.i64_in _ (by omega)
    have u1' : wrap64 (256 * x1) = 256 * x1 := IntWalk.wrap64_in _ (by omega)
    have u2 : IntKind.i64.wrap (65536 * x2) = 65536 * x2 := IntWalk.i64_in _ (by omega)
    have u2' : wrap64 (65536 * x2) = 65536 * x2 := IntWalk.wrap64_in _ (by omega)
    have u3 : IntKind.i64.wrap (16777216 * x3) = 16777216 * x3 := IntWalk.i64_in _ (by omega)
    have u3' : wrap64 (16777216 * x3) = 16777216 * x3 := IntWalk.wrap64_in _ (by omega)
    have s1 : IntKind.i64.wrap (x0 + 256 * x1) = x0 + 256 * x1 := IntWalk.i64_in _ (by omega)
    have s1' : wrap64 (x0 + 256 * x1) = x0 + 256 * x1 := IntWalk.wrap64_in _ (by omega)
    have s2 : IntKind.i64.wrap (x0 + 256 * x1 + 65536 * x2) = x0 + 256 * x1 + 65536 * x2 := IntWalk.i64_in _ (by omega)
    have s2' : wrap64 (x0 + 256 * x1 + 65536 * x2) = x0 + 256 * x1 + 65536 * x2 := IntWalk.wrap64_in _ (by omega)
    have s3 : IntKind.i64.wrap (x0 + 256 * x1 + 65536 * x2 + 16777216 * x3) = x0 + 256 * x1 + 65536 * x2 + 16777216 * x3 := IntWalk.i64_in _ (by omega)
    have s3' : wrap64 (x0 + 256 * x1 + 65536 * x2 + 16777216 * x3) = x0 + 256 * x1 + 65536 * x2 + 16777216 * x3 := IntWalk.wrap64_in _ (by omega)
    replace p0 := eq_true p0
    replace q0 := eq_true q0
    replace p1 := eq_true p1
    replace q1 := eq_true q1
    replace p2 := eq_true p2
    replace q2 := eq_true q2
    replace p3 := eq_true p3
    replace q3 := eq_true q3
    replace q4 := eq_false q4
    clear hr h hz h'
    go_enter Tryd.func50, Tryd.ntmps50
    go_wp2
    repeat (go_quiet (fail); try go_wp2)
    go_ret
    rw [HF.out]
    exact ⟨rfl, by repeat (first | exact Drawn0.refl _ | apply Drawn0.step)⟩
end Go.Proofs.YtbjdipbhclihfaaDoor
set_option linter.unusedVariables false
set_option linter.unusedSimpArgs false
namespace Go.Proofs.YtbjdipbhclihfaaDoor
open Go.RowKit Go.Proofs Go.Proofs.YtbjdipbhclihfaaDoorW.PrintWords Plain
theorem BYT.app {W : World} {base : Nat} {v : Value} {p : List Int} {s : ByteArray} (h : W.ownsRow base 5 1 v (p.length + (bytesOf s).length) (nums .u8 (p ++ bytesOf s))) : BYT W base v (p ++ bytesOf s) :=
  Kd.R_of_own (enc := Value.int .u8) (h1 := fun _ => rfl) (by rw [List.length_append]; exact h) (fun _ _ => trivial)
theorem cb_sizes (v : ByteArray) (L : List ByteArray) (h : (commentsBytes v L).length ≤ 16777215) : v.size ≤ 16777215 ∧ L.length ≤ 16777215 ∧ ∀ s ∈ L, s.size ≤ 16777215 := by
  unfold commentsBytes at h
  simp only [List.length_append, bytesOf_length, low4_len] at h
  have h1 : ∀ L : List ByteArray, ∀ s ∈ L, s.size + 4 ≤ (L.map fun s => low4 s.size ++ bytesOf s).flatten.length := by
    intro L
    induction L with
    | nil => intro s hs; cases hs
    | cons a L ih =>
      intro s hs
      simp only [List.map_cons, List.flatten_cons, List.length_append, bytesOf_length, low4_len]
      rcases List.mem_cons.1 hs with e | e
      · subst e; omega
      · have := ih s e; omega
  have h2 : ∀ L : List ByteArray, L.length ≤ (L.map fun s => low4 s.size ++ bytesOf s).flatten.length := by
    intro L
    induction L with
    | nil => simp
    | cons a L ih =>
      simp only [List.map_cons, List.flatten_cons, List.length_append, bytesOf_length, low4_len, List.length_cons]
      omega
  have := h2 L
  refine ⟨by omega, by omega, fun s hs => ?_⟩
  have := h1 L s hs
  omega
/-- What the reference's Comments hands back. -/
def RefCom (w w' : World) (v : ByteArray) (L : List ByteArray) (e : Ending) : Prop :=
  ∃ u, e = .returned (.tuple #[u, .int .i64 (if writeOk v L = true then 0 else 12)]) ∧ BYT w' w.heap.size u (if writeOk v L = true then commentsBytes v L else []) ∧ Below w.heap.size w w'
set_option maxHeartbeats 4000000 in
set_option maxRecDepth 100000 in
theorem ref17 (v : ByteArray) (A : Option Addr) (c : Nat) (L : List ByteArray) (w : World) (hr : Kd.string.C w A L.length L) (hc : L.length ≤ c) (hsz : (commentsBytes v L).length ≤ 16777215) :
    Calls Tryd.prog 17 #[.string v, .slice A L.length c] w fun e w' => RefCom w w' v L e := by
  obtain ⟨hv, hL, hs⟩ := cb_sizes v L hsz
  have HR := Lib.hid hr
  have HS := Lib.hid hs
  have HSZ := Lib.hid hsz
  have hm := C_len hr
  have hte := fun W => text41 v W (by omega)
  clear hr hc hs hsz
  cases hval : Lib.validD v.data.toList with
  | false =>
    rw [hval] at hte
    have HF := Lib.hid (show writeOk v L = false by simp [writeOk, hval])
    clear hval
    go_enter Tryd.func17, Tryd.ntmps17
    go_wp2_with (go_at_call 41; refine (hte _).mono ?_; rintro e w' ⟨rfl, ⟨n, rfl⟩⟩)
    go_ret2
    refine ⟨.slice none 0 0, ?_, ?_, pw_below_drewN (Below.refl _ _) _⟩
    · rw [HF.out]; rfl
    · rw [HF.out]; exact Kd.R_nil _ _ _ _ _
  | true =>
    rw [hval] at hte
    have HVAL := Lib.hid hval
    clear hval
    have hle0 := Nat.le_trans (cpre_le v L 0) HSZ.out
    rw [cpre_zero] at hle0
    simp only [List.length_append, bytesOf_length, low4_len] at hle0
    go_enter Tryd.func17, Tryd.ntmps17
    go_wp2_with (go_at_call 41; refine (hte _).mono ?_; rintro e w' ⟨rfl, ⟨n, rfl⟩⟩)
    have HB0 := Lib.hid (pw_below_drewN (Below.refl w.heap.size w) n)
    generalize w.drewN n = w1 at *
    clear hte
    go_at_call 46
    refine (low46 v.size w1 (by omega)).mono ?_
    rintro e w2 ⟨u, rfl, hu, hb2⟩
    obtain ⟨A2, c2, rfl, hl2, hC2⟩ := RB.of_BYT hu
    have HC2 := Lib.hid hC2
    have HB2 := Lib.hid (HB0.out.trans (hb2.mono HB0.out.size))
    clear hu hC2 hb2 HB0
    go_wp2_with (at_builtin; refine Kd.R_append_row (Value.int .u8) (0 : Int) (h1 := fun _ => rfl) (w0 := w) w.heap.size rfl (.tmp 11) (.tmp 14) 27 5 (.int .u8 0) 1 rfl Tryd.underlying27 infoB rfl (by decide) _ [] (low4 (v.size : Int)) A2 (low4 (v.size : Int)).length c2 (fun _ => True) rfl rfl (fun _ _ => trivial) (Kd.R_nil _ _ _ _ _) HC2.out HB2.out HB2.out.size (by simp [low4_len]) ?_)
    intro v3 w3 hR3 hB3 _ _
    have HR3 : Hid (BYT w3 w.heap.size v3 (low4 (v.size : Int))) := Lib.hid hR3
    have HB3 := Lib.hid hB3
    clear hR3 hB3 HC2 HB2
    go_wp2_with (at_builtin; refine print_append_str (w0 := w) w.heap.size rfl (.tmp 16) (.tmp 17) 27 9 5 rfl Tryd.underlying27 Tryd.underlying9 infoB _ (low4 (v.size : Int)) v rfl rfl (Kd.own_of_R HR3.out) HB3.out HB3.out.size (by rw [low4_len]; omega) ?_)
    intro v4 w4 hR4 hB4 _
    have HR4 := Lib.hid (BYT.app hR4)
    have HB4 := Lib.hid hB4
    clear hR4 hB4 HR3 HB3
    go_wp2_with (fail)
    go_at_call 46
    refine (low46 L.length w4 (by omega)).mono ?_
    rintro e w5 ⟨u, rfl, hu, hb5⟩
    obtain ⟨A5, c5, rfl, hl5, hC5⟩ := RB.of_BYT hu
    have HC5 := Lib.hid hC5
    have HR5 := Lib.hid (Kd.R_below HR4.out hb5)
    have HB5 := Lib.hid (HB4.out.trans (hb5.mono HB4.out.size))
    clear hu hC5 hb5 HB4 HR4
    go_wp2_with (at_builtin; refine Kd.R_append_row (Value.int .u8) (0 : Int) (h1 := fun _ => rfl) (w0 := w) w.heap.size rfl (.tmp 19) (.tmp 22) 27 5 (.int .u8 0) 1 rfl Tryd.underlying27 infoB rfl (by decide) _ (low4 (v.size : Int) ++ bytesOf v) (low4 (L.length : Int)) A5 (low4 (L.length : Int)).length c5 (fun _ => True) rfl rfl (fun _ _ => trivial) HR5.out HC5.out HB5.out HB5.out.size (by simp only [List.length_append, bytesOf_length, low4_len]; omega) ?_)
    intro v6 w6 hR6 hB6 _ _
    have HR6 : Hid (BYT w6 w.heap.size v6 (cpre v L 0)) := Lib.hid (by rw [cpre_zero]; exact hR6)
    have HB6 := Lib.hid hB6
    clear hR6 hB6 HC5 HB5 HR5 hle0
    go_wp2_with (fail)
    go_loopg [6, 7] L.length (fun gg s6 s7 wr => ∃ kk : Nat, kk ≤ L.length ∧ L.length - kk ≤ gg ∧ s7 = .int .i64 kk ∧ Hid (∀ s ∈ L.take kk, commentB s = true) ∧ Hid (BYT wr w.heap.size s6 (cpre v L kk)) ∧ Hid (Below w.heap.size w wr))
    case atStart => exact ⟨0, Nat.zero_le _, by omega, rfl, Lib.hid (by simp), HR6, HB6⟩
    case round =>
      clear HR6 HB6
      obtain ⟨kk, hkk, hg, rfl, HT, HV, HB⟩ := hrel
      by_cases hlt : kk < L.length
      · have hltz : (kk : Int) < (L.length : Int) := by omega
        obtain ⟨ad, rfl, hcell⟩ := str_at HR.out kk hlt
        have hcell0 := hcell
        replace hcell := pw_cell_below HB.out hcell
        have hst := cpre_step v L kk hlt
        have hle := Nat.le_trans (cpre_le v L (kk + 1)) HSZ.out
        rw [hst] at hle
        have hmem := List.getElem_mem hlt
        have hts := List.take_succ_eq_append_getElem hlt
        generalize cpre v L kk = pre at hle hst HV
        generalize L[kk] = s at hcell hcell0 hst hle hmem hts
        rw [List.length_append, List.length_append, bytesOf_length] at hle
        rw [low4_len] at hle
        have hco := fun W => comment12 s W (by omega)
        cases hcb : commentB s with
        | false =>
          have hcf : comF s = -1 := by simp [comF, hcb]
          rw [hcf] at hco
          have HF : Hid (writeOk v L = false) := by
            refine Lib.hid ?_
            have : (L.any fun s => !commentB s) = true := List.any_eq_true.2 ⟨s, hmem, by rw [hcb]; rfl⟩
            simp [writeOk, this]
          clear hst hle hmem hts hcf hcb
          go_wp2_with (go_at_call 12; refine (hco _).mono ?_; rintro e w' ⟨rfl, ⟨n, rfl⟩⟩)
          go_ret2
          refine ⟨.slice none 0 0, ?_, ?_, pw_below_drewN HB.out _⟩
          · rw [HF.out]; rfl
          · rw [HF.out]; exact Kd.R_nil _ _ _ _ _
        | true =>
          obtain ⟨hq0, hq1, -, -⟩ := com_some s hcb
          generalize comF s = q at hq0 hq1 hco
          have hqn : ¬ q < 0 := by omega
          have HT2 : Hid (∀ s ∈ L.take (kk + 1), commentB s = true) := by
            refine Lib.hid ?_
            rw [hts]
            intro x hx
            rcases List.mem_append.1 hx with h | h
            · exact HT.out x h
            · rw [List.mem_singleton.1 h]; exact hcb
          have HST := Lib.hid hst
          have HCELL := Lib.hid hcell0
          clear hcell0
          have HCO := Lib.hid hco
          clear hst hmem hts hcb hco HT
          go_wp2_with (go_at_call 12; refine (HCO.out _).mono ?_; rintro e w' ⟨rfl, ⟨n, rfl⟩⟩)
          have HB1 := Lib.hid (pw_below_drewN HB.out n)
          have HV1 := Lib.hid (Kd.R_below HV.out (pw_below_drewN (Below.refl _ _) n))
          generalize wr.drewN n = w7 at *
          go_at_call 46
          refine (low46 s.size w7 (by omega)).mono ?_
          rintro e w8 ⟨u, rfl, hu, hb8⟩
          obtain ⟨A8, c8, rfl, hl8, hC8⟩ := RB.of_BYT hu
          have HC8 := Lib.hid hC8
          have HV8 := Lib.hid (Kd.R_below HV1.out hb8)
          have HB8 := Lib.hid (HB1.out.trans (hb8.mono HB1.out.size))
          clear hu hC8 HB1 HV1 HB HV hcell hb8
          go_wp2_with (at_builtin; refine Kd.R_append_row (Value.int .u8) (0 : Int) (h1 := fun _ => rfl) (w0 := w) w.heap.size rfl (.tmp 36) (.tmp 42) 27 5 (.int .u8 0) 1 rfl Tryd.underlying27 infoB rfl (by decide) _ pre (low4 (s.size : Int)) A8 (low4 (s.size : Int)).length c8 (fun _ => True) rfl rfl (fun _ _ => trivial) HV8.out HC8.out HB8.out HB8.out.size (by rw [low4_len]; omega) ?_)
          intro v9 w9 hR9 hB9 _ _
          have HR9 := Lib.hid hR9
          have HB9 := Lib.hid hB9
          have hcell9 := pw_cell_below HB9.out HCELL.out
          clear hR9 hB9 HV8 HC8 HB8
          go_wp2_with (at_builtin; refine print_append_str (w0 := w) w.heap.size rfl (.tmp 44) (.tmp 48) 27 9 5 rfl Tryd.underlying27 Tryd.underlying9 infoB _ (pre ++ low4 (s.size : Int)) s rfl rfl (Kd.own_of_R HR9.out) HB9.out HB9.out.size (by rw [List.length_append, low4_len]; omega) ?_)
          intro v10 w10 hR10 hB10 _
          have HR10 : Hid (BYT w10 w.heap.size v10 (pre ++ low4 (s.size : Int) ++ bytesOf s)) := Lib.hid (BYT.app (by simpa [Nat.add_assoc] using hR10))
          have HB10 := Lib.hid hB10
          clear hR10 hB10 HR9 HB9 hcell9
          go_wp2_with (fail)
          go_roundg (L.length - (kk + 1))
          case measure => omega
          case rel => exact ⟨kk + 1, by omega, by omega, by go_num, HT2, by rw [HST.out]; exact HR10, HB10⟩
      · have hltz : ¬ (kk : Int) < (L.length : Int) := by omega
        have hfull : L.take kk = L := List.take_of_length_le (by omega)
        have HF : Hid (writeOk v L = true) := by
          have h := HT.out
          rw [hfull] at h
          refine Lib.hid ?_
          have : (L.any fun s => !commentB s) = false := by
            rw [List.any_eq_false]
            intro x hx
            rw [h x hx]
            decide
          rw [writeOk, HVAL.out, this]
          rfl
        rw [cpre_full v L kk (by omega)] at HV
        clear hfull HT
        go_wp2
        go_ret2
        have hV := HV.out
        unfold RefCom
        simp only [HF.out, if_true]
        exact ⟨_, rfl, hV, HB.out⟩
end Go.Proofs.YtbjdipbhclihfaaDoor
set_option linter.unusedVariables false
set_option linter.unusedSimpArgs false
namespace Go.Proofs.YtbjdipbhclihfaaDoor
open Go.RowKit Go.Proofs Go.Proofs.YtbjdipbhclihfaaDoorW.PrintWords Plain
set_option maxRecDepth 100000 in
theorem low47_no (w0 W : World) (g : Nat) (bs : List Int) (e bad : Bool) (h : RD w0 W g bs e bad) (hn : bs.length < 4) :
    Calls Tryd.prog 47 #[.pointer (some ⟨g, 0, none⟩)] W fun r W' => r = .returned (.int .i64 0) ∧ RD w0 W' g [] true bad ∧ But g W W' := by
  have HT := Lib.hid (take74_no w0 W g bs e bad 4 h (.inr (by omega)))
  clear h
  go_enter Tryd.func47, Tryd.ntmps47
  go_wp2_with (go_at_call 74; refine HT.out.mono ?_; rintro r W1 ⟨rfl, hR, hB⟩; have HR := Lib.hid hR; have HB := Lib.hid hB; clear hR hB)
  go_loopg [3, 9] 0 (fun gg s3 s9 wr => s3 = .int .i64 0 ∧ s9 = .int .i64 0 ∧ W1 = wr)
  case atStart => exact ⟨rfl, rfl, rfl⟩
  case round =>
    obtain ⟨rfl, rfl, rfl⟩ := hrel
    go_wp2_with (fail)
    go_ret
    exact ⟨rfl, HR.out, HB.out⟩
/-- The first k of four bytes as a number. -/
def part4 (bs : List Int) : Nat → Int
  | 0 => 0
  | 1 => rd bs 0
  | 2 => rd bs 0 + 256 * rd bs 1
  | 3 => rd bs 0 + 256 * rd bs 1 + 65536 * rd bs 2
  | _ => le4 bs
theorem or63 (i : Nat) (y x : Int) (hy0 : 0 ≤ y) (hy : y < 2 ^ i) (hx0 : 0 ≤ x) (hx : x % 2 ^ i = 0) (hy1 : y < 2 ^ 63) (hx1 : x < 2 ^ 63) : bits .or .i64 y x = y + x :=
  bits_join_low .i64 63 (by decide) (fun n h0 h1 => by rw [IntKind.wrap_i64]; omega) i y x hy0 hy hy1 hx0 hx hx1
theorem part4_step (bs : List Int) (hb : ByteL bs) (kk : Nat) (hk : kk < 4) : bits .or .i64 (part4 bs kk) (wrap64 (rd bs kk * 2 ^ (8 * kk))) = part4 bs (kk + 1) := by
  have k0 := hb.rd 0
  have k1 := hb.rd 1
  have k2 := hb.rd 2
  have k3 := hb.rd 3
  match kk, hk with
  | 0, _ =>
    show bits .or .i64 0 (wrap64 (rd bs 0 * 1)) = rd bs 0
    generalize rd bs 0 = x0 at *
    rw [Int.mul_one, IntWalk.wrap64_in _ (by omega), or63 0 0 x0 (by omega) (by decide) (by omega) (by omega) (by decide) (by omega)]
    omega
  | 1, _ =>
    show bits .or .i64 (rd bs 0) (wrap64 (rd bs 1 * 256)) = rd bs 0 + 256 * rd bs 1
    generalize rd bs 0 = x0 at *
    generalize rd bs 1 = x1 at *
    rw [IntWalk.wrap64_in _ (by omega), or63 8 x0 (x1 * 256) (by omega) (by omega) (by omega) (by omega) (by omega) (by omega)]
    omega
  | 2, _ =>
    show bits .or .i64 (rd bs 0 + 256 * rd bs 1) (wrap64 (rd bs 2 * 65536)) = rd bs 0 + 256 * rd bs 1 + 65536 * rd bs 2
    generalize rd bs 0 = x0 at *
    generalize rd bs 1 = x1 at *
    generalize rd bs 2 = x2 at *
    rw [IntWalk.wrap64_in _ (by omega), or63 16 _ (x2 * 65536) (by omega) (by omega) (by omega) (by omega) (by omega) (by omega)]
    omega
  | 3, _ =>
    show bits .or .i64 (rd bs 0 + 256 * rd bs 1 + 65536 * rd bs 2) (wrap64 (rd bs 3 * 16777216)) = rd bs 0 + 256 * rd bs 1 + 65536 * rd bs 2 + 16777216 * rd bs 3
    generalize rd bs 0 = x0 at *
    generalize rd bs 1 = x1 at *
    generalize rd bs 2 = x2 at *
    generalize rd bs 3 = x3 at *
    rw [IntWalk.wrap64_in _ (by omega), or63 24 _ (x3 * 16777216) (by omega) (by omega) (by omega) (by omega) (by omega) (by omega)]
    omega
set_option maxRecDepth 100000 in
theorem low47 (w0 W : World) (g : Nat) (bs : List Int) (e bad : Bool) (h : RD w0 W g bs e bad) (hn : 4 ≤ bs.length) (hb : ByteL bs) :
    Calls Tryd.prog 47 #[.pointer (some ⟨g, 0, none⟩)] W fun r W' => r = .returned (.int .i64 (le4 bs)) ∧ RD w0 W' g (bs.drop 4) e bad ∧ But g W W' := by
  have HT := Lib.hid (take74 w0 W g bs e bad 4 h hn)
  have hl4 : (bs.take 4).length = 4 := by simp; omega
  have HL4 := Lib.hid hl4
  have HBy := Lib.hid hb
  clear h hb
  go_enter Tryd.func47, Tryd.ntmps47
  go_wp2_with (go_at_call 74; refine HT.out.mono ?_; rintro r W1 ⟨A, c, rfl, hc, hC, hR, hB⟩; have HR := Lib.hid hR; have HB := Lib.hid hB; have hCW : Hid ((Kd.int .u8).C W1 A (bs.take 4).length (bs.take 4)) := Lib.hid (by rw [hl4]; exact Kd.C_below hC hR.bel); clear hR hB hC)
  clear hl4
  go_loopg [3, 9] 4 (fun gg s3 s9 wr => W1 = wr ∧ ∃ kk : Nat, kk ≤ 4 ∧ 4 - kk ≤ gg ∧ s9 = .int .i64 kk ∧ s3 = .int .i64 (part4 bs kk))
  case atStart => exact ⟨rfl, 0, by omega, by omega, rfl, rfl⟩
  case round =>
    obtain ⟨rfl, kk, hkk, hgg, rfl, rfl⟩ := hrel
    by_cases hlt : kk < 4
    · have hltz : (kk : Int) < 4 := by omega
      obtain ⟨ad, rfl, c0⟩ := int_at hCW.out kk (by rw [HL4.out]; exact hlt)
      have g0 : (bs.take 4)[kk]'(by rw [HL4.out]; exact hlt) = rd bs kk := by simp [rd, List.getD_eq_getElem?_getD, List.getElem?_eq_getElem (show kk < bs.length by omega)]
      rw [g0] at c0
      have hr := HBy.out.rd kk
      obtain ⟨y, hy⟩ : ∃ y, rd bs kk = y := ⟨_, rfl⟩
      have HY := Lib.hid hy
      rw [hy] at c0 hr
      obtain ⟨z, hz⟩ : ∃ z, part4 bs kk = z := ⟨_, rfl⟩
      have HZ := Lib.hid hz
      rw [hz]
      clear g0 hy hz
      go_wp2_with (fail)
      go_roundg (4 - (kk + 1))
      case measure => omega
      case rel => exact ⟨rfl, kk + 1, by omega, by omega, by go_num, by rw [← part4_step bs HBy.out kk hlt, HZ.out, HY.out]⟩
    · have hltz : ¬ (kk : Int) < 4 := by omega
      obtain rfl : kk = 4 := by omega
      go_wp2_with (fail)
      go_ret
      exact ⟨rfl, HR.out, HB.out⟩
end Go.Proofs.YtbjdipbhclihfaaDoor
set_option linter.unusedVariables false
set_option linter.unusedSimpArgs false
namespace Go.Proofs.YtbjdipbhclihfaaDoor
open Go.RowKit Go.Proofs Go.Proofs.YtbjdipbhclihfaaDoorW.PrintWords Plain
/-- The reader's method 'low', bound. -/
def LowV (g : Nat) : Value := .func (.func 47) #[.pointer (some ⟨g, 0, none⟩)] #[]
set_option maxRecDepth 100000 in
theorem text48_no1 (w0 W : World) (g : Nat) (bs : List Int) (bad : Bool) (h : RD w0 W g bs false bad) (hn : bs.length < 4) :
    Calls Tryd.prog 48 #[.pointer (some ⟨g, 0, none⟩), .func (.func 47) #[.pointer (some ⟨g, 0, none⟩)] #[]] W fun r W' => r = .returned (.string ⟨#[]⟩) ∧ RD w0 W' g [] true bad ∧ But g W W' := by
  have HT := Lib.hid (low47_no w0 W g bs false bad h hn)
  clear h
  go_enter Tryd.func48, Tryd.ntmps48
  go_wp2_with (fail)
  refine HT.out.mono ?_
  rintro r W1 ⟨rfl, hR, hB⟩
  have c1 := hR.end_
  have HR := Lib.hid hR
  have HB := Lib.hid hB
  clear hR hB
  go_wp2_with (fail)
  go_ret
  exact ⟨rfl, HR.out, HB.out⟩
set_option maxRecDepth 100000 in
theorem text48_no2 (w0 W : World) (g : Nat) (bs : List Int) (bad : Bool) (h : RD w0 W g bs false bad) (hn : 4 ≤ bs.length) (hb : ByteL bs) (hs : (bs.length : Int) < 4 + le4 bs) :
    Calls Tryd.prog 48 #[.pointer (some ⟨g, 0, none⟩), .func (.func 47) #[.pointer (some ⟨g, 0, none⟩)] #[]] W fun r W' => r = .returned (.string ⟨#[]⟩) ∧ RD w0 W' g [] true bad ∧ But g W W' := by
  have HT := Lib.hid (low47 w0 W g bs false bad h hn hb)
  have hl : (bs.drop 4).length = bs.length - 4 := by simp
  have hcv := Kd.C_string (P := Tryd.prog) (w := W) (c := 0) Tryd.underlying27 Tryd.underlying5 Tryd.underlying9 (C_nil8 W)
  have HCV : Hid (∀ W : World, (convert 27 9 (.slice none 0 0)).run Tryd.prog W = .ok (.string ⟨#[]⟩) W) := Lib.hid fun W => Kd.C_string (P := Tryd.prog) (w := W) (c := 0) Tryd.underlying27 Tryd.underlying5 Tryd.underlying9 (C_nil8 W)
  clear h hcv
  go_enter Tryd.func48, Tryd.ntmps48
  go_wp2_with (fail)
  refine HT.out.mono ?_
  rintro r W1 ⟨rfl, hR, hB⟩
  have c1 := hR.end_
  have HK := Lib.hid (take74_no w0 W1 g (bs.drop 4) false bad (le4 bs) hR (.inr (by omega)))
  have HB := Lib.hid hB
  clear hR hB
  go_wp2_with (fail)
  refine HK.out.mono ?_
  rintro r W2 ⟨rfl, hR2, hB2⟩
  have HR := Lib.hid hR2
  have HB2 := Lib.hid (HB.out.trans hB2)
  have hcv := HCV.out W2
  clear hR2 hB2
  go_wp2_with (fail)
  go_ret
  exact ⟨rfl, HR.out, HB2.out⟩
set_option maxRecDepth 100000 in
theorem text48_yes (w0 W : World) (g : Nat) (bs : List Int) (bad : Bool) (h : RD w0 W g bs false bad) (hn : 4 ≤ bs.length) (hb : ByteL bs) (hs : ¬ (bs.length : Int) < 4 + le4 bs) :
    Calls Tryd.prog 48 #[.pointer (some ⟨g, 0, none⟩), .func (.func 47) #[.pointer (some ⟨g, 0, none⟩)] #[]] W fun r W' => r = .returned (.string (strOfNums ((bs.drop 4).take (le4 bs).toNat))) ∧ RD w0 W' g ((bs.drop 4).drop (le4 bs).toNat) false bad ∧ But g W W' := by
  have HT := Lib.hid (low47 w0 W g bs false bad h hn hb)
  have hr := le4_range hb
  have hl : (bs.drop 4).length = bs.length - 4 := by simp
  obtain ⟨n, hn4⟩ : ∃ n : Nat, le4 bs = n := ⟨(le4 bs).toNat, by omega⟩
  rw [hn4] at HT hs ⊢
  simp only [Int.toNat_natCast]
  clear h
  go_enter Tryd.func48, Tryd.ntmps48
  go_wp2_with (fail)
  refine HT.out.mono ?_
  rintro r W1 ⟨rfl, hR, hB⟩
  have c1 := hR.end_
  have HK := Lib.hid (take74 w0 W1 g (bs.drop 4) false bad n hR (by omega))
  have HB := Lib.hid hB
  clear hR hB hs
  go_wp2_with (fail)
  refine HK.out.mono ?_
  rintro r W2 ⟨A, c, rfl, hc, hC, hR2, hB2⟩
  have hcv := Kd.C_string (P := Tryd.prog) (c := c) Tryd.underlying27 Tryd.underlying5 Tryd.underlying9 (Kd.C_below hC hR2.bel)
  have HR := Lib.hid hR2
  have HB2 := Lib.hid (HB.out.trans hB2)
  clear hR2 hB2 hC
  go_wp2_with (fail)
  go_ret
  exact ⟨rfl, HR.out, HB2.out⟩
def txtV (bs : List Int) : ByteArray := match ptxt bs with | some x => x.1 | none => ⟨#[]⟩
def txtR (bs : List Int) : List Int := match ptxt bs with | some x => x.2 | none => []
/-- The reader's text. -/
theorem text48 (w0 W : World) (g : Nat) (bs : List Int) (bad : Bool) (h : RD w0 W g bs false bad) (hb : ByteL bs) :
    Calls Tryd.prog 48 #[.pointer (some ⟨g, 0, none⟩), .func (.func 47) #[.pointer (some ⟨g, 0, none⟩)] #[]] W fun r W' =>
      r = .returned (.string (txtV bs)) ∧ RD w0 W' g (txtR bs) (ptxt bs).isNone bad ∧ But g W W' := by
  by_cases h4 : bs.length < 4
  · have hp : ptxt bs = none := if_pos h4
    unfold txtV txtR
    rw [hp]
    exact text48_no1 w0 W g bs bad h h4
  · by_cases hs : (bs.length : Int) < 4 + le4 bs
    · have hp : ptxt bs = none := by unfold ptxt; rw [if_neg h4, if_pos hs]
      unfold txtV txtR
      rw [hp]
      exact text48_no2 w0 W g bs bad h (by omega) hb hs
    · have hp : ptxt bs = some (strOfNums ((bs.drop 4).take (le4 bs).toNat), (bs.drop 4).drop (le4 bs).toNat) := by unfold ptxt; rw [if_neg h4, if_neg hs]
      unfold txtV txtR
      rw [hp]
      exact text48_yes w0 W g bs bad h (by omega) hb hs
end Go.Proofs.YtbjdipbhclihfaaDoor
set_option linter.unusedVariables false
set_option linter.unusedSimpArgs false
namespace Go.Proofs.YtbjdipbhclihfaaDoor
open Go.RowKit Go.Proofs Go.Proofs.YtbjdipbhclihfaaDoorW.PrintWords Plain
/-- The number, with what it leaves. -/
theorem low47_any (w0 W : World) (g : Nat) (bs : List Int) (e bad : Bool) (h : RD w0 W g bs e bad) (hb : ByteL bs) :
    Calls Tryd.prog 47 #[.pointer (some ⟨g, 0, none⟩)] W fun r W' => r = .returned (.int .i64 (if bs.length < 4 then 0 else le4 bs)) ∧ RD w0 W' g (if bs.length < 4 then [] else bs.drop 4) (if bs.length < 4 then true else e) bad ∧ But g W W' := by
  by_cases h4 : bs.length < 4
  · simp only [if_pos h4]
    exact low47_no w0 W g bs e bad h h4
  · simp only [if_neg h4]
    exact low47 w0 W g bs e bad h (by omega) hb
theorem ptxts_len : ∀ (n : Nat) (bs : List Int) (L : List ByteArray) (q : List Int), ByteL bs → ptxts n bs = some (L, q) → (L.map fun s => low4 s.size ++ bytesOf s).flatten.length + q.length = bs.length
  | 0, bs, L, q, hb, h => by
    simp only [ptxts, Option.some.injEq, Prod.mk.injEq] at h
    obtain ⟨rfl, rfl⟩ := h
    simp
  | n + 1, bs, L, q, hb, h => by
    unfold ptxts at h
    cases hp : ptxt bs with
    | none => rw [hp] at h; cases h
    | some x =>
      obtain ⟨s, r⟩ := x
      rw [hp] at h
      simp only [Option.bind_some] at h
      obtain ⟨y, hy, he⟩ := Option.map_eq_some_iff.1 h
      obtain ⟨L', q'⟩ := y
      simp only [Prod.mk.injEq] at he
      obtain ⟨rfl, rfl⟩ := he
      obtain ⟨h1, h2, _⟩ := ptxt_size hb hp
      have := ptxts_len n r L' q' h2 hy
      simp only [List.map_cons, List.flatten_cons, List.length_append, bytesOf_length, low4_len]
      omega
theorem cb_of (bs : List Int) (v : ByteArray) (r : List Int) (n : Nat) (L : List ByteArray) (q : List Int) (hb : ByteL bs) (h1 : ptxt bs = some (v, r)) (h4 : 4 ≤ r.length) (h2 : ptxts n (r.drop 4) = some (L, q)) : (commentsBytes v L).length + q.length = bs.length := by
  obtain ⟨k1, k2, _⟩ := ptxt_size hb h1
  have := ptxts_len n _ L q (k2.drop 4) h2
  unfold commentsBytes
  simp only [List.length_append, bytesOf_length, low4_len, List.length_drop] at this ⊢
  omega
theorem readF (bs : List Int) (h : ptxt bs = none ∨ ∃ v r, ptxt bs = some (v, r) ∧ r.length < 4) : readB bs = (⟨#[]⟩, [], 11) := by
  unfold readB
  rcases h with h | ⟨v, r, h, h4⟩
  · rw [h]
  · rw [h]
    simp only [if_pos h4]
theorem readG (bs : List Int) (v : ByteArray) (r : List Int) (h : ptxt bs = some (v, r)) (h4 : ¬ r.length < 4) : readB bs = match ptxts (le4 r).toNat (r.drop 4) with
    | none => (⟨#[]⟩, [], 11)
    | some (L, q) => if q.length = 0 then (if writeOk v L = true then (v, L, 0) else (⟨#[]⟩, [], 12)) else (⟨#[]⟩, [], 12) := by
  unfold readB
  rw [h]
  simp only [if_neg h4]
  all_goals rfl
theorem write11g (v : ByteArray) (A : Option Addr) (c : Nat) (L : List ByteArray) (w : World) (hr : Kd.string.C w A L.length L) (hsz : (commentsBytes v L).length ≤ 16777215) (hG : Glob w) :
    Calls Tryd.prog 11 #[.agg #[.string v, .slice A L.length c]] w fun e w' => ∃ u, e = .returned (.tuple #[u, .int .i64 (if writeOk v L = true then 0 else 12)]) ∧ BYT w' w.heap.size u (if writeOk v L = true then commentsBytes v L else []) ∧ Below w.heap.size w w' := by
  obtain ⟨h1, h2, h3⟩ := cb_sizes v L hsz
  have hf : Fits v := Nat.le_trans h1 (by decide)
  have hF : ∀ s ∈ L, Fits s := fun s hs => Nat.le_trans (h3 s hs) (by decide)
  unfold writeOk
  cases hv : Lib.validD v.data.toList with
  | false => exact (write11_no1 v A c L w hv hf hG).mono fun e w' ⟨he, hb⟩ => ⟨_, he, Kd.R_nil _ _ _ _ _, hb⟩
  | true =>
    cases hL : L.any fun s => !commentB s with
    | true => exact (write11_no2 v A c L w hr hv hL hf hF hG).mono fun e w' ⟨he, hb⟩ => ⟨_, he, Kd.R_nil _ _ _ _ _, hb⟩
    | false => exact (write11_yes v A c L w hr hv hL hf hF hG hsz).mono fun e w' ⟨u, he, hu, hb⟩ => ⟨u, he, hu, hb⟩
theorem STR.but {W W' : World} {base g : Nat} {u : Value} {xs : List ByteArray} {cs : Array Value} {t : TypeId} (h : STR W base u xs) (hk : W.heap[g]? = some (.cells cs t (0, 0))) (ht : t ≠ 9) (hb : But g W W') : STR W' base u xs :=
  Kd.R_mono (Kd.R_step (Kd.R_types h hk (fun q hq => by
    have : q = 9 := by simpa [Kd.string, Kd.scalar] using hq
    rw [this]; exact fun e => ht e.symm)) (fun k hk hlt => hb.block k hlt hk.2)) (fun _ hk => hk.1)
theorem RD.at {w0 W W' : World} {g : Nat} {bs : List Int} {e bad : Bool} (h : RD w0 W g bs e bad) (hB : Below w0.heap.size w0 W') (hk : ∀ o, W.heap[g]? = some o → W'.heap[g]? = some o) : RD w0 W' g bs e bad := by
  obtain ⟨A, c, h1, h2, h3⟩ := h.row
  exact ⟨h.lt, hB, A, c, hk _ h1, h2, h3⟩
/-- What ReadComments hands back. -/
def RdCom (w w' : World) (bs : List Int) (e : Ending) : Prop :=
  ∃ u, e = .returned (.tuple #[.agg #[.string (readB bs).1, u], .int .i64 (readB bs).2.2]) ∧ RS w' u (readB bs).2.1 ∧ Below w.heap.size w w'
set_option maxHeartbeats 4000000 in
set_option maxRecDepth 100000 in
theorem read19 (A : Option Addr) (c : Nat) (bs : List Int) (w : World) (hr : (Kd.int .u8).C w A bs.length bs) (hc : bs.length ≤ c) (hb : ByteL bs) (hsz : bs.length ≤ 16777215) (hG : Glob w) :
    Calls Tryd.prog 19 #[.slice A bs.length c] w fun r W' => RdCom w W' bs r := by
  have HG := Lib.hid hG
  have HBy := Lib.hid hb
  have HSZ := Lib.hid hsz
  have hbel : Below w.heap.size w ((w.alloc (.cells #[.string ⟨#[]⟩, .slice none 0 0] 24)).alloc (.cells #[.slice A bs.length c, .bool false, .bool false] 80)) := below_alloc (below_alloc (Below.refl _ _) _) _
  have hg1 : (w.alloc (.cells #[.string ⟨#[]⟩, .slice none 0 0] 24)).heap.size = w.heap.size + 1 := by simp
  have hk1 := blk_new (w.alloc (.cells #[.string ⟨#[]⟩, .slice none 0 0] 24)) (.cells #[.slice A bs.length c, .bool false, .bool false] 80)
  rw [hg1] at hk1
  have hk0 := blk_alloc (blk_new w (.cells #[.string ⟨#[]⟩, .slice none 0 0] 24)) (.cells #[.slice A bs.length c, .bool false, .bool false] 80)
  have hRD : RD w ((w.alloc (.cells #[.string ⟨#[]⟩, .slice none 0 0] 24)).alloc (.cells #[.slice A bs.length c, .bool false, .bool false] 80)) (w.heap.size + 1) bs false false := ⟨Nat.le_succ _, hbel, A, c, hk1, hc, hr⟩
  have HT := Lib.hid (text48 _ _ _ _ _ hRD hb)
  have HK0 := Lib.hid hk0
  have HBEL := Lib.hid hbel
  clear hG hb hsz hr hc hbel hk1 hk0 hRD hg1
  go_enter Tryd.func19, Tryd.ntmps19
  go_wp2_with (fail)
  go_step3
  go_wp2_with (fail)
  generalize (w.alloc (.cells #[.string ⟨#[]⟩, .slice none 0 0] 24)).alloc (.cells #[.slice A bs.length c, .bool false, .bool false] 80) = W0 at *
  refine HT.out.mono ?_
  clear HT
  obtain ⟨v0, r0, e0, hp0, hv0⟩ : ∃ v0 r0 e0, (txtV bs = v0 ∧ txtR bs = r0 ∧ (ptxt bs).isNone = e0) ∧ ((ptxt bs = none ∧ r0 = ([] : List Int) ∧ e0 = true) ∨ (ptxt bs = some (v0, r0) ∧ e0 = false ∧ ByteL r0)) := by
    cases hp : ptxt bs with
    | none => exact ⟨_, _, _, ⟨rfl, rfl, rfl⟩, .inl ⟨rfl, by unfold txtR; rw [hp], rfl⟩⟩
    | some x => exact ⟨x.1, x.2, _, ⟨by unfold txtV; rw [hp], by unfold txtR; rw [hp], rfl⟩, .inr ⟨rfl, rfl, (ptxt_size HBy.out hp).2.1⟩⟩
  rw [hp0.1, hp0.2.1, hp0.2.2]
  clear hp0
  have hby0 : ByteL r0 := by
    rcases hv0 with ⟨_, h, _⟩ | ⟨_, _, h⟩
    · rw [h]; intro x hx; cases hx
    · exact h
  rintro e w1 ⟨rfl, hR1, hB1⟩
  have hm1 : Below w1.heap.size w1 (w1.alloc (.cells #[.string v0, .slice none 0 0] 24)) := below_alloc (Below.refl _ _) _
  have HR2 := Lib.hid (hR1.of hm1)
  have hk2 := blk_new w1 (.cells #[.string v0, .slice none 0 0] 24)
  have HK2 := Lib.hid hk2
  have HK0' := Lib.hid (blk_below (hB1.blk HK0.out (by simp)) hm1)
  have HNE := Lib.hid (show w1.heap.size ≠ w.heap.size + 1 from by have := blk_lt hR1.row.choose_spec.choose_spec.1; omega)
  have HLT := Lib.hid (show w.heap.size < w1.heap.size from by have := blk_lt hR1.row.choose_spec.choose_spec.1; omega)
  clear hR1 hB1 hm1 hk2 HK0 HBEL
  go_wp2_with (fail)
  generalize w1.alloc (.cells #[.string v0, .slice none 0 0] 24) = w2 at *
  refine (low47_any w w2 _ r0 e0 false HR2.out hby0).mono ?_
  rintro e w3 ⟨rfl, hR3, hB3⟩
  have HK3 := Lib.hid (hB3.blk HK2.out HNE.out)
  have HK03 := Lib.hid (hB3.blk HK0'.out (by simp))
  clear HK2 HK0' hB3 HR2
  generalize w1.heap.size = g6 at *
  by_cases h4 : r0.length < 4
  · have HRB : Hid (readB bs = (⟨#[]⟩, [], 11)) := Lib.hid (readF bs (by
      rcases hv0 with ⟨h, _, _⟩ | ⟨h, _, _⟩
      · exact .inl h
      · exact .inr ⟨v0, r0, h, h4⟩))
    simp only [if_pos h4] at hR3 ⊢
    have HR3 := Lib.hid hR3
    clear hR3 hv0 h4 hby0
    go_wp2_with (fail)
    go_step3
    go_wp2_with (fail)
    go_loopg [24] 0 (fun gg s24 wr => s24 = .int .i64 0 ∧ w3 = wr)
    case atStart => exact ⟨rfl, rfl⟩
    case round =>
      obtain ⟨rfl, rfl⟩ := hrel
      go_wp2_with (fail)
      refine (over49 w w3 _ _ _ _ HR3.out).mono ?_
      rintro e w4 ⟨rfl, rfl⟩
      rw [show overF [] true false = 11 from rfl]
      have HB3 := Lib.hid HR3.out.bel
      have z0 := HK03.out
      have z1 := blk_put z0 0 (.string ⟨#[]⟩) (cs' := #[.string ⟨#[]⟩, .slice none 0 0]) rfl
      have Z2 := Lib.hid (blk_put z1 1 (.slice none 0 0) (cs' := #[.string ⟨#[]⟩, .slice none 0 0]) rfl)
      have ZB := Lib.hid ((HB3.out.setCell (p := ⟨w.heap.size, 0, none⟩) (Nat.le_refl _) (.string ⟨#[]⟩)).setCell (p := ⟨w.heap.size, 1, none⟩) (Nat.le_refl _) (.slice none 0 0))
      have f0 := blk_frozen z0 0
      have f1 := blk_frozen z1 1
      have y0 := blk_cell z0 0
      have y1 := blk_cell z1 1
      simp only [List.getElem?_toArray, List.getElem?_cons_zero, List.getElem?_cons_succ] at y0 y1
      clear z0 z1
      go_wp2_with (fail)
      simp only [Exit.noGoto, Exit.inBlock, Exit.then]
      refine bodyPost_ret (results_list (rs := [.cell 2 24, .tmp 3]) rfl (by simp) (.cell _ _ _ _ _ rfl Z2.out Tryd.underlying24 rfl rfl (.tmp .nil))) rfl ?_
      unfold RdCom
      rw [HRB.out]
      exact ⟨.slice none 0 0, rfl, RS.of_STR (Kd.R_nil Kd.string 9 _ 0 _), ZB.out⟩
  · obtain ⟨hp, he0⟩ : ptxt bs = some (v0, r0) ∧ e0 = false := by
      rcases hv0 with ⟨_, h, _⟩ | ⟨h, h', _⟩
      · exfalso; rw [h] at h4; exact h4 (by decide)
      · exact ⟨h, h'⟩
    subst he0
    simp only [if_neg h4] at hR3 ⊢
    have hrg := readG bs v0 r0 hp h4
    have hle := le4_range hby0
    obtain ⟨m, hm⟩ : ∃ m : Nat, le4 r0 = m := ⟨(le4 r0).toNat, by omega⟩
    rw [hm] at hrg hle ⊢
    simp only [Int.toNat_natCast] at hrg
    have hcb : ∀ L q, ptxts m (r0.drop 4) = some (L, q) → (commentsBytes v0 L).length + q.length = bs.length := fun L q h => cb_of bs v0 r0 m L q HBy.out hp (by omega) h
    have HCB := Lib.hid hcb
    have HBr := Lib.hid (hby0.drop 4)
    have hr1 : (r0.drop 4).length ≤ 16777215 := by
      have h1 := (ptxt_size HBy.out hp).1
      have h2 := HSZ.out
      simp only [List.length_drop]
      omega
    generalize r0.drop 4 = r1 at *
    have HRG := Lib.hid hrg
    have HR3 := Lib.hid hR3
    clear hrg hcb hR3 hv0 hp hby0 hm
    go_wp2_with (fail)
    go_step3
    go_wp2_with (fail)
    go_loopg [24] r1.length (fun gg s24 wr => ∃ (i : Nat) (acc : List ByteArray) (rest : List Int) (u : Value), i ≤ m ∧ rest.length ≤ gg ∧ acc.length + rest.length ≤ r1.length ∧ s24 = .int .i64 i ∧ Hid (ByteL rest) ∧ Hid (ptxts m r1 = (ptxts (m - i) rest).map fun x => (acc ++ x.1, x.2)) ∧ Hid (RD w wr (w.heap.size + 1) rest false false) ∧ Hid (wr.heap[w.heap.size]? = some (.cells #[.string ⟨#[]⟩, .slice none 0 0] 24 (0, 0))) ∧ Hid (wr.heap[g6]? = some (.cells #[.string v0, u] 24 (0, 0))) ∧ Hid (STR wr w.heap.size u acc))
    case atStart => exact ⟨0, [], r1, .slice none 0 0, Nat.zero_le _, Nat.le_refl _, by simp, rfl, HBr, Lib.hid (by simp), HR3, HK03, HK3, Lib.hid (Kd.R_nil _ _ _ _ _)⟩
    case round =>
      clear HR3 HK03 HK3
      obtain ⟨i, acc, rest, u, him, hgg, har, rfl, HBr, HF, HR, HK0, HK6, HS⟩ := hrel
      by_cases hlt : i < m
      · have hltz : (i : Int) < (m : Int) := by omega
        go_wp2_with (fail)
        refine (text48 w wr _ rest false HR.out HBr.out).mono ?_
        rintro e w4 ⟨rfl, hR4, hB4⟩
        have HK04 := Lib.hid (hB4.blk HK0.out (by simp))
        have HK64 := Lib.hid (hB4.blk HK6.out HNE.out)
        obtain ⟨n', hn'⟩ : ∃ n', m - i = n' + 1 := ⟨m - i - 1, by omega⟩
        rw [hn'] at HF
        cases hp : ptxt rest with
        | none =>
          have hf := ptxts_none n' rest acc _ HF.out hp
          have hrg := HRG.out
          rw [hf] at hrg
          have HRB := Lib.hid hrg
          rw [hp, Option.isNone_none] at hR4
          rw [show txtR rest = [] by unfold txtR; rw [hp]] at hR4
          have c1 := hR4.end_
          have HR4 := Lib.hid hR4
          clear hf hrg hR4 hB4 HF HRG hp
          go_wp2_with (fail)
          refine (over49 w w4 _ _ _ _ HR4.out).mono ?_
          rintro e w5 ⟨rfl, rfl⟩
          rw [show overF [] true false = 11 from rfl]
          have HB3 := Lib.hid HR4.out.bel
          clear c1
          have z0 := HK04.out
          have z1 := blk_put z0 0 (.string ⟨#[]⟩) (cs' := #[.string ⟨#[]⟩, .slice none 0 0]) rfl
          have Z2 := Lib.hid (blk_put z1 1 (.slice none 0 0) (cs' := #[.string ⟨#[]⟩, .slice none 0 0]) rfl)
          have ZB := Lib.hid ((HB3.out.setCell (p := ⟨w.heap.size, 0, none⟩) (Nat.le_refl _) (.string ⟨#[]⟩)).setCell (p := ⟨w.heap.size, 1, none⟩) (Nat.le_refl _) (.slice none 0 0))
          have f0 := blk_frozen z0 0
          have f1 := blk_frozen z1 1
          have y0 := blk_cell z0 0
          have y1 := blk_cell z1 1
          simp only [List.getElem?_toArray, List.getElem?_cons_zero, List.getElem?_cons_succ] at y0 y1
          clear z0 z1
          go_wp2_with (fail)
          simp only [Exit.noGoto, Exit.inBlock, Exit.then]
          refine bodyPost_ret (results_list (rs := [.cell 2 24, .tmp 3]) rfl (by simp) (.cell _ _ _ _ _ rfl Z2.out Tryd.underlying24 rfl rfl (.tmp .nil))) rfl ?_
          unfold RdCom
          rw [HRB.out]
          exact ⟨.slice none 0 0, rfl, RS.of_STR (Kd.R_nil Kd.string 9 _ 0 _), ZB.out⟩
        | some x =>
          obtain ⟨s, r'⟩ := x
          have hf := ptxts_step n' rest acc _ HF.out s r' hp
          obtain ⟨hz1, hz2, -, -, -, -⟩ := ptxt_size HBr.out hp
          rw [hp, Option.isNone_some] at hR4
          rw [show txtR rest = r' by unfold txtR; rw [hp]] at hR4
          rw [show txtV rest = s by unfold txtV; rw [hp]]
          obtain ⟨A4, c4, rfl⟩ := Kd.R_slice HS.out
          obtain ⟨Ag, cg, hkg, _, _⟩ := HR.out.row
          have HS4 := Lib.hid (STR.but HS.out hkg (by decide) hB4)
          have c1 := hR4.end_
          have c6 := blk_cell HK64.out 1
          have f6 := blk_frozen HK64.out 1
          simp only [List.getElem?_toArray, List.getElem?_cons_zero, List.getElem?_cons_succ] at c6
          have HR4 := Lib.hid hR4
          have HF' := Lib.hid hf
          have HA4 := Lib.hid (below_alloc (Below.refl w4.heap.size w4) (.cells #[.string s] 9))
          clear hf hR4 hB4 HF hkg HS HR HK0 HK6 hp
          go_wp2_with (at_builtin; refine Kd.R_append_row Value.string ByteArray.empty (h1 := fun _ => rfl) (w0 := w) w.heap.size rfl (.tmp 34) (.tmp 36) 22 9 (.string ⟨#[]⟩) 16 rfl Tryd.underlying22 infoS rfl (by decide) _ acc [s] _ 1 1 (fun _ => True) rfl rfl (fun _ _ => trivial) (Kd.R_below HS4.out HA4.out) (row1s w4 s) (HR4.out.bel.trans (HA4.out.mono HR4.out.bel.size)) (Nat.le_trans HR4.out.bel.size HA4.out.size) (by omega) ?_)
          intro v6 w6 hR6 hB6 hg6 _
          have n0 := Kd.R_ne HS4.out HK04.out (by decide)
          have n6 := Kd.R_ne HS4.out HK64.out (by decide)
          obtain ⟨Ag, cg, hkg, _, _⟩ := HR4.out.row
          have ng := Kd.R_ne HS4.out hkg (by decide)
          have hRD6 : RD w w6 (w.heap.size + 1) r' false false := (HR4.out.of HA4.out).at hB6 (fun o ho => blk_grown ho hg6 ng)
          have hK06 := blk_grown (blk_alloc HK04.out (.cells #[.string s] 9)) hg6 n0
          have hK66 := blk_grown (blk_alloc HK64.out (.cells #[.string s] 9)) hg6 n6
          obtain ⟨A6, c6', rfl⟩ := Kd.R_slice hR6
          have f6' := blk_frozen hK66 1
          have c66 := blk_cell hK66 1
          simp only [List.getElem?_toArray, List.getElem?_cons_zero, List.getElem?_cons_succ] at c66
          have HS7 := Lib.hid (Kd.R_set hR6 hK66 (by decide) 1 (.slice A6 (acc ++ [s]).length c6'))
          have hge6 : w.heap.size ≤ g6 := Nat.le_of_lt HLT.out
          have HR7 := Lib.hid (hRD6.but ((But.refl g6 w6).set 1 (.slice A6 (acc ++ [s]).length c6')) hge6 (fun e => HNE.out e.symm))
          have HK07 := Lib.hid (blk_far hK06 (p := ⟨g6, 1, none⟩) (by have := HLT.out; simp only []; omega) (.slice A6 (acc ++ [s]).length c6'))
          have HK67 := Lib.hid (blk_put hK66 1 (.slice A6 (acc ++ [s]).length c6') (cs' := #[.string v0, .slice A6 (acc ++ [s]).length c6']) rfl)
          have hlen : (acc ++ [s]).length = acc.length + 1 := by simp
          have HLEN := Lib.hid hlen
          generalize acc ++ [s] = acc' at *
          clear hR6 hB6 hg6 n0 n6 ng hkg hRD6 hK06 hK66 HS4 HR4 HK04 HK64 HA4 c1 c6 f6 hlen
          go_wp2_with (fail)
          go_roundg r'.length
          case measure => omega
          case rel => exact ⟨i + 1, acc', r', _, by omega, Nat.le_refl _, by have := HLEN.out; omega, by go_num, Lib.hid hz2, by rw [show m - (i + 1) = n' by omega]; exact HF', HR7, HK07, HK67, HS7⟩
      · have hltz : ¬ (i : Int) < (m : Int) := by omega
        obtain rfl : i = m := by omega
        have hF := HF.out
        rw [Nat.sub_self] at hF
        have hf := ptxts_zero rest acc _ hF
        clear hF
        have hrg := HRG.out
        rw [hf] at hrg
        simp only at hrg
        have hcb := HCB.out acc rest hf
        obtain ⟨A8, c8, rfl, hl8, hC8⟩ := Kd.R_reads HS.out
        have c60 := blk_cell HK6.out 0
        have c61 := blk_cell HK6.out 1
        simp only [List.getElem?_toArray, List.getElem?_cons_zero, List.getElem?_cons_succ] at c60 c61
        clear hf HF HRG HCB
        go_wp2_with (fail)
        refine (over49 w wr _ _ _ _ HR.out).mono ?_
        rintro e w5 ⟨rfl, rfl⟩
        by_cases hq : rest.length = 0
        case neg =>
          rw [if_neg hq] at hrg
          have HRB := Lib.hid hrg
          rw [show overF rest false false = 12 by simp [overF, hq]]
          have HB3 := Lib.hid HR.out.bel
          clear hrg c60 c61
          have z0 := HK0.out
          have z1 := blk_put z0 0 (.string ⟨#[]⟩) (cs' := #[.string ⟨#[]⟩, .slice none 0 0]) rfl
          have Z2 := Lib.hid (blk_put z1 1 (.slice none 0 0) (cs' := #[.string ⟨#[]⟩, .slice none 0 0]) rfl)
          have ZB := Lib.hid ((HB3.out.setCell (p := ⟨w.heap.size, 0, none⟩) (Nat.le_refl _) (.string ⟨#[]⟩)).setCell (p := ⟨w.heap.size, 1, none⟩) (Nat.le_refl _) (.slice none 0 0))
          have f0 := blk_frozen z0 0
          have f1 := blk_frozen z1 1
          have y0 := blk_cell z0 0
          have y1 := blk_cell z1 1
          simp only [List.getElem?_toArray, List.getElem?_cons_zero, List.getElem?_cons_succ] at y0 y1
          clear z0 z1
          go_wp2_with (fail)
          simp only [Exit.noGoto, Exit.inBlock, Exit.then]
          refine bodyPost_ret (results_list (rs := [.cell 2 24, .tmp 3]) rfl (by simp) (.cell _ _ _ _ _ rfl Z2.out Tryd.underlying24 rfl rfl (.tmp .nil))) rfl ?_
          unfold RdCom
          rw [HRB.out]
          exact ⟨.slice none 0 0, rfl, RS.of_STR (Kd.R_nil Kd.string 9 _ 0 _), ZB.out⟩
        case pos =>
          rw [if_pos hq] at hrg
          rw [show overF rest false false = 0 by simp [overF, hq]]
          have HRG := Lib.hid hrg
          have HW := Lib.hid (write11g v0 A8 c8 acc wr hC8 (by have := HSZ.out; omega) (HG.out.below HR.out.bel))
          have HC8 := Lib.hid hC8
          clear hrg hC8
          go_wp2_with (fail)
          refine HW.out.mono ?_
          rintro e w6 ⟨ub, rfl, _, hb6⟩
          have HK06 := Lib.hid (blk_below HK0.out hb6)
          have hk66 := blk_below HK6.out hb6
          have HC6 := Lib.hid (Kd.C_below HC8.out hb6)
          have HB6 := Lib.hid (HR.out.bel.trans (hb6.mono HR.out.bel.size))
          have HS6 := Lib.hid (Kd.R_below HS.out hb6)
          clear hb6 c60 c61 HK0 HK6 HS HR HC8 HW
          by_cases hwo : writeOk v0 acc = true
          case neg =>
            have HRB := Lib.hid (HRG.out.trans (if_neg hwo))
            rw [if_neg hwo]
            clear hk66
            have z0 := HK06.out
            have z1 := blk_put z0 0 (.string ⟨#[]⟩) (cs' := #[.string ⟨#[]⟩, .slice none 0 0]) rfl
            have Z2 := Lib.hid (blk_put z1 1 (.slice none 0 0) (cs' := #[.string ⟨#[]⟩, .slice none 0 0]) rfl)
            have ZB := Lib.hid ((HB6.out.setCell (p := ⟨w.heap.size, 0, none⟩) (Nat.le_refl _) (.string ⟨#[]⟩)).setCell (p := ⟨w.heap.size, 1, none⟩) (Nat.le_refl _) (.slice none 0 0))
            have f0 := blk_frozen z0 0
            have f1 := blk_frozen z1 1
            have y0 := blk_cell z0 0
            have y1 := blk_cell z1 1
            simp only [List.getElem?_toArray, List.getElem?_cons_zero, List.getElem?_cons_succ] at y0 y1
            clear z0 z1
            go_wp2_with (fail)
            simp only [Exit.noGoto, Exit.inBlock, Exit.then]
            refine bodyPost_ret (results_list (rs := [.cell 2 24, .tmp 3]) rfl (by simp) (.cell _ _ _ _ _ rfl Z2.out Tryd.underlying24 rfl rfl (.tmp .nil))) rfl ?_
            unfold RdCom
            rw [HRB.out]
            exact ⟨.slice none 0 0, rfl, RS.of_STR (Kd.R_nil Kd.string 9 _ 0 _), ZB.out⟩
          case pos =>
            have HRB := Lib.hid (HRG.out.trans (if_pos hwo))
            rw [if_pos hwo]
            have d0 := blk_cell hk66 0
            have d1 := blk_cell hk66 1
            have z0 := HK06.out
            have z1 := blk_put z0 0 (.string v0) (cs' := #[.string v0, .slice none 0 0]) rfl
            have Z2 := Lib.hid (blk_put z1 1 (.slice A8 acc.length c8) (cs' := #[.string v0, .slice A8 acc.length c8]) rfl)
            have ZB := Lib.hid ((HB6.out.setCell (p := ⟨w.heap.size, 0, none⟩) (Nat.le_refl _) (.string v0)).setCell (p := ⟨w.heap.size, 1, none⟩) (Nat.le_refl _) (.slice A8 acc.length c8))
            have ZS := Lib.hid (Kd.R_set (Kd.R_set HS6.out z0 (by decide) 0 (.string v0)) z1 (by decide) 1 (.slice A8 acc.length c8))
            have f0 := blk_frozen z0 0
            have f1 := blk_frozen z1 1
            have y0 := blk_cell z0 0
            have y1 := blk_cell z1 1
            simp only [List.getElem?_toArray, List.getElem?_cons_zero, List.getElem?_cons_succ] at y0 y1 d0 d1
            clear z0 z1 hk66
            go_wp2_with (fail)
            simp only [Exit.noGoto, Exit.inBlock, Exit.then]
            refine bodyPost_ret (results_list (rs := [.cell 2 24, .tmp 3]) rfl (by simp) (.cell _ _ _ _ _ rfl Z2.out Tryd.underlying24 rfl rfl (.tmp .nil))) rfl ?_
            unfold RdCom
            rw [HRB.out]
            exact ⟨.slice A8 acc.length c8, rfl, RS.of_STR ZS.out, ZB.out⟩
end Go.Proofs.YtbjdipbhclihfaaDoor
set_option linter.unusedVariables false
set_option linter.unusedSimpArgs false
namespace Go.Proofs.YtbjdipbhclihfaaDoor
open Go.RowKit Go.Proofs Go.Proofs.YtbjdipbhclihfaaDoorW.PrintWords Plain
set_option maxRecDepth 100000 in
/-- A cut of bytes, as a string. -/
theorem mid_str (A : Option Addr) (c : Nat) (bs : List Int) (w : World) (hr : (Kd.int .u8).C w A bs.length bs) (hc : bs.length ≤ c) (a k : Nat) (lo hi' : Int) (hlo : lo = a) (hhi : hi' = a + k) (h : a + k ≤ bs.length) :
    ∃ A', (∀ W : World, (Instr.slice 27 (.slice A bs.length c) (some (.int .i64 lo)) (some (.int .i64 hi')) none).run Tryd.prog W = .ok (.slice A' k (c - a)) W) ∧
      (∀ W : World, Below w.heap.size w W → (convert 27 9 (.slice A' k (c - a))).run Tryd.prog W = .ok (.string (strOfNums ((bs.drop a).take k))) W) := by
  subst hlo hhi
  obtain ⟨i0, hi, hzz⟩ := Option.map_eq_some_iff.1 infoB
  simp only [Prod.mk.injEq] at hzz
  obtain ⟨A', h1, h2, h3⟩ := print_mid_int (P := Tryd.prog) (k := .u8) 27 5 Tryd.underlying27 hi hzz.2.1 A c bs (a : Int) ((a : Int) + (k : Int)) (by omega) (by omega) (by omega) hc
  have e1 : ((bs.take ((a : Int) + (k : Int)).toNat).drop ((a : Int)).toNat) = (bs.drop a).take k := by
    rw [show ((a : Int) + (k : Int)).toNat = a + k by omega, show ((a : Int)).toNat = a by omega, List.drop_take]
    congr 1
    omega
  have e2 : ((bs.drop a).take k).length = k := by simp; omega
  rw [e1, e2] at h1 h2
  refine ⟨A', fun W => ?_, fun W hb => ?_⟩
  · have := h1 W
    rwa [show ((a : Int)).toNat = a by omega] at this
  · have := h2 W (Kd.reads_of_C (enc := Value.int .u8) (d := (0 : Int)) (h1 := fun _ => rfl) (Kd.C_below hr hb))
    exact string_of_reads Tryd.underlying27 Tryd.underlying5 Tryd.underlying9 this
def RefRd (w w' : World) (bs : List Int) (e : Ending) : Prop :=
  ∃ u, e = .returned (.tuple #[.string (readB bs).1, u, .int .i64 (readB bs).2.2]) ∧ RS w' u (readB bs).2.1 ∧ Below w.heap.size w w'
theorem RefRd.bad {w w' : World} {bs : List Int} {x : Int} (h : readB bs = (⟨#[]⟩, [], x)) (hb : Below w.heap.size w w') : RefRd w w' bs (.returned (.tuple #[.string ⟨#[]⟩, .slice none 0 0, .int .i64 x])) := by
  unfold RefRd
  rw [h]
  exact ⟨_, rfl, RS.of_STR (Kd.R_nil Kd.string 9 _ 0 _), hb⟩
set_option maxHeartbeats 400000 in
set_option maxRecDepth 100000 in
theorem ref20 (A : Option Addr) (c : Nat) (bs : List Int) (w : World) (hr : (Kd.int .u8).C w A bs.length bs) (hc : bs.length ≤ c) (hb : ByteL bs) (hsz : bs.length ≤ 16777215) :
    Calls Tryd.prog 20 #[.slice A bs.length c] w fun r W' => RefRd w W' bs r := by
  have HR := Lib.hid hr
  have HBy := Lib.hid hb
  have HL0 := Lib.hid (low50 A c bs 0 w hr hb (by omega))
  have HLO := Lib.hid (fun (a : Nat) (W : World) (hW : Below w.heap.size w W) (ha : a ≤ bs.length) => low50 A c bs a W (Kd.C_below hr hW) hb (by omega))
  have HMID := Lib.hid (mid_str A c bs w hr hc)
  clear hr hb hc
  by_cases h4 : bs.length < 4
  · have HRB := Lib.hid (readF bs (.inl (if_pos h4)))
    rw [show low50F bs 0 = -1 from if_pos (by omega)] at HL0
    clear HR HBy HLO HMID
    go_enter Tryd.func20, Tryd.ntmps20
    go_wp2_with (go_at_call 50; refine HL0.out.mono ?_; rintro e w' ⟨rfl, ⟨n, rfl⟩⟩)
    go_ret3
    exact RefRd.bad HRB.out (pw_below_drewN (Below.refl _ _) _)
  · have hn0 := le4_range HBy.out
    obtain ⟨n, hn⟩ : ∃ n : Nat, le4 bs = n := ⟨(le4 bs).toNat, by omega⟩
    rw [show low50F bs 0 = le4 bs from (if_neg (by omega)).trans (by simp)] at HL0
    by_cases hs : (bs.length : Int) < 4 + le4 bs
    · have HRB := Lib.hid (readF bs (.inl (by unfold ptxt; rw [if_neg h4, if_pos hs])))
      rw [hn] at HL0 hn0 hs
      have hs' : (4 : Int) + (n : Int) > (bs.length : Int) := by omega
      have hnn : ¬ (n : Int) < 0 := by omega
      clear HR HBy HLO HMID hn
      go_enter Tryd.func20, Tryd.ntmps20
      go_wp2_with (go_at_call 50; refine HL0.out.mono ?_; rintro e w' ⟨rfl, ⟨n, rfl⟩⟩)
      go_ret3
      exact RefRd.bad HRB.out (pw_below_drewN (Below.refl _ _) _)
    · have hp : ptxt bs = some (strOfNums ((bs.drop 4).take n), (bs.drop 4).drop n) := by unfold ptxt; rw [if_neg h4, if_neg hs, hn, Int.toNat_natCast]
      rw [hn] at HL0 hn0 hs
      have hs' : ¬ (4 : Int) + (n : Int) > (bs.length : Int) := by omega
      have hnn : ¬ (n : Int) < 0 := by omega
      obtain ⟨A1, hsl1, hcv1⟩ := HMID.out 4 n 4 (4 + n) rfl rfl (by omega)
      have HCV1 := Lib.hid hcv1
      generalize hv0 : strOfNums ((bs.drop 4).take n) = v0 at *
      clear hv0 hcv1
      rw [List.drop_drop] at hp
      have HP := Lib.hid hp
      have h0 := HLO.out (4 + n)
      clear hp hn
      have HSL := Lib.hid hsl1
      clear hsl1 h0
      go_enter Tryd.func20, Tryd.ntmps20
      go_wp2_with (fail)
      go_at_call 50
      refine HL0.out.mono ?_
      rintro e w1 ⟨rfl, ⟨q, rfl⟩⟩
      have HB1 := Lib.hid (pw_below_drewN (Below.refl w.heap.size w) q)
      generalize w.drewN q = w1 at *
      have hsl := HSL.out w1
      have hcv := HCV1.out w1 HB1.out
      clear HL0
      go_wp2_with (fail)
      rw [show (4 : Int) + (n : Int) = ((4 + n : Nat) : Int) by omega]
      have hat : 4 + n ≤ bs.length := by omega
      clear hsl hcv HSL HCV1 hs hs' hnn hn0 h4
      generalize 4 + n = at0 at *
      refine (HLO.out at0 w1 HB1.out hat).mono ?_
      rintro e w2 ⟨rfl, ⟨q2, rfl⟩⟩
      have HB2 := Lib.hid (pw_below_drewN HB1.out q2)
      generalize w1.drewN q2 = w2 at *
      clear HB1
      by_cases h5 : bs.length < at0 + 4
      · have HRB := Lib.hid (readF bs (.inr ⟨v0, bs.drop at0, HP.out, by rw [List.length_drop]; omega⟩))
        rw [show low50F bs at0 = -1 from if_pos h5]
        clear HR HBy HLO HMID HP h5
        go_wp2_with (fail)
        go_ret3
        exact RefRd.bad HRB.out HB2.out
      · have hby1 := HBy.out.drop at0
        have hm0 := le4_range hby1
        have hrg := readG bs v0 (bs.drop at0) HP.out (by rw [List.length_drop]; omega)
        rw [show low50F bs at0 = le4 (bs.drop at0) from if_neg h5]
        obtain ⟨m, hm⟩ : ∃ m : Nat, le4 (bs.drop at0) = m := ⟨(le4 (bs.drop at0)).toNat, by omega⟩
        have hcb : ∀ L q, ptxts m (bs.drop (at0 + 4)) = some (L, q) → (commentsBytes v0 L).length + q.length = bs.length := fun L q h => cb_of bs v0 (bs.drop at0) m L q HBy.out HP.out (by rw [List.length_drop]; omega) (by rw [List.drop_drop]; exact h)
        rw [hm] at hrg hm0 ⊢
        rw [Int.toNat_natCast, List.drop_drop] at hrg
        have HCB := Lib.hid hcb
        have HRG := Lib.hid hrg
        have hmm : ¬ (m : Int) < 0 := by omega
        have hat2 : at0 + 4 ≤ bs.length := by omega
        clear hcb hrg hby1 hm HP h5 hat
        go_wp2_with (fail)
        obtain ⟨F, hF⟩ : ∃ F, ptxts m (bs.drop (at0 + 4)) = F := ⟨_, rfl⟩
        have HF0 := Lib.hid hF
        rw [hF] at HRG HCB
        clear hF
        go_loopg [7, 9, 10] bs.length (fun gg s7 s9 s10 wr => ∃ (i : Nat) (acc : List ByteArray) (a : Nat), i ≤ m ∧ bs.length - a ≤ gg ∧ a ≤ bs.length ∧ acc.length ≤ a ∧ s7 = .int .i64 a ∧ s10 = .int .i64 i ∧ Hid (F = (ptxts (m - i) (bs.drop a)).map fun x => (acc ++ x.1, x.2)) ∧ Hid (STR wr w.heap.size s9 acc) ∧ Hid (Below w.heap.size w wr))
        case atStart => exact ⟨0, [], at0 + 4, Nat.zero_le _, by omega, hat2, Nat.zero_le _, by go_num, rfl, Lib.hid (by rw [← HF0.out]; simp), Lib.hid (Kd.R_nil _ _ _ _ _), HB2⟩
        case round =>
          clear HB2 HF0
          obtain ⟨i, acc, a, him, hgg, hal, hacc, rfl, rfl, HF, HS, HB⟩ := hrel
          by_cases hlt : i < m
          · have hltz : (i : Int) < (m : Int) := by omega
            obtain ⟨n', hn'⟩ : ∃ n', m - i = n' + 1 := ⟨m - i - 1, by omega⟩
            rw [hn'] at HF
            have hbya := HBy.out.drop a
            have hla : (bs.drop a).length = bs.length - a := by simp
            go_wp2_with (fail)
            refine (HLO.out a wr HB.out hal).mono ?_
            rintro e w3 ⟨rfl, ⟨q3, rfl⟩⟩
            have HB3 := Lib.hid (pw_below_drewN HB.out q3)
            have HS3 := Lib.hid (Kd.R_below HS.out (pw_below_drewN (Below.refl _ _) q3))
            generalize wr.drewN q3 = w3 at *
            clear HB HS
            by_cases h6 : bs.length < a + 4
            · have hf := ptxts_none n' _ acc _ HF.out (if_pos (by omega))
              have HRB := Lib.hid (show readB bs = (⟨#[]⟩, [], 11) by rw [HRG.out, hf])
              rw [show low50F bs a = -1 from if_pos h6]
              clear HR HBy HLO HMID HF HRG HCB HS3 hbya hla hf
              go_wp2_with (fail)
              go_ret3
              exact RefRd.bad HRB.out HB3.out
            · have hk0 := le4_range hbya
              rw [show low50F bs a = le4 (bs.drop a) from if_neg h6]
              by_cases h7 : ((bs.drop a).length : Int) < 4 + le4 (bs.drop a)
              · have hf := ptxts_none n' _ acc _ HF.out (by unfold ptxt; rw [if_neg (by omega), if_pos h7])
                have HRB := Lib.hid (show readB bs = (⟨#[]⟩, [], 11) by rw [HRG.out, hf])
                obtain ⟨k, hk⟩ : ∃ k : Nat, le4 (bs.drop a) = k := ⟨(le4 (bs.drop a)).toNat, by omega⟩
                rw [hk] at h7 hk0 ⊢
                have h8 : (a : Int) + 4 + (k : Int) > (bs.length : Int) := by omega
                have h9 : ¬ (k : Int) < 0 := by omega
                clear HR HBy HLO HMID HF HRG HCB HS3 hbya hf hk hla h7
                go_wp2_with (fail)
                go_ret3
                exact RefRd.bad HRB.out HB3.out
              · obtain ⟨k, hk⟩ : ∃ k : Nat, le4 (bs.drop a) = k := ⟨(le4 (bs.drop a)).toNat, by omega⟩
                have hp : ptxt (bs.drop a) = some (strOfNums ((bs.drop (a + 4)).take k), bs.drop (a + 4 + k)) := by
                  unfold ptxt
                  rw [if_neg (by omega), if_neg h7, hk, Int.toNat_natCast, List.drop_drop, List.drop_drop]
                have hf := ptxts_step n' _ acc _ HF.out _ _ hp
                rw [hk] at h7 hk0 ⊢
                have h8 : ¬ (a : Int) + 4 + (k : Int) > (bs.length : Int) := by omega
                have h9 : ¬ (k : Int) < 0 := by omega
                obtain ⟨A4, hsl4, hcv4⟩ := HMID.out (a + 4) k ((a : Int) + 4) ((a : Int) + 4 + (k : Int)) (by omega) (by omega) (by omega)
                have hsl := hsl4 w3
                have hcv := hcv4 w3 HB3.out
                generalize strOfNums ((bs.drop (a + 4)).take k) = s at *
                have HF' := Lib.hid hf
                have HA := Lib.hid (below_alloc (Below.refl w3.heap.size w3) (.cells #[.string s] 9))
                clear hf hp hk hsl4 hcv4 HF hbya h7 hla
                go_wp2_with (at_builtin; refine Kd.R_append_row Value.string ByteArray.empty (h1 := fun _ => rfl) (w0 := w) w.heap.size rfl (.tmp 58) (.tmp 68) 22 9 (.string ⟨#[]⟩) 16 rfl Tryd.underlying22 infoS rfl (by decide) _ acc [s] _ 1 1 (fun _ => True) rfl rfl (fun _ _ => trivial) (Kd.R_below HS3.out HA.out) (row1s w3 s) (HB3.out.trans (HA.out.mono HB3.out.size)) (Nat.le_trans HB3.out.size HA.out.size) (by omega) ?_)
                intro v6 w6 hR6 hB6 _ _
                have HS6 := Lib.hid hR6
                have HB6 := Lib.hid hB6
                clear hR6 hB6 HS3 HB3 HA hsl hcv
                go_wp2_with (fail)
                go_roundg (bs.length - (a + 4 + k))
                case measure => omega
                case rel => exact ⟨i + 1, acc ++ [s], a + 4 + k, by omega, Nat.le_refl _, by omega, by simp; omega, by go_num, by go_num, by rw [show m - (i + 1) = n' by omega]; exact HF', HS6, HB6⟩
          · have hltz : ¬ (i : Int) < (m : Int) := by omega
            obtain rfl : i = m := by omega
            have hF := HF.out
            rw [Nat.sub_self] at hF
            have hf := ptxts_zero _ acc _ hF
            have hrg := HRG.out
            have hcb := HCB.out acc _ hf
            rw [hf] at hrg
            simp only at hrg
            rw [List.length_drop] at hrg hcb
            clear hF hf HF HRG HCB
            by_cases hq : a < bs.length
            · have hqz : (a : Int) < (bs.length : Int) := by omega
              rw [if_neg (by omega)] at hrg
              have HRB := Lib.hid hrg
              clear hrg HR HBy HLO HMID HS
              go_wp2_with (fail)
              go_ret3
              exact RefRd.bad HRB.out HB.out
            · have hqz : ¬ (a : Int) < (bs.length : Int) := by omega
              rw [if_pos (by omega)] at hrg
              obtain ⟨A8, c8, rfl, hl8, hC8⟩ := Kd.R_reads HS.out
              have HW := Lib.hid (ref17 v0 A8 c8 acc wr hC8 hl8 (by omega))
              have HRG := Lib.hid hrg
              clear hrg hC8 HR HBy HLO HMID
              go_wp2_with (fail)
              refine HW.out.mono ?_
              rintro e w6 ⟨ub, rfl, _, hb6⟩
              have HB6 := Lib.hid (HB.out.trans (hb6.mono HB.out.size))
              have HS6 := Lib.hid (Kd.R_below HS.out hb6)
              clear hb6 HW HS HB
              by_cases hwo : writeOk v0 acc = true
              case neg =>
                have HRB := Lib.hid (HRG.out.trans (if_neg hwo))
                rw [if_neg hwo]
                go_wp2_with (fail)
                go_ret3
                exact RefRd.bad HRB.out HB6.out
              case pos =>
                have HRB := Lib.hid (HRG.out.trans (if_pos hwo))
                rw [if_pos hwo]
                go_wp2_with (fail)
                go_ret3
                unfold RefRd
                rw [HRB.out]
                exact ⟨_, rfl, RS.of_STR HS6.out, HB6.out⟩
end Go.Proofs.YtbjdipbhclihfaaDoor
