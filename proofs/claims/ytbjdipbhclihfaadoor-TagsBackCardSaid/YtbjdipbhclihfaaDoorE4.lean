import Derived.Test.YtbjdipbhclihfaaDoorE3
set_option linter.unusedVariables false
set_option linter.unusedSimpArgs false
namespace Go.Proofs.YtbjdipbhclihfaaDoor
open Go.RowKit Go.Proofs Go.Proofs.YtbjdipbhclihfaaDoorW.PrintWords Plain
theorem within78 (x f t : Int) (a b : Nat) (w : World) (ha : w.cell? ⟨a, 0, none⟩ = some (.int .i64 f)) (hb : w.cell? ⟨b, 0, none⟩ = some (.int .i64 t)) :
    Calls Tryd.prog 78 #[.int .i64 x, .pointer (some ⟨a, 0, none⟩), .pointer (some ⟨b, 0, none⟩)] w fun e w' => e = .returned (.bool (outside f t x)) ∧ Below w.heap.size w w' := by
  by_cases h : x < f
  · have HF := Lib.hid (show outside f t x = true by simp [outside, h])
    go_enter Tryd.func78, Tryd.ntmps78
    go_wp2
    go_ret
    rw [HF.out]
    exact ⟨rfl, Below.refl _ _⟩
  · have HF := Lib.hid (show outside f t x = decide (t < x) by simp [outside, h])
    go_enter Tryd.func78, Tryd.ntmps78
    go_wp2
    go_ret
    rw [HF.out]
    exact ⟨rfl, Below.refl _ _⟩
theorem eg78 : ∀ args w, (callFunc 78 args).run Tryd.prog w = .ok (.enter 78 args) w := enters_of Tryd.func78 (by kernel_rfl) rfl
set_option maxRecDepth 100000 in
theorem within52 (A : Option Addr) (c : Nat) (xs : List Int) (f t : Int) (w : World) (hr : (Kd.int .i64).C w A xs.length xs) :
    Calls Tryd.prog 52 #[.int .i64 f, .int .i64 t, .slice A xs.length c] w fun e w' => e = .returned (.bool (!xs.any (outside f t))) ∧ Below w.heap.size w w' := by
  have hb := below_alloc (below_alloc (Below.refl w.heap.size w) (.cells #[.int .i64 f] 3)) (.cells #[.int .i64 t] 3)
  have HC := Lib.hid (Kd.C_below hr hb)
  have HB := Lib.hid hb
  have HP : Hid (PredG 78 #[.pointer (some ⟨w.heap.size, 0, none⟩), .pointer (some ⟨w.heap.size + 1, 0, none⟩)] (Value.int .i64) (fun _ => True) (outside f t) ((w.alloc (.cells #[.int .i64 f] 3)).alloc (.cells #[.int .i64 t] 3))) := by
    apply Lib.hid
    intro W x _ hb
    have h0 : W.cell? ⟨w.heap.size, 0, none⟩ = some (.int .i64 f) := by
      rw [hb.cell (by simp; omega)]
      simp
    have h1 : W.cell? ⟨w.heap.size + 1, 0, none⟩ = some (.int .i64 t) := by
      rw [hb.cell (by simp)]
      simp
    exact within78 x f t _ _ W h0 h1
  clear hr hb
  go_enter Tryd.func52, Tryd.ntmps52
  go_wp2_with (fail)
  refine (has77 _ _ xs 78 _ eg78 (fun _ => True) (outside f t) _ HC.out (fun _ _ => trivial) HP.out).mono ?_
  rintro e w' ⟨rfl, hb⟩
  go_wp2
  go_ret
  exact ⟨rfl, bt HB.out hb⟩
/-- A reader that has ended (none), or has these bytes left. -/
def RDo (w0 W : World) (g : Nat) (st : Option (List Int)) (bad : Bool) : Prop := RD w0 W g (st.getD []) st.isNone bad
def ByteO (st : Option (List Int)) : Prop := ∀ bs, st = some bs → ByteL bs
def fourV (st : Option (List Int)) : Int := st.elim 0 fun bs => if bs.length < 4 then 0 else be4 bs
def fourS (st : Option (List Int)) : Option (List Int) := st.bind fun bs => if bs.length < 4 then none else some (bs.drop 4)
def textV (st : Option (List Int)) : List Int := st.elim [] fun bs => (ptxtB bs).elim [] fun x => x.1
def textS (st : Option (List Int)) : Option (List Int) := st.bind fun bs => (ptxtB bs).map fun x => x.2
theorem ByteO.four {st : Option (List Int)} (h : ByteO st) : ByteO (fourS st) := by
  intro bs hb
  cases st with
  | none => cases hb
  | some b =>
    simp only [fourS, Option.bind_some] at hb
    split at hb
    · cases hb
    · cases hb
      exact (h b rfl).drop 4
theorem ByteO.text {st : Option (List Int)} (h : ByteO st) : ByteO (textS st) := by
  intro bs hb
  cases st with
  | none => cases hb
  | some b =>
    simp only [textS, Option.bind_some, ptxtB] at hb
    split at hb
    · cases hb
    · split at hb
      · cases hb
      · simp only [Option.map_some, Option.some.injEq] at hb
        subst hb
        exact ((h b rfl).drop 4).drop _
theorem fourO (w0 W : World) (g : Nat) (st : Option (List Int)) (bad : Bool) (h : RDo w0 W g st bad) (hb : ByteO st) :
    Calls Tryd.prog 55 #[.pointer (some ⟨g, 0, none⟩)] W fun r W' => r = .returned (.int .i64 (fourV st)) ∧ RDo w0 W' g (fourS st) bad ∧ But g W W' := by
  cases st with
  | none => exact four55_no w0 W g [] true bad h (by decide)
  | some bs =>
    by_cases h4 : bs.length < 4
    · have e1 : fourV (some bs) = 0 := if_pos h4
      have e2 : fourS (some bs) = none := if_pos h4
      rw [e1, e2]
      exact four55_no w0 W g bs false bad h h4
    · have e1 : fourV (some bs) = be4 bs := if_neg h4
      have e2 : fourS (some bs) = some (bs.drop 4) := if_neg h4
      rw [e1, e2]
      exact four55_yes w0 W g bs false bad h (by omega) (hb bs rfl)
set_option maxRecDepth 100000 in
theorem textB48_end (w0 W : World) (g : Nat) (bad : Bool) (h : RD w0 W g [] true bad) :
    Calls Tryd.prog 48 #[.pointer (some ⟨g, 0, none⟩), .func (.func 55) #[.pointer (some ⟨g, 0, none⟩)] #[]] W fun r W' => r = .returned (.string ⟨#[]⟩) ∧ RD w0 W' g [] true bad ∧ But g W W' := by
  have HT := Lib.hid (four55_no w0 W g [] true bad h (by decide))
  clear h
  go_enter Tryd.func48, Tryd.ntmps48
  go_wp2_with (fail)
  refine HT.out.mono ?_
  rintro r W1 ⟨rfl, hR, hB⟩
  have c1 := hR.end_
  have HR := Lib.hid hR
  have HB := Lib.hid hB
  clear hR hB
  go_wp2_with (fail)
  go_ret
  exact ⟨rfl, HR.out, HB.out⟩
theorem textO (w0 W : World) (g : Nat) (st : Option (List Int)) (bad : Bool) (h : RDo w0 W g st bad) (hb : ByteO st) :
    Calls Tryd.prog 48 #[.pointer (some ⟨g, 0, none⟩), .func (.func 55) #[.pointer (some ⟨g, 0, none⟩)] #[]] W fun r W' => r = .returned (.string (strOfNums (textV st))) ∧ RDo w0 W' g (textS st) bad ∧ But g W W' := by
  cases st with
  | none => exact textB48_end w0 W g bad h
  | some bs =>
    have hh := textB48 w0 W g bs bad h (hb bs rfl)
    unfold txtVB txtRB at hh
    cases hp : ptxtB bs with
    | none =>
      have e1 : textV (some bs) = [] := by simp [textV, hp]
      have e2 : textS (some bs) = none := by simp [textS, hp]
      rw [e1, e2]
      rw [hp] at hh
      exact hh
    | some x =>
      have e1 : textV (some bs) = x.1 := by simp [textV, hp]
      have e2 : textS (some bs) = some x.2 := by simp [textS, hp]
      rw [e1, e2]
      rw [hp] at hh
      exact hh
end Go.Proofs.YtbjdipbhclihfaaDoor
