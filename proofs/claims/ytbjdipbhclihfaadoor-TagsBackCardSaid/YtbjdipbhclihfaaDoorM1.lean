import Derived.Test.YtbjdipbhclihfaaDoorProg
import Derived.Test.YtbjdipbhclihfaaDoorWWords
import Derived.WalkKit
import Derived.WalkLawsBesides
import Derived.WalkSpells
import Derived.Deep.QuietTactic
import Derived.BigQuiet
import Derived.Deep.LoopGhost
import Derived.Outline
import Derived.Lib.Hide
import Derived.Shelf.Abstract
import Derived.Test.YtbjdipbhclihfaaDoorShelf
import Derived.Test.YtbjdipbhclihfaaDoorWZeros
import Derived.Deep.RegionHeld3
import Derived.Test.YtbjdipbhclihfaaDoorWInvWords
import Derived.Test.YtbjdipbhclihfaaDoorWLast
import Derived.Test.YtbjdipbhclihfaaDoorWTab
/- Words of this seat: what a predicate that is handed over has to do; the first place at which one holds; slices of strings, bytes, numbers that are read. -/
set_option linter.unusedVariables false
namespace Go.Proofs.YtbjdipbhclihfaaDoor
open Go.RowKit Go.Proofs Go.Proofs.YtbjdipbhclihfaaDoorW.PrintWords

def PredG {α : Type} (g : Nat) (cap : Array Value) (enc : α → Value) (D : α → Prop) (p : α → Bool) (w : World) : Prop :=
  ∀ (W : World) (x : α), D x → Below w.heap.size w W → Calls Tryd.prog g (#[enc x] ++ cap) W fun e w' => e = .returned (.bool (p x)) ∧ Below W.heap.size W w'

theorem PredG.later {α : Type} {g : Nat} {cap : Array Value} {enc : α → Value} {D : α → Prop} {p : α → Bool} {w W : World} (h : PredG g cap enc D p w) (hb : Below w.heap.size w W) : PredG g cap enc D p W :=
  fun W' x hD hb' => h W' x hD (hb.trans (hb'.mono hb.size))

def firstIdx {α : Type} (p : α → Bool) (xs : List α) : Int := match xs.findIdx? p with | some i => (i : Int) | none => -1

theorem firstIdx_miss {α : Type} (p : α → Bool) (xs : List α) (h : ∀ (j : Nat) (x : α), xs[j]? = some x → p x = false) : firstIdx p xs = -1 := by
  unfold firstIdx
  have : xs.findIdx? p = none := by
    rw [List.findIdx?_eq_none_iff]
    intro x hx
    obtain ⟨j, hj⟩ := List.getElem?_of_mem hx
    exact h j x hj
  rw [this]

theorem firstIdx_hit {α : Type} (p : α → Bool) (xs : List α) (k : Nat) (x : α) (hk : xs[k]? = some x) (hp : p x = true) (h : ∀ (j : Nat) (y : α), j < k → xs[j]? = some y → p y = false) : firstIdx p xs = k := by
  unfold firstIdx
  obtain ⟨hl, hx⟩ := List.getElem?_eq_some_iff.1 hk
  have : xs.findIdx? p = some k := by
    rw [List.findIdx?_eq_some_iff_getElem]
    refine ⟨hl, by rw [hx]; exact hp, fun j hj => ?_⟩
    have := h j xs[j] hj (List.getElem?_eq_getElem (by omega))
    simp [this]
  rw [this]

theorem firstIdx_any {α : Type} (p : α → Bool) (xs : List α) : decide (0 ≤ firstIdx p xs) = xs.any p := by
  unfold firstIdx
  cases h : xs.findIdx? p with
  | none =>
    rw [List.findIdx?_eq_none_iff] at h
    symm
    simp only [decide_eq_false (show ¬ (0 : Int) ≤ -1 by omega)]
    rw [List.any_eq_false]
    intro x hx
    simp [h x hx]
  | some i =>
    rw [List.findIdx?_eq_some_iff_getElem] at h
    obtain ⟨hl, hp, _⟩ := h
    symm
    simp only [decide_eq_true (show (0 : Int) ≤ (i : Int) by omega)]
    rw [List.any_eq_true]
    exact ⟨_, List.getElem_mem hl, hp⟩

theorem bt {w W W1 : World} (h : Below w.heap.size w W) (k : Below W.heap.size W W1) : Below w.heap.size w W1 := h.trans (k.mono h.size)

/-- Element k of a slice of strings. -/
theorem str_at {w : World} {A : Option Addr} {xs : List ByteArray} (h : Kd.string.C w A xs.length xs) (k : Nat) (hk : k < xs.length) : ∃ ad, A = some ad ∧ w.cell? (ad.add k) = some (.string xs[k]) := by
  obtain ⟨ad, e, hc⟩ := Kd.at_string h (k : Int) (by omega) (by omega)
  refine ⟨ad, e, ?_⟩
  simpa [rdOf, List.getD_eq_getElem?_getD, List.getElem?_eq_getElem hk] using hc

/-- Element k of a slice of numbers. -/
theorem int_at {w : World} {A : Option Addr} {kd : IntKind} {xs : List Int} (h : (Kd.int kd).C w A xs.length xs) (k : Nat) (hk : k < xs.length) : ∃ ad, A = some ad ∧ w.cell? (ad.add k) = some (.int kd xs[k]) := by
  obtain ⟨ad, e, hc⟩ := Kd.at_int h (k : Int) (by omega) (by omega)
  refine ⟨ad, e, ?_⟩
  simpa [rd, List.getD_eq_getElem?_getD, List.getElem?_eq_getElem hk] using hc

theorem C_len {α : Type} {d : Kd α} {w : World} {A : Option Addr} {n : Nat} {xs : List α} (h : d.C w A n xs) : n ≤ 9223372036854775807 := h.2.1
end Go.Proofs.YtbjdipbhclihfaaDoor
set_option linter.unusedVariables false
namespace Go.Proofs.YtbjdipbhclihfaaDoor
open Go.RowKit Go.Proofs Go.Proofs.YtbjdipbhclihfaaDoorW.PrintWords

theorem idx68 (A : Option Addr) (c : Nat) (xs : List ByteArray) (g : Nat) (cap : Array Value) (eg : ∀ args w, (callFunc g args).run Tryd.prog w = .ok (.enter g args) w) (D : ByteArray → Prop) (p : ByteArray → Bool) (w : World)
    (hr : Kd.string.C w A xs.length xs) (hD : ∀ x ∈ xs, D x) (hp : PredG g cap Value.string D p w) :
    Calls Tryd.prog 68 #[.slice A xs.length c, .func (.func g) #[] cap] w fun e w' => e = .returned (.int .i64 (firstIdx p xs)) ∧ Below w.heap.size w w' := by
  have hm := C_len hr
  have HR := Lib.hid hr
  have HP := Lib.hid hp
  have HD := Lib.hid hD
  clear hr hp hD
  go_enter Tryd.func68, Tryd.ntmps68
  go_wp2
  go_loopg [5, 8] xs.length (fun gg _ s8 wr => ∃ kk : Nat, kk ≤ xs.length ∧ xs.length - kk ≤ gg ∧ s8 = .int .i64 kk ∧ Below w.heap.size w wr ∧ Hid (∀ (j : Nat) (y : ByteArray), j < kk → xs[j]? = some y → p y = false))
  case atStart => exact ⟨0, Nat.zero_le _, by omega, rfl, Below.refl _ _, Lib.hid (fun j y hj => absurd hj (Nat.not_lt_zero _))⟩
  case round =>
    obtain ⟨kk, hkk, hg, rfl, hb, HA⟩ := hrel
    by_cases hlt : kk < xs.length
    · have hltz : (kk : Int) < (xs.length : Int) := by omega
      obtain ⟨ad, rfl, hcell⟩ := str_at HR.out kk hlt
      replace hcell := pw_cell_below hb hcell
      have hxs : xs[kk]? = some xs[kk] := List.getElem?_eq_getElem hlt
      have hDy := HD.out _ (List.getElem_mem hlt)
      generalize xs[kk] = y at hcell hxs hDy
      have HX := Lib.hid hxs
      clear hxs
      have HB := Lib.hid hb
      clear hb
      have hcall := HP.out wr y hDy HB.out
      clear hDy
      cases hq : p y with
      | true =>
        rw [hq] at hcall
        go_wp2_with (go_at_fn g; refine (hcall).mono ?_; rintro e w' ⟨rfl, hb1⟩)
        go_ret
        refine ⟨?_, HB.out.trans (hb1.mono HB.out.size)⟩
        rw [firstIdx_hit p xs kk y HX.out hq HA.out]
        rfl
      | false =>
        rw [hq] at hcall
        go_wp2_with (go_at_fn g; refine (hcall).mono ?_; rintro e w' ⟨rfl, hb1⟩)
        go_roundg (xs.length - (kk + 1))
        case measure => omega
        case rel =>
          refine ⟨kk + 1, by omega, by omega, by go_num, HB.out.trans (hb1.mono HB.out.size), Lib.hid (fun j z hj hz => ?_)⟩
          by_cases e : j = kk
          · subst e
            have := HX.out
            rw [hz] at this
            injection this with this
            rw [this]; exact hq
          · exact HA.out j z (by omega) hz
    · have hltz : ¬ (kk : Int) < (xs.length : Int) := by omega
      have HB := Lib.hid hb
      clear hb
      go_wp2
      go_ret
      refine ⟨?_, HB.out⟩
      rw [firstIdx_miss p xs (fun j x hj => HA.out j x (by have := (List.getElem?_eq_some_iff.1 hj).1; omega) hj)]
      rfl

theorem has35 (A : Option Addr) (c : Nat) (xs : List ByteArray) (g : Nat) (cap : Array Value) (eg : ∀ args w, (callFunc g args).run Tryd.prog w = .ok (.enter g args) w) (D : ByteArray → Prop) (p : ByteArray → Bool) (w : World)
    (hr : Kd.string.C w A xs.length xs) (hD : ∀ x ∈ xs, D x) (hp : PredG g cap Value.string D p w) :
    Calls Tryd.prog 35 #[.slice A xs.length c, .func (.func g) #[] cap] w fun e w' => e = .returned (.bool (xs.any p)) ∧ Below w.heap.size w w' := by
  rw [← firstIdx_any]
  have HH := idx68 A c xs g cap eg D p w hr hD hp
  clear hr hp hD
  go_enter Tryd.func35, Tryd.ntmps35
  go_wp2_with (go_at_call 68; refine HH.mono ?_; rintro e w' ⟨rfl, hb⟩)
  go_ret
  exact ⟨rfl, hb⟩
end Go.Proofs.YtbjdipbhclihfaaDoor
set_option linter.unusedVariables false
namespace Go.Proofs.YtbjdipbhclihfaaDoor
open Go.RowKit Go.Proofs Go.Proofs.YtbjdipbhclihfaaDoorW.PrintWords

theorem idx93 (A : Option Addr) (c : Nat) (xs : List Int) (g : Nat) (cap : Array Value) (eg : ∀ args w, (callFunc g args).run Tryd.prog w = .ok (.enter g args) w) (D : Int → Prop) (p : Int → Bool) (w : World)
    (hr : (Kd.int .u8).C w A xs.length xs) (hD : ∀ x ∈ xs, D x) (hp : PredG g cap (Value.int .u8) D p w) :
    Calls Tryd.prog 93 #[.slice A xs.length c, .func (.func g) #[] cap] w fun e w' => e = .returned (.int .i64 (firstIdx p xs)) ∧ Below w.heap.size w w' := by
  have hm := C_len hr
  have HR := Lib.hid hr
  have HP := Lib.hid hp
  have HD := Lib.hid hD
  clear hr hp hD
  go_enter Tryd.func93, Tryd.ntmps93
  go_wp2
  go_loopg [5, 8] xs.length (fun gg _ s8 wr => ∃ kk : Nat, kk ≤ xs.length ∧ xs.length - kk ≤ gg ∧ s8 = .int .i64 kk ∧ Below w.heap.size w wr ∧ Hid (∀ (j : Nat) (y : Int), j < kk → xs[j]? = some y → p y = false))
  case atStart => exact ⟨0, Nat.zero_le _, by omega, rfl, Below.refl _ _, Lib.hid (fun j y hj => absurd hj (Nat.not_lt_zero _))⟩
  case round =>
    obtain ⟨kk, hkk, hg, rfl, hb, HA⟩ := hrel
    by_cases hlt : kk < xs.length
    · have hltz : (kk : Int) < (xs.length : Int) := by omega
      obtain ⟨ad, rfl, hcell⟩ := int_at HR.out kk hlt
      replace hcell := pw_cell_below hb hcell
      have hxs : xs[kk]? = some xs[kk] := List.getElem?_eq_getElem hlt
      have hDy := HD.out _ (List.getElem_mem hlt)
      generalize xs[kk] = y at hcell hxs hDy
      have HX := Lib.hid hxs
      clear hxs
      have HB := Lib.hid hb
      clear hb
      have hcall := HP.out wr y hDy HB.out
      clear hDy
      cases hq : p y with
      | true =>
        rw [hq] at hcall
        go_wp2_with (go_at_fn g; refine (hcall).mono ?_; rintro e w' ⟨rfl, hb1⟩)
        go_ret
        refine ⟨?_, HB.out.trans (hb1.mono HB.out.size)⟩
        rw [firstIdx_hit p xs kk y HX.out hq HA.out]
        rfl
      | false =>
        rw [hq] at hcall
        go_wp2_with (go_at_fn g; refine (hcall).mono ?_; rintro e w' ⟨rfl, hb1⟩)
        go_roundg (xs.length - (kk + 1))
        case measure => omega
        case rel =>
          refine ⟨kk + 1, by omega, by omega, by go_num, HB.out.trans (hb1.mono HB.out.size), Lib.hid (fun j z hj hz => ?_)⟩
          by_cases e : j = kk
          · subst e
            have := HX.out
            rw [hz] at this
            injection this with this
            rw [this]; exact hq
          · exact HA.out j z (by omega) hz
    · have hltz : ¬ (kk : Int) < (xs.length : Int) := by omega
      have HB := Lib.hid hb
      clear hb
      go_wp2
      go_ret
      refine ⟨?_, HB.out⟩
      rw [firstIdx_miss p xs (fun j x hj => HA.out j x (by have := (List.getElem?_eq_some_iff.1 hj).1; omega) hj)]
      rfl

theorem has75 (A : Option Addr) (c : Nat) (xs : List Int) (g : Nat) (cap : Array Value) (eg : ∀ args w, (callFunc g args).run Tryd.prog w = .ok (.enter g args) w) (D : Int → Prop) (p : Int → Bool) (w : World)
    (hr : (Kd.int .u8).C w A xs.length xs) (hD : ∀ x ∈ xs, D x) (hp : PredG g cap (Value.int .u8) D p w) :
    Calls Tryd.prog 75 #[.slice A xs.length c, .func (.func g) #[] cap] w fun e w' => e = .returned (.bool (xs.any p)) ∧ Below w.heap.size w w' := by
  rw [← firstIdx_any]
  have HH := idx93 A c xs g cap eg D p w hr hD hp
  clear hr hp hD
  go_enter Tryd.func75, Tryd.ntmps75
  go_wp2_with (go_at_call 93; refine HH.mono ?_; rintro e w' ⟨rfl, hb⟩)
  go_ret
  exact ⟨rfl, hb⟩

theorem idx94 (A : Option Addr) (c : Nat) (xs : List Int) (g : Nat) (cap : Array Value) (eg : ∀ args w, (callFunc g args).run Tryd.prog w = .ok (.enter g args) w) (D : Int → Prop) (p : Int → Bool) (w : World)
    (hr : (Kd.int .i64).C w A xs.length xs) (hD : ∀ x ∈ xs, D x) (hp : PredG g cap (Value.int .i64) D p w) :
    Calls Tryd.prog 94 #[.slice A xs.length c, .func (.func g) #[] cap] w fun e w' => e = .returned (.int .i64 (firstIdx p xs)) ∧ Below w.heap.size w w' := by
  have hm := C_len hr
  have HR := Lib.hid hr
  have HP := Lib.hid hp
  have HD := Lib.hid hD
  clear hr hp hD
  go_enter Tryd.func94, Tryd.ntmps94
  go_wp2
  go_loopg [5, 8] xs.length (fun gg _ s8 wr => ∃ kk : Nat, kk ≤ xs.length ∧ xs.length - kk ≤ gg ∧ s8 = .int .i64 kk ∧ Below w.heap.size w wr ∧ Hid (∀ (j : Nat) (y : Int), j < kk → xs[j]? = some y → p y = false))
  case atStart => exact ⟨0, Nat.zero_le _, by omega, rfl, Below.refl _ _, Lib.hid (fun j y hj => absurd hj (Nat.not_lt_zero _))⟩
  case round =>
    obtain ⟨kk, hkk, hg, rfl, hb, HA⟩ := hrel
    by_cases hlt : kk < xs.length
    · have hltz : (kk : Int) < (xs.length : Int) := by omega
      obtain ⟨ad, rfl, hcell⟩ := int_at HR.out kk hlt
      replace hcell := pw_cell_below hb hcell
      have hxs : xs[kk]? = some xs[kk] := List.getElem?_eq_getElem hlt
      have hDy := HD.out _ (List.getElem_mem hlt)
      generalize xs[kk] = y at hcell hxs hDy
      have HX := Lib.hid hxs
      clear hxs
      have HB := Lib.hid hb
      clear hb
      have hcall := HP.out wr y hDy HB.out
      clear hDy
      cases hq : p y with
      | true =>
        rw [hq] at hcall
        go_wp2_with (go_at_fn g; refine (hcall).mono ?_; rintro e w' ⟨rfl, hb1⟩)
        go_ret
        refine ⟨?_, HB.out.trans (hb1.mono HB.out.size)⟩
        rw [firstIdx_hit p xs kk y HX.out hq HA.out]
        rfl
      | false =>
        rw [hq] at hcall
        go_wp2_with (go_at_fn g; refine (hcall).mono ?_; rintro e w' ⟨rfl, hb1⟩)
        go_roundg (xs.length - (kk + 1))
        case measure => omega
        case rel =>
          refine ⟨kk + 1, by omega, by omega, by go_num, HB.out.trans (hb1.mono HB.out.size), Lib.hid (fun j z hj hz => ?_)⟩
          by_cases e : j = kk
          · subst e
            have := HX.out
            rw [hz] at this
            injection this with this
            rw [this]; exact hq
          · exact HA.out j z (by omega) hz
    · have hltz : ¬ (kk : Int) < (xs.length : Int) := by omega
      have HB := Lib.hid hb
      clear hb
      go_wp2
      go_ret
      refine ⟨?_, HB.out⟩
      rw [firstIdx_miss p xs (fun j x hj => HA.out j x (by have := (List.getElem?_eq_some_iff.1 hj).1; omega) hj)]
      rfl

theorem has77 (A : Option Addr) (c : Nat) (xs : List Int) (g : Nat) (cap : Array Value) (eg : ∀ args w, (callFunc g args).run Tryd.prog w = .ok (.enter g args) w) (D : Int → Prop) (p : Int → Bool) (w : World)
    (hr : (Kd.int .i64).C w A xs.length xs) (hD : ∀ x ∈ xs, D x) (hp : PredG g cap (Value.int .i64) D p w) :
    Calls Tryd.prog 77 #[.slice A xs.length c, .func (.func g) #[] cap] w fun e w' => e = .returned (.bool (xs.any p)) ∧ Below w.heap.size w w' := by
  rw [← firstIdx_any]
  have HH := idx94 A c xs g cap eg D p w hr hD hp
  clear hr hp hD
  go_enter Tryd.func77, Tryd.ntmps77
  go_wp2_with (go_at_call 94; refine HH.mono ?_; rintro e w' ⟨rfl, hb⟩)
  go_ret
  exact ⟨rfl, hb⟩

end Go.Proofs.YtbjdipbhclihfaaDoor
set_option linter.unusedVariables false
namespace Go.Proofs.YtbjdipbhclihfaaDoor
open Go.RowKit Go.Proofs Go.Proofs.YtbjdipbhclihfaaDoorW.PrintWords
def outside (f t x : Int) : Bool := decide (x < f) || decide (t < x)
theorem letters76 (x f t : Int) (a b : Nat) (w : World) (ha : w.cell? ⟨a, 0, none⟩ = some (.int .u8 f)) (hb : w.cell? ⟨b, 0, none⟩ = some (.int .u8 t)) :
    Calls Tryd.prog 76 #[.int .u8 x, .pointer (some ⟨a, 0, none⟩), .pointer (some ⟨b, 0, none⟩)] w fun e w' => e = .returned (.bool (outside f t x)) ∧ Below w.heap.size w w' := by
  by_cases h : x < f
  · have hf : outside f t x = true := by simp [outside, h]
    have HF := Lib.hid hf
    clear hf
    go_enter Tryd.func76, Tryd.ntmps76
    go_wp2
    go_ret
    rw [HF.out]
    exact ⟨rfl, Below.refl _ _⟩
  · have hf : outside f t x = decide (t < x) := by simp [outside, h]
    have HF := Lib.hid hf
    clear hf
    go_enter Tryd.func76, Tryd.ntmps76
    go_wp2
    go_ret
    rw [HF.out]
    exact ⟨rfl, Below.refl _ _⟩
theorem eg76 : ∀ args w, (callFunc 76 args).run Tryd.prog w = .ok (.enter 76 args) w := enters_of Tryd.func76 (by kernel_rfl) rfl
/-- What is known of '[]byte(s)', at any world. -/
theorem bytes_conv (s : ByteArray) (hs : s.size ≤ 9223372036854775807) (W : World) : ∃ A c w1, (convert 9 27 (.string s)).run Tryd.prog W = .ok (.slice A (bytesOf s).length c) w1 ∧ (Kd.int .u8).C w1 A (bytesOf s).length (bytesOf s) ∧ (bytesOf s).length ≤ c ∧ Below W.heap.size W w1 ∧ w1.heap.size = W.heap.size + 1 := by
  refine ⟨some ⟨W.heap.size, 0, none⟩, grownCap W s.size 0 5, Lib.bytesWorld W 5 s, ?_, ?_, ?_, bytes_below (Below.refl _ _) (Nat.le_refl _) 5 s, Lib.bytesWorld_size W 5 s⟩
  · rw [bytesOf_length]
    exact print_bytes 9 27 5 Tryd.underlying9 Tryd.underlying27 Tryd.underlying5 s W
  · rw [bytesOf_length]
    exact Kd.C_of_reads (d := (0 : Int)) (h1 := fun _ => rfl) (bytes_reads W 5 s hs)
  · rw [bytesOf_length]
    simp [grownCap, Question.cut]
set_option maxRecDepth 100000 in
theorem letters51 (s : ByteArray) (f t : Int) (w : World) (hs : s.size ≤ 9223372036854775807) :
    Calls Tryd.prog 51 #[.string s, .int .u8 f, .int .u8 t] w fun e w' => e = .returned (.bool (!(bytesOf s).any (outside f t))) ∧ Below w.heap.size w w' := by
  obtain ⟨A, c, w1, hcv, hC, _, hb1, hz1⟩ := bytes_conv s hs ((w.alloc (.cells #[.int .u8 f] 5)).alloc (.cells #[.int .u8 t] 5))
  have HC := Lib.hid hC
  have HB := Lib.hid hb1
  have HZ := Lib.hid hz1
  clear hs hC hb1 hz1
  go_enter Tryd.func51, Tryd.ntmps51
  have HP : Hid (PredG 76 #[.pointer (some ⟨w.heap.size, 0, none⟩), .pointer (some ⟨w.heap.size + 1, 0, none⟩)] (Value.int .u8) (fun _ => True) (outside f t) w1) := by
    apply Lib.hid
    intro W x _ hb
    have h0 : W.cell? ⟨w.heap.size, 0, none⟩ = some (.int .u8 f) := by
      rw [hb.cell (by rw [HZ.out]; simp; omega), HB.out.cell (by simp; omega)]
      simp
    have h1 : W.cell? ⟨w.heap.size + 1, 0, none⟩ = some (.int .u8 t) := by
      rw [hb.cell (by rw [HZ.out]; simp), HB.out.cell (by simp)]
      simp
    exact letters76 x f t _ _ W h0 h1
  go_wp2_with (fail)
  refine (has75 _ _ (bytesOf s) 76 _ eg76 (fun _ => True) (outside f t) _ HC.out (fun _ _ => trivial) HP.out).mono ?_
  rintro e w' ⟨rfl, hb⟩
  go_wp2
  go_ret
  refine ⟨rfl, ?_⟩
  exact bt (bt (below_alloc (below_alloc (Below.refl _ _) _) _) HB.out) hb
end Go.Proofs.YtbjdipbhclihfaaDoor
set_option linter.unusedVariables false
namespace Go.Proofs.YtbjdipbhclihfaaDoor
open Go.RowKit Go.Proofs Go.Proofs.YtbjdipbhclihfaaDoorW.PrintWords

/-- The library's two tables lie in w. -/
structure Glob (w : World) : Prop where mk :: (out : Lib.Utf8Tabs 0 1 w)
theorem Glob.below {w W : World} (h : Glob w) (hb : Below w.heap.size w W) : Glob W :=
  ⟨fun c hc => pw_cell_below hb (h.out.1 c hc), fun i hi => ⟨pw_cell_below hb (h.out.2 i hi).1, pw_cell_below hb (h.out.2 i hi).2⟩⟩

theorem cut71_no (s : ByteArray) (c : UInt8) (w : World) (h : Lib.indexByte s.data.toList c = -1) :
    Calls Tryd.prog 71 #[.string s, .string ⟨#[c]⟩] w fun e w' => e = .returned (.tuple #[.string s, .string ⟨#[]⟩, .bool false]) ∧ Drawn0 w w' := by
  have H := Tryd.stringslite_Index_one s c
  rw [h] at H
  go_enter Tryd.func71, Tryd.ntmps71
  go_wp2_with (go_at_call 84; refine (H _).mono ?_; rintro e w' ⟨rfl, rfl⟩)
  go_ret3
  exact ⟨rfl, ⟨0, rfl⟩⟩
theorem cut71_yes (s : ByteArray) (c : UInt8) (w : World) (i : Nat) (h : Lib.indexByte s.data.toList c = (i : Int)) (hi : i + 1 ≤ s.size) (hs : s.size ≤ 9223372036854775807) :
    Calls Tryd.prog 71 #[.string s, .string ⟨#[c]⟩] w fun e w' => e = .returned (.tuple #[.string (s.extract 0 i), .string (s.extract (i + 1) s.size), .bool true]) ∧ Drawn0 w w' := by
  have H := Tryd.stringslite_Index_one s c
  rw [h] at H
  have h1 : IntKind.i64.wrap ((i : Int) + 1) = (i : Int) + 1 := IntWalk.i64_in _ (by omega)
  go_enter Tryd.func71, Tryd.ntmps71
  go_wp2_with (go_at_call 84; refine (H _).mono ?_; rintro e w' ⟨rfl, rfl⟩)
  go_quiet (fail)
  go_wp2
  go_ret3
  exact ⟨rfl, ⟨_, rfl⟩⟩
theorem cut44_no (s : ByteArray) (c : UInt8) (w : World) (h : Lib.indexByte s.data.toList c = -1) :
    Calls Tryd.prog 44 #[.string s, .string ⟨#[c]⟩] w fun e w' => e = .returned (.tuple #[.string s, .string ⟨#[]⟩, .bool false]) ∧ Drawn0 w w' := by
  go_enter Tryd.func44, Tryd.ntmps44
  go_wp2_with (go_at_call 71; refine (cut71_no s c _ h).mono ?_; rintro e w' ⟨rfl, n, rfl⟩)
  go_ret3
  exact ⟨rfl, ⟨_, rfl⟩⟩
theorem cut44_yes (s : ByteArray) (c : UInt8) (w : World) (i : Nat) (h : Lib.indexByte s.data.toList c = (i : Int)) (hi : i + 1 ≤ s.size) (hs : s.size ≤ 9223372036854775807) :
    Calls Tryd.prog 44 #[.string s, .string ⟨#[c]⟩] w fun e w' => e = .returned (.tuple #[.string (s.extract 0 i), .string (s.extract (i + 1) s.size), .bool true]) ∧ Drawn0 w w' := by
  go_enter Tryd.func44, Tryd.ntmps44
  go_wp2_with (go_at_call 71; refine (cut71_yes s c _ i h hi hs).mono ?_; rintro e w' ⟨rfl, n, rfl⟩)
  go_ret3
  exact ⟨rfl, ⟨_, rfl⟩⟩
/-- 'strings.Cut(s, sep)' at a separator of one byte: what is ahead, what is behind, whether. -/
def cutB (s : ByteArray) (c : UInt8) : ByteArray × ByteArray × Bool :=
  if Lib.indexByte s.data.toList c = -1 then (s, ⟨#[]⟩, false) else (s.extract 0 (Lib.indexByte s.data.toList c).toNat, s.extract ((Lib.indexByte s.data.toList c).toNat + 1) s.size, true)
theorem indexByte_lt (l : List UInt8) (c : UInt8) : Lib.indexByte l c < l.length := by
  induction l with
  | nil => simp [Lib.indexByte]
  | cons b l ih =>
    unfold Lib.indexByte
    split
    · simp
    · split
      · simp; omega
      · simp; omega
theorem cut44 (s : ByteArray) (c : UInt8) (w : World) (hs : s.size ≤ 9223372036854775807) :
    Calls Tryd.prog 44 #[.string s, .string ⟨#[c]⟩] w fun e w' => e = .returned (.tuple #[.string (cutB s c).1, .string (cutB s c).2.1, .bool (cutB s c).2.2]) ∧ Drawn0 w w' := by
  by_cases h : Lib.indexByte s.data.toList c = -1
  · have hc : cutB s c = (s, ⟨#[]⟩, false) := by simp [cutB, h]
    rw [hc]
    exact cut44_no s c w h
  · have hg := Lib.indexByte_ge s.data.toList c
    have hl := indexByte_lt s.data.toList c
    rw [data_length] at hl
    have hc : cutB s c = (s.extract 0 (Lib.indexByte s.data.toList c).toNat, s.extract ((Lib.indexByte s.data.toList c).toNat + 1) s.size, true) := by simp [cutB, h]
    rw [hc]
    exact cut44_yes s c w _ (by omega) (by omega) hs
end Go.Proofs.YtbjdipbhclihfaaDoor
set_option linter.unusedVariables false
namespace Go.Proofs.YtbjdipbhclihfaaDoor
open Go.RowKit Go.Proofs Go.Proofs.YtbjdipbhclihfaaDoorW.PrintWords
/-- Is a text a comment? -/
def commentB (s : ByteArray) : Bool :=
  (cutB s 61).2.2 && !(cutB s 61).1.toList.isEmpty && !(bytesOf (cutB s 61).1).any (outside 32 125) && Lib.validD s.data.toList
theorem extract_le (s : ByteArray) (a b : Nat) : (s.extract a b).size ≤ s.size := by simp; omega
theorem cutB_le (s : ByteArray) (c : UInt8) : (cutB s c).1.size ≤ s.size := by
  unfold cutB
  split
  · exact Nat.le_refl _
  · exact extract_le _ _ _
theorem comment37 (s : ByteArray) (w : World) (hs : s.size ≤ 9223372036854775807) (hG : Glob w) :
    Calls Tryd.prog 37 #[.string s] w fun e w' => e = .returned (.bool (commentB s)) ∧ Below w.heap.size w w' := by
  have hl := cutB_le s 61
  have HS := Lib.hid hs
  have HL := Lib.hid hl
  clear hs hl
  cases hc : cutB s 61 with | mk a p =>
  obtain ⟨b, is⟩ := p
  have HC := Lib.hid hc
  clear hc
  have hcc : Calls Tryd.prog 44 #[.string s, .string ⟨#[61]⟩] w fun e w' => e = .returned (.tuple #[.string a, .string b, .bool is]) ∧ Drawn0 w w' := by
    have := cut44 s 61 w HS.out
    rw [HC.out] at this
    exact this
  cases is with
  | false =>
    have HF : Hid (commentB s = false) := Lib.hid (by simp [commentB, HC.out])
    go_enter Tryd.func37, Tryd.ntmps37
    go_wp2_with (go_at_call 44; refine hcc.mono ?_; rintro e w' ⟨rfl, ⟨nd, rfl⟩⟩)
    go_ret
    rw [HF.out]
    exact ⟨rfl, (pw_below_drewN (Below.refl _ _) _)⟩
  | true =>
    have hla : a.size ≤ 9223372036854775807 := by have h := HL.out; rw [HC.out] at h; exact Nat.le_trans h HS.out
    have HLA := Lib.hid hla
    clear hla
    cases he : a.toList.isEmpty with
    | true =>
      have HF : Hid (commentB s = false) := Lib.hid (by simp [commentB, HC.out, he])
      go_enter Tryd.func37, Tryd.ntmps37
      go_wp2_with (go_at_call 44; refine hcc.mono ?_; rintro e w' ⟨rfl, ⟨nd, rfl⟩⟩)
      go_ret
      rw [HF.out]
      exact ⟨rfl, (pw_below_drewN (Below.refl _ _) _)⟩
    | false =>
      cases hb : (bytesOf a).any (outside 32 125) with
      | true =>
        have HF : Hid (commentB s = false) := Lib.hid (by simp [commentB, HC.out, he, hb])
        have hc2 := fun W => letters51 a 32 125 W HLA.out
        rw [hb] at hc2
        go_enter Tryd.func37, Tryd.ntmps37
        go_wp2_with (first | (go_at_call 44; refine hcc.mono ?_; rintro e w' ⟨rfl, ⟨nd, rfl⟩⟩) | (go_at_call 51; refine (hc2 _).mono ?_; rintro e w2 ⟨rfl, hb2⟩))
        go_ret
        rw [HF.out]
        exact ⟨rfl, bt (pw_below_drewN (Below.refl _ _) _) hb2⟩
      | false =>
        have HF : Hid (commentB s = Lib.validD s.data.toList) := Lib.hid (by simp [commentB, HC.out, he, hb])
        have hc2 := fun W => letters51 a 32 125 W HLA.out
        rw [hb] at hc2
        have HG := Lib.hid hG
        clear hG
        go_enter Tryd.func37, Tryd.ntmps37
        go_wp2_with (first | (go_at_call 44; refine hcc.mono ?_; rintro e w' ⟨rfl, ⟨nd, rfl⟩⟩) | (go_at_call 51; refine (hc2 _).mono ?_; rintro e w2 ⟨rfl, hb2⟩) | (go_at_call 34; refine (Tryd.utf8_ValidString s _ HS.out (HG.out.below (bt (pw_below_drewN (Below.refl _ _) _) hb2)).out).mono ?_; rintro e w3 ⟨rfl, hb3⟩))
        go_ret
        rw [HF.out]
        exact ⟨rfl, bt (bt (pw_below_drewN (Below.refl _ _) _) hb2) hb3⟩
end Go.Proofs.YtbjdipbhclihfaaDoor
set_option linter.unusedVariables false
namespace Go.Proofs.YtbjdipbhclihfaaDoor
open Go.RowKit Go.Proofs Go.Proofs.YtbjdipbhclihfaaDoorW.PrintWords
def BYT (w : World) (base : Nat) (v : Value) (xs : List Int) : Prop := (Kd.int .u8).R 5 w base (fun _ => True) v xs
theorem infoB : (Tryd.prog.info? 5).map (fun i => (i.zero, i.size, i.bytes)) = some (some (.int .u8 0), 1, 1) := by kernel_rfl
theorem grow69_0 (w : World) : Calls Tryd.prog 69 #[.slice none 0 0, .int .i64 0] w fun e w' => e = .returned (.slice none 0 0) ∧ w = w' := by
  go_enter Tryd.func69, Tryd.ntmps69
  go_wp2
  go_ret
  exact ⟨rfl, rfl⟩
theorem grow69_pos (n : Int) (w : World) (h0 : 0 < n) (h1 : n ≤ 1099511627776) : Calls Tryd.prog 69 #[.slice none 0 0, .int .i64 n] w fun e w' => ∃ v, e = .returned v ∧ BYT w' w.heap.size v [] ∧ Below w.heap.size w w' := by
  go_enter Tryd.func69, Tryd.ntmps69
  go_wp2_with (at_builtin; refine Kd.R_append_zeros (Kd.int .u8) (w0 := w) w.heap.size rfl (.tmp 20) (.tmp 21) 27 3 5 (.int .u8 0) 1 rfl Tryd.underlying27 Tryd.underlying3 infoB rfl (by decide) (by decide) (.slice none 0 0) [] 0 n (fun _ => True) rfl rfl (by rfl) (fun _ _ => trivial) (Kd.R_nil _ _ _ _ _) (by omega) (Below.refl _ _) (Nat.le_refl _) (by simp; omega) ?_)
  intro v1 w1 hR hB hg hat
  obtain ⟨A, c, rfl⟩ := Kd.R_slice hR
  have HR := Lib.hid hR
  have HB := Lib.hid hB
  clear hR hB hg hat
  go_wp2
  go_ret
  exact ⟨_, rfl, Kd.R_take HR.out (m := 0) (by simp), HB.out⟩
theorem grow69 (n : Nat) (w : World) (h1 : n ≤ 1099511627776) : Calls Tryd.prog 69 #[.slice none 0 0, .int .i64 (n : Nat)] w fun e w' => ∃ v, e = .returned v ∧ BYT w' w.heap.size v [] ∧ Below w.heap.size w w' := by
  rcases Nat.eq_zero_or_pos n with rfl | h
  · exact (grow69_0 w).mono fun e w' ⟨he, hw⟩ => ⟨_, he, Kd.R_nil _ _ _ _ _, by subst hw; exact Below.refl _ _⟩
  · exact grow69_pos n w (by omega) (by omega)
end Go.Proofs.YtbjdipbhclihfaaDoor
set_option linter.unusedVariables false
namespace Go.Proofs.YtbjdipbhclihfaaDoor
open Go.RowKit Go.Proofs Go.Proofs.YtbjdipbhclihfaaDoorW.PrintWords
/-- Element k of a slice of slices. -/
theorem row_at {α : Type} {d : Kd α} {e : Nat} {w : World} {A : Option Addr} {xs : List (List α)} (h : (Kd.slice e d).C w A xs.length xs) (k : Nat) (hk : k < xs.length) :
    ∃ ad A0 c0, A = some ad ∧ w.cell? (ad.add k) = some (.slice A0 xs[k].length c0) ∧ xs[k].length ≤ c0 ∧ d.C w A0 xs[k].length xs[k] := by
  obtain ⟨ad, c, e1, _, hK, hc0⟩ := Kd.C_get h ([] : List α) (k : Int) (by omega) (by omega)
  have hx : xs.getD (k : Int).toNat ([] : List α) = xs[k] := by simp [List.getD_eq_getElem?_getD, List.getElem?_eq_getElem hk]
  rw [hx] at hK
  have hc : ∀ j u, c[j]? = some u → w.cell? (ad.add ((k : Int).toNat * 1 + j)) = some u := hc0
  obtain ⟨A0, c1, rfl, l0, g0⟩ := hK
  refine ⟨ad, A0, c1, e1, ?_, l0, g0⟩
  have hq := hc 0 _ rfl
  simpa using hq
theorem flat_step {α : Type} (xs : List (List α)) (k : Nat) (hk : k < xs.length) : (xs.take (k + 1)).flatten = (xs.take k).flatten ++ xs[k] := by
  rw [List.take_succ_eq_append_getElem hk, List.flatten_append]; simp
theorem flat_le {α : Type} (xs : List (List α)) (k : Nat) : (xs.take k).flatten.length ≤ xs.flatten.length := by
  have h : xs.flatten = (xs.take k).flatten ++ (xs.drop k).flatten := by rw [← List.flatten_append, List.take_append_drop]
  rw [h]; simp
set_option maxRecDepth 100000 in
theorem concat38 (A : Option Addr) (c : Nat) (xs : List (List Int)) (w : World) (hr : (Kd.slice 5 (Kd.int .u8)).C w A xs.length xs) (hl : xs.flatten.length ≤ 1099511627776) :
    Calls Tryd.prog 38 #[.slice A xs.length c] w fun e w' => ∃ v, e = .returned v ∧ BYT w' w.heap.size v xs.flatten ∧ Below w.heap.size w w' := by
  have hm := C_len hr
  have HR := Lib.hid hr
  obtain ⟨tot, htot⟩ : ∃ t, t = xs.flatten.length := ⟨_, rfl⟩
  rw [← htot] at hl
  have HT := Lib.hid htot
  clear hr htot
  go_enter Tryd.func38, Tryd.ntmps38
  go_wp2
  go_loopg [3, 11] xs.length (fun gg s3 s11 wr => ∃ kk : Nat, kk ≤ xs.length ∧ xs.length - kk ≤ gg ∧ s11 = .int .i64 kk ∧ s3 = .int .i64 ((xs.take kk).flatten.length : Nat) ∧ w = wr)
  case atStart => exact ⟨0, Nat.zero_le _, by omega, rfl, by simp, rfl⟩
  case round =>
    obtain ⟨kk, hkk, hg, rfl, rfl, rfl⟩ := hrel
    have hS := flat_le xs kk
    by_cases hlt : kk < xs.length
    · have hltz : (kk : Int) < (xs.length : Int) := by omega
      have hS1 := flat_le xs (kk + 1)
      rw [← HT.out] at hS hS1
      have hst := flat_step xs kk hlt
      obtain ⟨ad, A0, c0, rfl, hcell, hl0, hC0⟩ := row_at HR.out kk hlt
      generalize xs[kk] = ys at hst hcell hl0 hC0
      rw [hst, List.length_append] at hS1
      have HS := Lib.hid hst
      clear hst hC0
      generalize (xs.take kk).flatten = pre at HS hS1 hS ⊢
      have hb1 : (0 : Int) ≤ (pre.length : Int) + (ys.length : Int) := by omega
      have hb2 : (pre.length : Int) + (ys.length : Int) ≤ 1099511627776 := by omega
      go_wp2
      go_roundg (xs.length - (kk + 1))
      case measure => omega
      case rel => exact ⟨kk + 1, by omega, by omega, by go_num, by rw [HS.out]; simp, rfl⟩
    · have hltz : ¬ (kk : Int) < (xs.length : Int) := by omega
      have hfull : xs.take kk = xs := List.take_of_length_le (by omega)
      rw [hfull, ← HT.out] at hS ⊢
      clear hfull
      go_wp2_with (go_at_call 69; refine (grow69 tot _ hl).mono ?_; rintro e w1 ⟨v0, rfl, hv0, hb0⟩)
      have HV0 := Lib.hid hv0
      have HB0 := Lib.hid hb0
      clear hv0 hb0
      go_wp2
      go_loopg [6, 27] xs.length (fun gg s6 s27 wr => ∃ kk : Nat, kk ≤ xs.length ∧ xs.length - kk ≤ gg ∧ s27 = .int .i64 kk ∧ Hid (BYT wr w.heap.size s6 (xs.take kk).flatten) ∧ Hid (Below w.heap.size w wr))
      case atStart => exact ⟨0, Nat.zero_le _, by omega, rfl, HV0, HB0⟩
      case round =>
        obtain ⟨kk, hkk, hg, rfl, HV, HB⟩ := hrel
        have hS := flat_le xs kk
        rw [← HT.out] at hS
        by_cases hlt : kk < xs.length
        · have hltz : (kk : Int) < (xs.length : Int) := by omega
          have hS1 := flat_le xs (kk + 1)
          rw [← HT.out] at hS1
          have hst := flat_step xs kk hlt
          obtain ⟨ad, A0, c0, rfl, hcell, hl0, hC0⟩ := row_at HR.out kk hlt
          replace hcell := pw_cell_below HB.out hcell
          generalize xs[kk] = ys at hst hcell hl0 hC0
          rw [hst, List.length_append] at hS1
          have HS := Lib.hid hst
          have HC0 := Lib.hid hC0
          clear hst hC0
          generalize (xs.take kk).flatten = pre at HS hS1 hS HV
          go_wp2_with (at_builtin; refine Kd.R_append_row (Value.int .u8) (0 : Int) (h1 := fun _ => rfl) (w0 := w) w.heap.size rfl (.tmp 31) (.tmp 32) 27 5 (.int .u8 0) 1 rfl Tryd.underlying27 infoB rfl (by decide) _ pre ys A0 ys.length c0 (fun _ => True) rfl rfl (fun _ _ => trivial) HV.out (Kd.C_below HC0.out HB.out) HB.out HB.out.size (by omega) ?_)
          intro v1 w2 hR2 hB2 _ _
          have HR2 := Lib.hid hR2
          have HB2 := Lib.hid hB2
          clear hR2 hB2
          go_wp2
          go_roundg (xs.length - (kk + 1))
          case measure => omega
          case rel => exact ⟨kk + 1, by omega, by omega, by go_num, by rw [HS.out]; exact HR2, HB2⟩
        · have hltz : ¬ (kk : Int) < (xs.length : Int) := by omega
          have hfull : xs.take kk = xs := List.take_of_length_le (by omega)
          rw [hfull] at HV
          clear hfull
          go_wp2
          go_ret
          exact ⟨_, rfl, HV.out, HB.out⟩
end Go.Proofs.YtbjdipbhclihfaaDoor
set_option linter.unusedVariables false
namespace Go.Proofs.YtbjdipbhclihfaaDoor
open Go.RowKit Go.Proofs Go.Proofs.YtbjdipbhclihfaaDoorW.PrintWords
/-- A number as four bytes, the lowest first. -/
def low4 (n : Int) : List Int := [n % 256, n / 256 % 256, n / 65536 % 256, n / 16777216 % 256]
theorem low39 (n : Int) (w : World) :
    Calls Tryd.prog 39 #[.int .i64 n] w fun e w' => ∃ v, e = .returned v ∧ BYT w' w.heap.size v (low4 n) ∧ Below w.heap.size w w' := by
  go_enter Tryd.func39, Tryd.ntmps39
  go_wp2
  go_ret
  refine ⟨_, rfl, ?_, below_alloc (Below.refl _ _) _⟩
  have h := Kd.R_of_own (enc := Value.int .u8) (h1 := fun _ => rfl) (own_lit w w.heap.size 5 .u8 (low4 n) (Nat.le_refl _) (by show 4 ≤ 9223372036854775807; decide)) (ok := fun _ => True) (fun _ _ => trivial)
  exact h
theorem full40 (A : Option Addr) (n c : Nat) (w : World) :
    Calls Tryd.prog 40 #[.slice A n c] w fun e w' => e = .returned (.tuple #[if n ≤ 16777215 then .slice A n c else .slice none 0 0, .int .i64 (if n ≤ 16777215 then 0 else 21)]) ∧ w = w' := by
  by_cases h : n ≤ 16777215
  · simp only [if_pos h]
    go_enter Tryd.func40, Tryd.ntmps40
    go_wp2
    go_ret2
    exact ⟨rfl, rfl⟩
  · simp only [if_neg h]
    have h' : ¬ ((n : Int) ≤ 16777215) := by omega
    go_enter Tryd.func40, Tryd.ntmps40
    go_wp2
    go_ret2
    exact ⟨rfl, rfl⟩
end Go.Proofs.YtbjdipbhclihfaaDoor
set_option linter.unusedVariables false
namespace Go.Proofs.YtbjdipbhclihfaaDoor
open Go.RowKit Go.Proofs Go.Proofs.YtbjdipbhclihfaaDoorW.PrintWords
def Fits (s : ByteArray) : Prop := s.size ≤ 9223372036854775807
theorem write36 (s : ByteArray) (w : World) (hs : Fits s) (hG : Glob w) :
    Calls Tryd.prog 36 #[.string s] w fun e w' => e = .returned (.bool (!commentB s)) ∧ Below w.heap.size w w' := by
  have hc := comment37 s w hs hG
  generalize commentB s = b at hc ⊢
  clear hG hs
  go_enter Tryd.func36, Tryd.ntmps36
  go_wp2_with (go_at_call 37; refine hc.mono ?_; rintro e w' ⟨rfl, hb⟩)
  go_ret
  exact ⟨rfl, hb⟩
theorem eg36 : ∀ args w, (callFunc 36 args).run Tryd.prog w = .ok (.enter 36 args) w := enters_of Tryd.func36 (by kernel_rfl) rfl
/-- The bytes of comments. -/
def commentsBytes (v : ByteArray) (L : List ByteArray) : List Int := low4 v.size ++ bytesOf v ++ low4 L.length ++ (L.map fun s => low4 s.size ++ bytesOf s).flatten
def writeOk (v : ByteArray) (L : List ByteArray) : Bool := Lib.validD v.data.toList && !(L.any fun s => !commentB s)
theorem write11_no1 (v : ByteArray) (A : Option Addr) (c : Nat) (L : List ByteArray) (w : World) (hv : Lib.validD v.data.toList = false) (hf : Fits v) (hG : Glob w) :
    Calls Tryd.prog 11 #[.agg #[.string v, .slice A L.length c]] w fun e w' => e = .returned (.tuple #[.slice none 0 0, .int .i64 12]) ∧ Below w.heap.size w w' := by
  have hV := fun W h => Tryd.utf8_ValidString v W hf h
  rw [hv] at hV
  have HG := Lib.hid hG
  clear hv hf hG
  go_enter Tryd.func11, Tryd.ntmps11
  go_wp2_with (first | (go_at_call 34; refine (hV _ (HG.out.below (below_alloc (Below.refl _ _) _)).out).mono ?_; rintro e w' ⟨rfl, hb⟩))
  go_ret2
  exact ⟨rfl, bt (below_alloc (Below.refl _ _) _) hb⟩
theorem write11_no2 (v : ByteArray) (A : Option Addr) (c : Nat) (L : List ByteArray) (w : World) (hr : Kd.string.C w A L.length L) (hv : Lib.validD v.data.toList = true) (hL : (L.any fun s => !commentB s) = true) (hf : Fits v) (hF : ∀ s ∈ L, Fits s) (hG : Glob w) :
    Calls Tryd.prog 11 #[.agg #[.string v, .slice A L.length c]] w fun e w' => e = .returned (.tuple #[.slice none 0 0, .int .i64 12]) ∧ Below w.heap.size w w' := by
  have hV := fun W h => Tryd.utf8_ValidString v W hf h
  rw [hv] at hV
  have hC := fun W h1 h2 => has35 A c L 36 #[] eg36 Fits (fun s => !commentB s) W h1 hF h2
  rw [hL] at hC
  have HG := Lib.hid hG
  have HR := Lib.hid hr
  clear hv hf hG hL hF hr
  go_enter Tryd.func11, Tryd.ntmps11
  go_wp2_with (first | (go_at_call 34; refine (hV _ (HG.out.below (below_alloc (Below.refl _ _) _)).out).mono ?_; rintro e w1 ⟨rfl, hb⟩; have h0 : w1.cell? ⟨w.heap.size, 1, none⟩ = some (.slice A L.length c) := by (rw [hb.cell (by simp)]; simp)) | (go_at_call 35; have hb1 := Lib.hid (bt (below_alloc (Below.refl _ _) _) hb); clear hb; refine (hC _ (Kd.C_below HR.out hb1.out) (fun W x hD hb2 => write36 x W hD (HG.out.below (bt hb1.out hb2)))).mono ?_; rintro e w2 ⟨rfl, hb2⟩))
  go_ret2
  exact ⟨rfl, bt hb1.out hb2⟩
end Go.Proofs.YtbjdipbhclihfaaDoor
set_option linter.unusedVariables false
namespace Go.Proofs.YtbjdipbhclihfaaDoor
open Go.RowKit Go.Proofs Go.Proofs.YtbjdipbhclihfaaDoorW.PrintWords Go.Proofs.YtbjdipbhclihfaaDoorW.PrintLast
theorem C_lit1 {β : Type} {d : Kd β} (hsz : d.sz = 1) {W : World} {b : Nat} {cs : Array Value} {t : TypeId} {fr : Nat × Nat} (hb : W.heap[b]? = some (.cells cs t fr)) (ps : List β) (hn : ps.length ≤ 9223372036854775807)
    (h : ∀ (j : Nat) p, ps[j]? = some p → ∃ u, cs[j]? = some u ∧ d.K W p [u]) : d.C W (some ⟨b, 0, none⟩) ps.length ps := by
  refine ⟨rfl, hn, fun _ => ⟨_, rfl, fun j p hj => ?_⟩⟩
  obtain ⟨u, hu, hk⟩ := h j p hj
  refine ⟨[u], by rw [hsz]; rfl, hk, fun i v hv => ?_⟩
  match i, hv with
  | 0, hv =>
    simp at hv
    subst hv
    rw [hsz, Nat.mul_one, Nat.add_zero, add_plain]
    simp [World.cell?, hb, hu]
/-- A slice of bytes that is read. -/
def RB (W : World) (u : Value) (xs : List Int) : Prop := ∃ A c, u = .slice A xs.length c ∧ xs.length ≤ c ∧ (Kd.int .u8).C W A xs.length xs
theorem RB.below {W W1 : World} {u : Value} {xs : List Int} (h : RB W u xs) (hb : Below W.heap.size W W1) : RB W1 u xs := by
  obtain ⟨A, c, he, hl, hC⟩ := h
  exact ⟨A, c, he, hl, Kd.C_below hC hb⟩
theorem RB.of_BYT {W : World} {base : Nat} {u : Value} {xs : List Int} (h : BYT W base u xs) : RB W u xs := by
  obtain ⟨A, c, he, hl, hC⟩ := Kd.R_reads h
  exact ⟨A, c, he, hl, hC⟩
/-- A slice of slices of bytes that is read. -/
def RR (W : World) (u : Value) (xs : List (List Int)) : Prop := ∃ A c, u = .slice A xs.length c ∧ (Kd.slice 5 (Kd.int .u8)).C W A xs.length xs
theorem RR.below {W W1 : World} {u : Value} {xs : List (List Int)} (h : RR W u xs) (hb : Below W.heap.size W W1) : RR W1 u xs := by
  obtain ⟨A, c, he, hC⟩ := h
  exact ⟨A, c, he, Kd.C_below hC hb⟩
theorem rows3 {W : World} {u1 u2 u3 : Value} {x1 x2 x3 : List Int} (h1 : RB W u1 x1) (h2 : RB W u2 x2) (h3 : RB W u3 x3) : RR (W.alloc (.cells #[u1, u2, u3] 27)) (.slice (some ⟨W.heap.size, 0, none⟩) 3 3) [x1, x2, x3] := by
  have hb : Below W.heap.size W (W.alloc (.cells #[u1, u2, u3] 27)) := below_alloc (Below.refl _ _) _
  refine ⟨_, _, rfl, C_lit1 rfl (blk_new W _) [x1, x2, x3] (by show 3 ≤ 9223372036854775807; decide) fun j p hj => ?_⟩
  match j, hj with
  | 0, hj => simp at hj; subst hj; obtain ⟨A, c, rfl, hl, hC⟩ := h1; exact ⟨_, rfl, A, c, rfl, hl, Kd.C_below hC hb⟩
  | 1, hj => simp at hj; subst hj; obtain ⟨A, c, rfl, hl, hC⟩ := h2; exact ⟨_, rfl, A, c, rfl, hl, Kd.C_below hC hb⟩
  | 2, hj => simp at hj; subst hj; obtain ⟨A, c, rfl, hl, hC⟩ := h3; exact ⟨_, rfl, A, c, rfl, hl, Kd.C_below hC hb⟩
/-- The bytes of the first k comments. -/
def cpre (v : ByteArray) (L : List ByteArray) (k : Nat) : List Int := low4 (v.size : Int) ++ bytesOf v ++ low4 (L.length : Int) ++ ((L.take k).map fun s => low4 s.size ++ bytesOf s).flatten
theorem cpre_zero (v : ByteArray) (L : List ByteArray) : cpre v L 0 = low4 (v.size : Int) ++ bytesOf v ++ low4 (L.length : Int) := by simp [cpre]
theorem cpre_full (v : ByteArray) (L : List ByteArray) (k : Nat) (h : L.length ≤ k) : cpre v L k = commentsBytes v L := by
  unfold cpre commentsBytes
  rw [List.take_of_length_le h]
theorem cpre_step (v : ByteArray) (L : List ByteArray) (k : Nat) (hk : k < L.length) : cpre v L (k + 1) = cpre v L k ++ low4 L[k].size ++ bytesOf L[k] := by
  unfold cpre
  rw [List.take_succ_eq_append_getElem hk, List.map_append, List.flatten_append]
  simp
theorem cpre_le (v : ByteArray) (L : List ByteArray) (k : Nat) : (cpre v L k).length ≤ (commentsBytes v L).length := by
  have h := flat_le (L.map fun s => low4 s.size ++ bytesOf s) k
  unfold cpre commentsBytes
  simp only [List.length_append, ← List.map_take] at h ⊢
  omega
def write11.T3 : Bool × List (List Nat × List Nat) := (true, [([], []), ([0], [0]), ([1], [1]), ([2], [2]), ([], []), ([4], [4]), ([5], [5]), ([], []), ([7], [7]), ([8], [8]), ([9, 3], [9]), ([3, 6, 10], [3, 6, 10]), ([11, 10], [11]), ([12, 12, 0, 1, 2, 3, 4, 5, 6, 7, 8, 9, 10, 11, 12], [12])])
def write11.B3 : List Nat := [0, 1, 3, 7, 0, 16, 48, 0, 128, 384, 911, 2047, 4095, 8191]
theorem write11.tab3 : rtab .any (opsOf Tryd.f11 3) = write11.T3 := by kernel_rfl
theorem write11.bits3 : waitsOk write11.T3.2 write11.B3 = true := by kernel_rfl
set_option maxRecDepth 100000 in
theorem write11_yes (v : ByteArray) (A : Option Addr) (c : Nat) (L : List ByteArray) (w : World) (hr : Kd.string.C w A L.length L) (hv : Lib.validD v.data.toList = true) (hL : (L.any fun s => !commentB s) = false) (hf : Fits v) (hF : ∀ s ∈ L, Fits s) (hG : Glob w)
    (hsz : (commentsBytes v L).length ≤ 16777215) :
    Calls Tryd.prog 11 #[.agg #[.string v, .slice A L.length c]] w fun e w' => ∃ u, e = .returned (.tuple #[u, .int .i64 0]) ∧ BYT w' w.heap.size u (commentsBytes v L) ∧ Below w.heap.size w w' := by
  have hV := fun W h => Tryd.utf8_ValidString v W hf h
  rw [hv] at hV
  have hC := fun W h1 h2 => has35 A c L 36 #[] eg36 Fits (fun s => !commentB s) W h1 hF h2
  rw [hL] at hC
  have HL3 : Hid (([low4 (v.size : Int), bytesOf v, low4 (L.length : Int)] : List (List Int)).flatten.length ≤ 1099511627776) := by
    apply Lib.hid
    simp [commentsBytes] at hsz ⊢
    omega
  have HG := Lib.hid hG
  have HR := Lib.hid hr
  have HF := Lib.hid hf
  have HSZ := Lib.hid hsz
  clear hv hf hG hL hF hr hsz
  go_enter Tryd.func11, Tryd.ntmps11
  go_wp2_with (first | (go_at_call 34; refine (hV _ (HG.out.below (below_alloc (Below.refl _ _) _)).out).mono ?_; rintro e w1 ⟨rfl, hb⟩; have h0 : w1.cell? ⟨w.heap.size, 1, none⟩ = some (.slice A L.length c) := by (rw [hb.cell (by simp)]; simp)) | (go_at_call 35; have hb1 := Lib.hid (bt (below_alloc (Below.refl _ _) (.cells #[.string v, .slice A L.length c] 24)) hb); have hb0 := Lib.hid hb; clear hb; refine (hC _ (Kd.C_below HR.out hb1.out) (fun W x hD hb2 => write36 x W hD (HG.out.below (bt hb1.out hb2)))).mono ?_; rintro e w2 ⟨rfl, hb2⟩))
  have h0 : w2.cell? ⟨w.heap.size, 0, none⟩ = some (.string v) := by rw [(bt hb0.out hb2).cell (by simp)]; simp
  have h1 : w2.cell? ⟨w.heap.size, 1, none⟩ = some (.slice A L.length c) := by rw [(bt hb0.out hb2).cell (by simp)]; simp
  have C0 := Aside0.mk h0
  have C1 := Aside0.mk h1
  have HB := Aside0.mk (bt hb1.out hb2)
  clear hb2 hV hC hb0 hb1 h0 h1
  refine start_ (n := 14) (S := fun w' => True) (ds := []) #[false, false, false, false, false, false, false, false, false, false, false, false, false, false] (by kernel_rfl) rfl rfl trivial (fun hHeld => ?_)
  refine with_tabW write11.tab3 write11.bits3 (fun HT_ HW_ => ?_)
  refine inv_at [0, 1, 2, 3, 4, 5, 6, 7, 8, 9, 10, 11, 12, 13] (fun a0_ b a w' => ∃ (u1 : Value) (u2 : Value) (u3 : Value) (u4 : Value) (u5 : Value) (m13_ : Value), a = putSel a0_ b [(0, 16, .pointer (some ⟨w.heap.size, 0, none⟩)), (1, 17, .string v), (2, 18, .int .i64 (v.size : Int)), (3, 19, u1), (4, 20, .pointer (some ⟨w.heap.size, 0, none⟩)), (5, 21, .string v), (6, 22, u2), (7, 23, .pointer (some ⟨w.heap.size, 1, none⟩)), (8, 24, .slice A L.length c), (9, 25, .int .i64 (L.length : Int)), (10, 26, u3), (11, 27, u4), (12, 28, u5), (13, 4, m13_)] ∧ (w'.cell? ⟨w.heap.size, 0, none⟩ = some (.string v)) ∧ (w'.cell? ⟨w.heap.size, 1, none⟩ = some (.slice A L.length c)) ∧ (Below w.heap.size w w') ∧ (b 3 = true → RB w' u1 (low4 (v.size : Int))) ∧ (b 6 = true → RB w' u2 (bytesOf v)) ∧ (b 10 = true → RB w' u3 (low4 (L.length : Int))) ∧ (b 11 = true → RR w' u4 [low4 (v.size : Int), bytesOf v, low4 (L.length : Int)]) ∧ (b 12 = true → BYT w' w.heap.size u5 [low4 (v.size : Int), bytesOf v, low4 (L.length : Int)].flatten) ∧ (b 13 = true → (m13_ : Value) = u5)) HT_.out HW_.out (by kernel_rfl) (by kernel_rfl) ?_ ?_ ?_
  · exact ⟨.bool false, .bool false, .bool false, .bool false, .bool false, .bool false, by simp only [putSel, Bool.false_eq_true, if_false], C0.out, C1.out, below_drew HB.out, fun h_ => absurd h_ (by decide), fun h_ => absurd h_ (by decide), fun h_ => absurd h_ (by decide), fun h_ => absurd h_ (by decide), fun h_ => absurd h_ (by decide), fun h_ => absurd h_ (by decide)⟩
  · skip
    clear C0 C1 HB
    refine steps_cons ?_ ?_
    · rintro b a w' ⟨u1, u2, u3, u4, u5, m13_, ha, Q_C0, Q_C1, Q_HB, Q_R1, Q_R2, Q_R3, Q_R4, Q_R5, Q_X13_⟩ hb_ hon hoff
      refine ⟨_, rfl, fun K hK => ?_⟩
      have e1 : a.tmps[1]? = some (.pointer (some ⟨w.heap.size, 0, none⟩)) := by rw [ha]; exact (putSel_off rfl).trans rfl
      replace ha := Aside0.mk ha
      have C0 := Aside0.mk Q_C0
      have C1 := Aside0.mk Q_C1
      have HB := Aside0.mk Q_HB
      refine value_ (w1 := w') (v := .pointer (some ⟨w.heap.size, 0, none⟩)) (by rfl) rfl ?_ ?_
      · go_simp
        (try simp only [i64_w])
        try rfl
      refine hK.out _ _ ⟨u1, u2, u3, u4, u5, m13_, (by rw [ha.out]; exact putSel_upk 0 hb_ rfl rfl rfl), Q_C0, Q_C1, Q_HB, fun h0_ => absurd ((hoff 3 (by kernel_rfl)).symm.trans h0_) (by decide), Q_R2, fun h0_ => absurd ((hoff 10 (by kernel_rfl)).symm.trans h0_) (by decide), fun h0_ => absurd ((hoff 11 (by kernel_rfl)).symm.trans h0_) (by decide), fun h0_ => absurd ((hoff 12 (by kernel_rfl)).symm.trans h0_) (by decide), fun h0_ => absurd ((hoff 13 (by kernel_rfl)).symm.trans h0_) (by decide)⟩
    refine steps_cons ?_ ?_
    · rintro b a w' ⟨u1, u2, u3, u4, u5, m13_, ha, Q_C0, Q_C1, Q_HB, Q_R1, Q_R2, Q_R3, Q_R4, Q_R5, Q_X13_⟩ hb_ hon hoff
      refine ⟨_, rfl, fun K hK => ?_⟩
      have e16 : a.tmps[16]? = some (.pointer (some ⟨w.heap.size, 0, none⟩)) := by rw [ha]; exact putSel_on (e := (0, 16, .pointer (some ⟨w.heap.size, 0, none⟩))) 0 rfl rfl (hon 0 (by kernel_rfl)) rfl
      replace ha := Aside0.mk ha
      have C0 := Aside0.mk Q_C0
      have C1 := Aside0.mk Q_C1
      have HB := Aside0.mk Q_HB
      have c0 := C0.out
      refine value_ (w1 := w') (v := .string v) (by rfl) rfl ?_ ?_
      · go_simp
        (try simp only [i64_w])
        try rfl
      refine hK.out _ _ ⟨u1, u2, u3, u4, u5, m13_, (by rw [ha.out]; exact putSel_upk 1 hb_ rfl rfl rfl), Q_C0, Q_C1, Q_HB, fun h0_ => absurd ((hoff 3 (by kernel_rfl)).symm.trans h0_) (by decide), Q_R2, fun h0_ => absurd ((hoff 10 (by kernel_rfl)).symm.trans h0_) (by decide), fun h0_ => absurd ((hoff 11 (by kernel_rfl)).symm.trans h0_) (by decide), fun h0_ => absurd ((hoff 12 (by kernel_rfl)).symm.trans h0_) (by decide), fun h0_ => absurd ((hoff 13 (by kernel_rfl)).symm.trans h0_) (by decide)⟩
    refine steps_cons ?_ ?_
    · rintro b a w' ⟨u1, u2, u3, u4, u5, m13_, ha, Q_C0, Q_C1, Q_HB, Q_R1, Q_R2, Q_R3, Q_R4, Q_R5, Q_X13_⟩ hb_ hon hoff
      refine ⟨_, rfl, fun K hK => ?_⟩
      have e17 : a.tmps[17]? = some (.string v) := by rw [ha]; exact putSel_on (e := (1, 17, .string v)) 1 rfl rfl (hon 1 (by kernel_rfl)) rfl
      replace ha := Aside0.mk ha
      have C0 := Aside0.mk Q_C0
      have C1 := Aside0.mk Q_C1
      have HB := Aside0.mk Q_HB
      refine value_ (w1 := w') (v := .int .i64 (v.size : Int)) (by rfl) rfl ?_ ?_
      · go_simp
        (try simp only [i64_w])
        try rfl
      refine hK.out _ _ ⟨u1, u2, u3, u4, u5, m13_, (by rw [ha.out]; exact putSel_upk 2 hb_ rfl rfl rfl), Q_C0, Q_C1, Q_HB, fun h0_ => absurd ((hoff 3 (by kernel_rfl)).symm.trans h0_) (by decide), Q_R2, fun h0_ => absurd ((hoff 10 (by kernel_rfl)).symm.trans h0_) (by decide), fun h0_ => absurd ((hoff 11 (by kernel_rfl)).symm.trans h0_) (by decide), fun h0_ => absurd ((hoff 12 (by kernel_rfl)).symm.trans h0_) (by decide), fun h0_ => absurd ((hoff 13 (by kernel_rfl)).symm.trans h0_) (by decide)⟩
    refine steps_cons ?_ ?_
    · rintro b a w' ⟨u1, u2, u3, u4, u5, m13_, ha, Q_C0, Q_C1, Q_HB, Q_R1, Q_R2, Q_R3, Q_R4, Q_R5, Q_X13_⟩ hb_ hon hoff
      refine ⟨_, rfl, fun K hK => ?_⟩
      have e18 : a.tmps[18]? = some (.int .i64 (v.size : Int)) := by rw [ha]; exact putSel_on (e := (2, 18, .int .i64 (v.size : Int))) 2 rfl rfl (hon 2 (by kernel_rfl)) rfl
      replace ha := Aside0.mk ha
      have C0 := Aside0.mk Q_C0
      have C1 := Aside0.mk Q_C1
      have HB := Aside0.mk Q_HB
      refine goes_ (N := some 19) Tryd.func39 (by kernel_rfl) rfl #[.int .i64 (v.size : Int)] (by rfl) rfl rfl (by first | (simp only [List.map_toArray, List.map_cons, List.map_nil, Act.eval, Array.getD_eq_getD_getElem?, Option.getD_some, e18]; done) | (simp only [List.map_toArray, List.map_cons, List.map_nil, Act.eval, Array.getD_eq_getD_getElem?, Option.getD_some, e18]; rfl)) ?_
      refine (low39 (v.size : Int) _).mono ?_
      rintro e_ w1 ⟨u, rfl, hu, hb⟩
      refine ⟨_, rfl, ?_⟩
      refine hK.out _ _ ⟨u, u2, u3, u4, u5, m13_, (by rw [ha.out]; exact putSel_upk 3 hb_ rfl rfl rfl), pw_cell_below hb C0.out, pw_cell_below hb C1.out, bt HB.out hb, fun _ => RB.of_BYT hu, fun h0_ => RB.below (Q_R2 h0_) hb, fun h0_ => absurd ((hoff 10 (by kernel_rfl)).symm.trans h0_) (by decide), fun h0_ => absurd ((hoff 11 (by kernel_rfl)).symm.trans h0_) (by decide), fun h0_ => absurd ((hoff 12 (by kernel_rfl)).symm.trans h0_) (by decide), fun h0_ => absurd ((hoff 13 (by kernel_rfl)).symm.trans h0_) (by decide)⟩
    refine steps_cons ?_ ?_
    · rintro b a w' ⟨u1, u2, u3, u4, u5, m13_, ha, Q_C0, Q_C1, Q_HB, Q_R1, Q_R2, Q_R3, Q_R4, Q_R5, Q_X13_⟩ hb_ hon hoff
      refine ⟨_, rfl, fun K hK => ?_⟩
      have e1 : a.tmps[1]? = some (.pointer (some ⟨w.heap.size, 0, none⟩)) := by rw [ha]; exact (putSel_off rfl).trans rfl
      replace ha := Aside0.mk ha
      have C0 := Aside0.mk Q_C0
      have C1 := Aside0.mk Q_C1
      have HB := Aside0.mk Q_HB
      refine value_ (w1 := w') (v := .pointer (some ⟨w.heap.size, 0, none⟩)) (by rfl) rfl ?_ ?_
      · go_simp
        (try simp only [i64_w])
        try rfl
      refine hK.out _ _ ⟨u1, u2, u3, u4, u5, m13_, (by rw [ha.out]; exact putSel_upk 4 hb_ rfl rfl rfl), Q_C0, Q_C1, Q_HB, Q_R1, fun h0_ => absurd ((hoff 6 (by kernel_rfl)).symm.trans h0_) (by decide), Q_R3, fun h0_ => absurd ((hoff 11 (by kernel_rfl)).symm.trans h0_) (by decide), fun h0_ => absurd ((hoff 12 (by kernel_rfl)).symm.trans h0_) (by decide), fun h0_ => absurd ((hoff 13 (by kernel_rfl)).symm.trans h0_) (by decide)⟩
    refine steps_cons ?_ ?_
    · rintro b a w' ⟨u1, u2, u3, u4, u5, m13_, ha, Q_C0, Q_C1, Q_HB, Q_R1, Q_R2, Q_R3, Q_R4, Q_R5, Q_X13_⟩ hb_ hon hoff
      refine ⟨_, rfl, fun K hK => ?_⟩
      have e20 : a.tmps[20]? = some (.pointer (some ⟨w.heap.size, 0, none⟩)) := by rw [ha]; exact putSel_on (e := (4, 20, .pointer (some ⟨w.heap.size, 0, none⟩))) 4 rfl rfl (hon 4 (by kernel_rfl)) rfl
      replace ha := Aside0.mk ha
      have C0 := Aside0.mk Q_C0
      have C1 := Aside0.mk Q_C1
      have HB := Aside0.mk Q_HB
      have c0 := C0.out
      refine value_ (w1 := w') (v := .string v) (by rfl) rfl ?_ ?_
      · go_simp
        (try simp only [i64_w])
        try rfl
      refine hK.out _ _ ⟨u1, u2, u3, u4, u5, m13_, (by rw [ha.out]; exact putSel_upk 5 hb_ rfl rfl rfl), Q_C0, Q_C1, Q_HB, Q_R1, fun h0_ => absurd ((hoff 6 (by kernel_rfl)).symm.trans h0_) (by decide), Q_R3, fun h0_ => absurd ((hoff 11 (by kernel_rfl)).symm.trans h0_) (by decide), fun h0_ => absurd ((hoff 12 (by kernel_rfl)).symm.trans h0_) (by decide), fun h0_ => absurd ((hoff 13 (by kernel_rfl)).symm.trans h0_) (by decide)⟩
    refine steps_cons ?_ ?_
    · rintro b a w' ⟨u1, u2, u3, u4, u5, m13_, ha, Q_C0, Q_C1, Q_HB, Q_R1, Q_R2, Q_R3, Q_R4, Q_R5, Q_X13_⟩ hb_ hon hoff
      refine ⟨_, rfl, fun K hK => ?_⟩
      have e21 : a.tmps[21]? = some (.string v) := by rw [ha]; exact putSel_on (e := (5, 21, .string v)) 5 rfl rfl (hon 5 (by kernel_rfl)) rfl
      replace ha := Aside0.mk ha
      have C0 := Aside0.mk Q_C0
      have C1 := Aside0.mk Q_C1
      have HB := Aside0.mk Q_HB
      obtain ⟨A2, c2, w1, hcv, hC2, hl2, hb, _⟩ := bytes_conv v HF.out w'
      refine value_ (w1 := w1) (v := .slice A2 (bytesOf v).length c2) (by rfl) rfl ?_ ?_
      · go_simp
      refine hK.out _ _ ⟨u1, (.slice A2 (bytesOf v).length c2), u3, u4, u5, m13_, (by rw [ha.out]; exact putSel_upk 6 hb_ rfl rfl rfl), pw_cell_below hb C0.out, pw_cell_below hb C1.out, bt HB.out hb, fun h0_ => RB.below (Q_R1 h0_) hb, fun _ => ⟨A2, c2, rfl, hl2, hC2⟩, fun h0_ => RB.below (Q_R3 h0_) hb, fun h0_ => absurd ((hoff 11 (by kernel_rfl)).symm.trans h0_) (by decide), fun h0_ => absurd ((hoff 12 (by kernel_rfl)).symm.trans h0_) (by decide), fun h0_ => absurd ((hoff 13 (by kernel_rfl)).symm.trans h0_) (by decide)⟩
    refine steps_cons ?_ ?_
    · rintro b a w' ⟨u1, u2, u3, u4, u5, m13_, ha, Q_C0, Q_C1, Q_HB, Q_R1, Q_R2, Q_R3, Q_R4, Q_R5, Q_X13_⟩ hb_ hon hoff
      refine ⟨_, rfl, fun K hK => ?_⟩
      have e1 : a.tmps[1]? = some (.pointer (some ⟨w.heap.size, 0, none⟩)) := by rw [ha]; exact (putSel_off rfl).trans rfl
      replace ha := Aside0.mk ha
      have C0 := Aside0.mk Q_C0
      have C1 := Aside0.mk Q_C1
      have HB := Aside0.mk Q_HB
      refine value_ (w1 := w') (v := .pointer (some ⟨w.heap.size, 1, none⟩)) (by rfl) rfl ?_ ?_
      · go_simp
        (try simp only [i64_w])
        try rfl
      refine hK.out _ _ ⟨u1, u2, u3, u4, u5, m13_, (by rw [ha.out]; exact putSel_upk 7 hb_ rfl rfl rfl), Q_C0, Q_C1, Q_HB, Q_R1, Q_R2, fun h0_ => absurd ((hoff 10 (by kernel_rfl)).symm.trans h0_) (by decide), fun h0_ => absurd ((hoff 11 (by kernel_rfl)).symm.trans h0_) (by decide), fun h0_ => absurd ((hoff 12 (by kernel_rfl)).symm.trans h0_) (by decide), fun h0_ => absurd ((hoff 13 (by kernel_rfl)).symm.trans h0_) (by decide)⟩
    refine steps_cons ?_ ?_
    · rintro b a w' ⟨u1, u2, u3, u4, u5, m13_, ha, Q_C0, Q_C1, Q_HB, Q_R1, Q_R2, Q_R3, Q_R4, Q_R5, Q_X13_⟩ hb_ hon hoff
      refine ⟨_, rfl, fun K hK => ?_⟩
      have e23 : a.tmps[23]? = some (.pointer (some ⟨w.heap.size, 1, none⟩)) := by rw [ha]; exact putSel_on (e := (7, 23, .pointer (some ⟨w.heap.size, 1, none⟩))) 7 rfl rfl (hon 7 (by kernel_rfl)) rfl
      replace ha := Aside0.mk ha
      have C0 := Aside0.mk Q_C0
      have C1 := Aside0.mk Q_C1
      have HB := Aside0.mk Q_HB
      have c1 := C1.out
      refine value_ (w1 := w') (v := .slice A L.length c) (by rfl) rfl ?_ ?_
      · go_simp
        (try simp only [i64_w])
        try rfl
      refine hK.out _ _ ⟨u1, u2, u3, u4, u5, m13_, (by rw [ha.out]; exact putSel_upk 8 hb_ rfl rfl rfl), Q_C0, Q_C1, Q_HB, Q_R1, Q_R2, fun h0_ => absurd ((hoff 10 (by kernel_rfl)).symm.trans h0_) (by decide), fun h0_ => absurd ((hoff 11 (by kernel_rfl)).symm.trans h0_) (by decide), fun h0_ => absurd ((hoff 12 (by kernel_rfl)).symm.trans h0_) (by decide), fun h0_ => absurd ((hoff 13 (by kernel_rfl)).symm.trans h0_) (by decide)⟩
    refine steps_cons ?_ ?_
    · rintro b a w' ⟨u1, u2, u3, u4, u5, m13_, ha, Q_C0, Q_C1, Q_HB, Q_R1, Q_R2, Q_R3, Q_R4, Q_R5, Q_X13_⟩ hb_ hon hoff
      refine ⟨_, rfl, fun K hK => ?_⟩
      have e24 : a.tmps[24]? = some (.slice A L.length c) := by rw [ha]; exact putSel_on (e := (8, 24, .slice A L.length c)) 8 rfl rfl (hon 8 (by kernel_rfl)) rfl
      replace ha := Aside0.mk ha
      have C0 := Aside0.mk Q_C0
      have C1 := Aside0.mk Q_C1
      have HB := Aside0.mk Q_HB
      refine value_ (w1 := w') (v := .int .i64 (L.length : Int)) (by rfl) rfl ?_ ?_
      · go_simp
        (try simp only [i64_w])
        try rfl
      refine hK.out _ _ ⟨u1, u2, u3, u4, u5, m13_, (by rw [ha.out]; exact putSel_upk 9 hb_ rfl rfl rfl), Q_C0, Q_C1, Q_HB, Q_R1, Q_R2, fun h0_ => absurd ((hoff 10 (by kernel_rfl)).symm.trans h0_) (by decide), fun h0_ => absurd ((hoff 11 (by kernel_rfl)).symm.trans h0_) (by decide), fun h0_ => absurd ((hoff 12 (by kernel_rfl)).symm.trans h0_) (by decide), fun h0_ => absurd ((hoff 13 (by kernel_rfl)).symm.trans h0_) (by decide)⟩
    refine steps_cons ?_ ?_
    · rintro b a w' ⟨u1, u2, u3, u4, u5, m13_, ha, Q_C0, Q_C1, Q_HB, Q_R1, Q_R2, Q_R3, Q_R4, Q_R5, Q_X13_⟩ hb_ hon hoff
      refine ⟨_, rfl, fun K hK => ?_⟩
      have e25 : a.tmps[25]? = some (.int .i64 (L.length : Int)) := by rw [ha]; exact putSel_on (e := (9, 25, .int .i64 (L.length : Int))) 9 rfl rfl (hon 9 (by kernel_rfl)) rfl
      replace ha := Aside0.mk ha
      have C0 := Aside0.mk Q_C0
      have C1 := Aside0.mk Q_C1
      have HB := Aside0.mk Q_HB
      have R1 := Aside0.mk (Q_R1 (hon 3 (by kernel_rfl)))
      refine goes_ (N := some 26) Tryd.func39 (by kernel_rfl) rfl #[.int .i64 (L.length : Int)] (by rfl) rfl rfl (by first | (simp only [List.map_toArray, List.map_cons, List.map_nil, Act.eval, Array.getD_eq_getD_getElem?, Option.getD_some, e25]; done) | (simp only [List.map_toArray, List.map_cons, List.map_nil, Act.eval, Array.getD_eq_getD_getElem?, Option.getD_some, e25]; rfl)) ?_
      refine (low39 (L.length : Int) _).mono ?_
      rintro e_ w1 ⟨u, rfl, hu, hb⟩
      refine ⟨_, rfl, ?_⟩
      refine hK.out _ _ ⟨u1, u2, u, u4, u5, m13_, (by rw [ha.out]; exact putSel_upk 10 hb_ rfl rfl rfl), pw_cell_below hb C0.out, pw_cell_below hb C1.out, bt HB.out hb, fun _ => RB.below R1.out hb, fun h0_ => RB.below (Q_R2 h0_) hb, fun _ => RB.of_BYT hu, fun h0_ => absurd ((hoff 11 (by kernel_rfl)).symm.trans h0_) (by decide), fun h0_ => absurd ((hoff 12 (by kernel_rfl)).symm.trans h0_) (by decide), fun h0_ => absurd ((hoff 13 (by kernel_rfl)).symm.trans h0_) (by decide)⟩
    refine steps_cons ?_ ?_
    · rintro b a w' ⟨u1, u2, u3, u4, u5, m13_, ha, Q_C0, Q_C1, Q_HB, Q_R1, Q_R2, Q_R3, Q_R4, Q_R5, Q_X13_⟩ hb_ hon hoff
      refine ⟨_, rfl, fun K hK => ?_⟩
      have e19 : a.tmps[19]? = some (u1) := by rw [ha]; exact putSel_on (e := (3, 19, u1)) 3 rfl rfl (hon 3 (by kernel_rfl)) rfl
      have e22 : a.tmps[22]? = some (u2) := by rw [ha]; exact putSel_on (e := (6, 22, u2)) 6 rfl rfl (hon 6 (by kernel_rfl)) rfl
      have e26 : a.tmps[26]? = some (u3) := by rw [ha]; exact putSel_on (e := (10, 26, u3)) 10 rfl rfl (hon 10 (by kernel_rfl)) rfl
      replace ha := Aside0.mk ha
      have C0 := Aside0.mk Q_C0
      have C1 := Aside0.mk Q_C1
      have HB := Aside0.mk Q_HB
      have R1 := Aside0.mk (Q_R1 (hon 3 (by kernel_rfl)))
      have R2 := Aside0.mk (Q_R2 (hon 6 (by kernel_rfl)))
      have R3 := Aside0.mk (Q_R3 (hon 10 (by kernel_rfl)))
      obtain ⟨A1, c1, rfl, hl1, hC1⟩ := R1.out
      obtain ⟨A2, c2, rfl, hl2, hC2⟩ := R2.out
      obtain ⟨A3, c3, rfl, hl3, hC3⟩ := R3.out
      have R1 := Aside0.mk (show RB w' _ _ from ⟨A1, c1, rfl, hl1, hC1⟩)
      have R2 := Aside0.mk (show RB w' _ _ from ⟨A2, c2, rfl, hl2, hC2⟩)
      have R3 := Aside0.mk (show RB w' _ _ from ⟨A3, c3, rfl, hl3, hC3⟩)
      clear hC1 hC2 hC3
      have hb : Below w'.heap.size w' (w'.alloc (.cells #[.slice A1 (low4 (v.size : Int)).length c1, .slice A2 (bytesOf v).length c2, .slice A3 (low4 (L.length : Int)).length c3] 27)) := below_alloc (Below.refl _ _) _
      refine value_ (w1 := w'.alloc (.cells #[.slice A1 (low4 (v.size : Int)).length c1, .slice A2 (bytesOf v).length c2, .slice A3 (low4 (L.length : Int)).length c3] 27)) (v := .slice (some ⟨w'.heap.size, 0, none⟩) 3 3) (by rfl) rfl ?_ ?_
      · go_simp
      refine hK.out _ _ ⟨(.slice A1 (low4 (v.size : Int)).length c1), (.slice A2 (bytesOf v).length c2), (.slice A3 (low4 (L.length : Int)).length c3), (.slice (some ⟨w'.heap.size, 0, none⟩) 3 3), u5, m13_, (by rw [ha.out]; exact putSel_upk 11 hb_ rfl rfl rfl), pw_cell_below hb C0.out, pw_cell_below hb C1.out, bt HB.out hb, fun _ => RB.below R1.out hb, fun _ => RB.below R2.out hb, fun _ => RB.below R3.out hb, fun _ => rows3 R1.out R2.out R3.out, fun h0_ => absurd ((hoff 12 (by kernel_rfl)).symm.trans h0_) (by decide), fun h0_ => absurd ((hoff 13 (by kernel_rfl)).symm.trans h0_) (by decide)⟩
    refine steps_cons ?_ ?_
    · rintro b a w' ⟨u1, u2, u3, u4, u5, m13_, ha, Q_C0, Q_C1, Q_HB, Q_R1, Q_R2, Q_R3, Q_R4, Q_R5, Q_X13_⟩ hb_ hon hoff
      refine ⟨_, rfl, fun K hK => ?_⟩
      have e27 : a.tmps[27]? = some (u4) := by rw [ha]; exact putSel_on (e := (11, 27, u4)) 11 rfl rfl (hon 11 (by kernel_rfl)) rfl
      replace ha := Aside0.mk ha
      have C0 := Aside0.mk Q_C0
      have C1 := Aside0.mk Q_C1
      have HB := Aside0.mk Q_HB
      have R1 := Aside0.mk (Q_R1 (hon 3 (by kernel_rfl)))
      have R2 := Aside0.mk (Q_R2 (hon 6 (by kernel_rfl)))
      have R3 := Aside0.mk (Q_R3 (hon 10 (by kernel_rfl)))
      have R4 := Aside0.mk (Q_R4 (hon 11 (by kernel_rfl)))
      obtain ⟨A4, c4, rfl, hC4⟩ := R4.out
      refine goes_ (N := some 28) Tryd.func38 (by kernel_rfl) rfl #[.slice A4 3 c4] (by rfl) rfl rfl (by first | (simp only [List.map_toArray, List.map_cons, List.map_nil, Act.eval, Array.getD_eq_getD_getElem?, Option.getD_some, e27]; done) | (simp only [List.map_toArray, List.map_cons, List.map_nil, Act.eval, Array.getD_eq_getD_getElem?, Option.getD_some, e27]; rfl)) ?_
      refine (concat38 A4 c4 [low4 (v.size : Int), bytesOf v, low4 (L.length : Int)] _ hC4 HL3.out).mono ?_
      rintro e_ w1 ⟨u, rfl, hu, hb⟩
      refine ⟨_, rfl, ?_⟩
      refine hK.out _ _ ⟨u1, u2, u3, (.slice A4 3 c4), u, m13_, (by rw [ha.out]; exact putSel_upk 12 hb_ rfl rfl rfl), pw_cell_below hb C0.out, pw_cell_below hb C1.out, bt HB.out hb, fun _ => RB.below R1.out hb, fun _ => RB.below R2.out hb, fun _ => RB.below R3.out hb, fun _ => ⟨A4, c4, rfl, Kd.C_below hC4 hb⟩, fun _ => Kd.R_lower hu HB.out.size, fun h0_ => absurd ((hoff 13 (by kernel_rfl)).symm.trans h0_) (by decide)⟩
    refine steps_cons ?_ ?_
    · rintro b a w' ⟨u1, u2, u3, u4, u5, m13_, ha, Q_C0, Q_C1, Q_HB, Q_R1, Q_R2, Q_R3, Q_R4, Q_R5, Q_X13_⟩ hb_ hon hoff
      refine ⟨_, rfl, fun K hK => ?_⟩
      have e28 : a.tmps[28]? = some (u5) := by rw [ha]; exact putSel_on (e := (12, 28, u5)) 12 rfl rfl (hon 12 (by kernel_rfl)) rfl
      replace ha := Aside0.mk ha
      have C0 := Aside0.mk Q_C0
      have C1 := Aside0.mk Q_C1
      have HB := Aside0.mk Q_HB
      have R1 := Aside0.mk (Q_R1 (hon 3 (by kernel_rfl)))
      have R2 := Aside0.mk (Q_R2 (hon 6 (by kernel_rfl)))
      have R3 := Aside0.mk (Q_R3 (hon 10 (by kernel_rfl)))
      have R4 := Aside0.mk (Q_R4 (hon 11 (by kernel_rfl)))
      have R5 := Aside0.mk (Q_R5 (hon 12 (by kernel_rfl)))
      refine value_ (w1 := w') (v := u5) (by rfl) rfl ?_ ?_
      · go_simp
        (try simp only [i64_w])
        try rfl
      refine hK.out _ _ ⟨u1, u2, u3, u4, u5, (u5), (by rw [ha.out]; exact putSel_upk 13 hb_ rfl rfl rfl), Q_C0, Q_C1, Q_HB, Q_R1, Q_R2, Q_R3, Q_R4, Q_R5, fun _ => rfl⟩
    exact steps_nil
  · rintro b a w' hall ⟨u1, u2, u3, u4, u5, m13_, ha, Q_C0, Q_C1, Q_HB, Q_R1, Q_R2, Q_R3, Q_R4, Q_R5, Q_X13_⟩
    clear C0 C1 HB
    have hb0_ := hall 0 (by kernel_rfl)
    have hb1_ := hall 1 (by kernel_rfl)
    have hb2_ := hall 2 (by kernel_rfl)
    have hb3_ := hall 3 (by kernel_rfl)
    have hb4_ := hall 4 (by kernel_rfl)
    have hb5_ := hall 5 (by kernel_rfl)
    have hb6_ := hall 6 (by kernel_rfl)
    have hb7_ := hall 7 (by kernel_rfl)
    have hb8_ := hall 8 (by kernel_rfl)
    have hb9_ := hall 9 (by kernel_rfl)
    have hb10_ := hall 10 (by kernel_rfl)
    have hb11_ := hall 11 (by kernel_rfl)
    have hb12_ := hall 12 (by kernel_rfl)
    have hb13_ := hall 13 (by kernel_rfl)
    subst ha
    obtain rfl := Q_X13_ hb13_
    simp only [putSel, hb0_, hb1_, hb2_, hb3_, hb4_, hb5_, hb6_, hb7_, hb8_, hb9_, hb10_, hb11_, hb12_, hb13_, if_true, Act.put, List.setIfInBounds_toArray, List.set_cons_zero, List.set_cons_succ]
    have C0 := Aside0.mk Q_C0
    clear Q_C0
    have C1 := Aside0.mk Q_C1
    clear Q_C1
    have HB := Aside0.mk Q_HB
    clear Q_HB
    have R1 := Aside0.mk (Q_R1 hb3_)
    clear Q_R1
    have R2 := Aside0.mk (Q_R2 hb6_)
    clear Q_R2
    have R3 := Aside0.mk (Q_R3 hb10_)
    clear Q_R3
    have R4 := Aside0.mk (Q_R4 hb11_)
    clear Q_R4
    have R5 := Aside0.mk (Q_R5 hb12_)
    clear Q_R5
    clear hall hb0_ hb1_ hb2_ hb3_ hb4_ hb5_ hb6_ hb7_ hb8_ hb9_ hb10_ hb11_ hb12_ hb13_
    have HB0 := Lib.hid HB.out
    have hpre : BYT w' w.heap.size m13_ (cpre v L 0) := by
      have := R5.out
      rw [cpre_zero]
      simpa using this
    have HP0 := Lib.hid hpre
    have hc1 := C1.out
    clear hpre C0 C1 HB R1 R2 R3 R4 R5 HT_ HW_ hHeld Q_X13_ h0
    have hm := C_len HR.out
    go_wp2
    clear hc1
    go_loopg [4, 32] L.length (fun gg s4 s32 wr => ∃ kk : Nat, kk ≤ L.length ∧ L.length - kk ≤ gg ∧ s32 = .int .i64 kk ∧ Hid (BYT wr w.heap.size s4 (cpre v L kk)) ∧ Hid (Below w.heap.size w wr))
    case atStart => exact ⟨0, Nat.zero_le _, by omega, rfl, HP0, HB0⟩
    case round =>
      clear HP0 HB0
      obtain ⟨kk, hkk, hg, rfl, HV, HB⟩ := hrel
      by_cases hlt : kk < L.length
      · have hltz : (kk : Int) < (L.length : Int) := by omega
        obtain ⟨ad, rfl, hcell⟩ := str_at HR.out kk hlt
        replace hcell := pw_cell_below HB.out hcell
        have hst := cpre_step v L kk hlt
        have hle := Nat.le_trans (cpre_le v L (kk + 1)) HSZ.out
        rw [hst] at hle
        generalize cpre v L kk = pre at hle hst HV
        generalize L[kk] = s at hcell hst hle
        rw [List.length_append, List.length_append, bytesOf_length] at hle
        have hl4 : (low4 (s.size : Int)).length = 4 := rfl
        have HS := Lib.hid hst
        have HLE := Lib.hid hle
        have HL4 := Lib.hid hl4
        clear hst hle hl4
        go_wp2_with (first | (go_at_call 39; refine (low39 (s.size : Int) _).mono ?_; rintro e w3 ⟨u, rfl, hu, hb3⟩; obtain ⟨A3, c3, rfl, hl3, hC3⟩ := RB.of_BYT hu; have HV3 := Lib.hid (Kd.R_below HV.out hb3); have HB3 := Lib.hid (bt HB.out hb3); have HC3 := Lib.hid hC3; clear hu hb3 hl3 hC3 HV HB) | (at_builtin; refine Kd.R_append_row (Value.int .u8) (0 : Int) (h1 := fun _ => rfl) (w0 := w) w.heap.size rfl (.tmp 36) (.tmp 39) 27 5 (.int .u8 0) 1 rfl Tryd.underlying27 infoB rfl (by decide) _ pre (low4 (s.size : Int)) A3 (low4 (s.size : Int)).length c3 (fun _ => True) rfl rfl (fun _ _ => trivial) HV3.out HC3.out HB3.out HB3.out.size ?_ ?_))
        case refine_1 => have := HLE.out; omega
        intro v1 w4 hR4 hB4 _ _
        have HR4 := Lib.hid hR4
        have HB4 := Lib.hid hB4
        clear hR4 hB4 HV3 HB3 HC3
        go_wp2_with (at_builtin; refine print_append_str (w0 := w) w.heap.size rfl (.tmp 40) (.tmp 41) 27 9 5 rfl Tryd.underlying27 Tryd.underlying9 infoB _ (pre ++ low4 (s.size : Int)) s rfl rfl (Kd.own_of_R HR4.out) HB4.out HB4.out.size ?_ ?_)
        case refine_1 => have := HLE.out; have := HL4.out; rw [List.length_append]; omega
        intro v2 w5 hR5 hB5 _
        have hq : BYT w5 w.heap.size v2 (pre ++ low4 (s.size : Int) ++ bytesOf s) := by
          rw [List.append_assoc]
          exact Kd.R_of_own (enc := Value.int .u8) (h1 := fun _ => rfl) (by rw [List.length_append, List.length_append]; exact hR5) (fun _ _ => trivial)
        have HR5 := Lib.hid hq
        clear hq
        have HB5 := Lib.hid hB5
        clear hR5 hB5 HR4 HB4
        go_wp2
        go_roundg (L.length - (kk + 1))
        case measure => omega
        case rel => exact ⟨kk + 1, by omega, by omega, by go_num, by rw [HS.out]; exact HR5, HB5⟩
      · have hltz : ¬ (kk : Int) < (L.length : Int) := by omega
        rw [cpre_full v L kk (by omega)] at HV
        have hsz := HSZ.out
        obtain ⟨A3, c3, rfl, hl3, hC3⟩ := RB.of_BYT HV.out
        have hff := fun W => full40 A3 (commentsBytes v L).length c3 W
        simp only [if_pos hsz] at hff
        have HFF := Lib.hid hff
        clear hff hsz hl3 hC3
        go_wp2_with (go_at_call 40; refine (HFF.out _).mono ?_; rintro e w3 ⟨rfl, rfl⟩)
        go_ret2
        exact ⟨_, rfl, HV.out, HB.out⟩
end Go.Proofs.YtbjdipbhclihfaaDoor
set_option linter.unusedVariables false
namespace Go.Proofs.YtbjdipbhclihfaaDoor
open Go.RowKit Go.Proofs Go.Proofs.YtbjdipbhclihfaaDoorW.PrintWords
def STR (w : World) (base : Nat) (v : Value) (xs : List ByteArray) : Prop := Kd.string.R 9 w base (fun _ => True) v xs
theorem infoS : (Tryd.prog.info? 9).map (fun i => (i.zero, i.size, i.bytes)) = some (some (.string ⟨#[]⟩), 1, 16) := by kernel_rfl
theorem grow70_0 (w : World) : Calls Tryd.prog 70 #[.slice none 0 0, .int .i64 0] w fun e w' => e = .returned (.slice none 0 0) ∧ w = w' := by
  go_enter Tryd.func70, Tryd.ntmps70
  go_wp2
  go_ret
  exact ⟨rfl, rfl⟩
theorem grow70_pos (n : Int) (w : World) (h0 : 0 < n) (h1 : n ≤ 1099511627776) : Calls Tryd.prog 70 #[.slice none 0 0, .int .i64 n] w fun e w' => ∃ v, e = .returned v ∧ STR w' w.heap.size v [] ∧ Below w.heap.size w w' := by
  go_enter Tryd.func70, Tryd.ntmps70
  go_wp2_with (at_builtin; refine Kd.R_append_zeros Kd.string (w0 := w) w.heap.size rfl (.tmp 20) (.tmp 21) 22 3 9 (.string ⟨#[]⟩) 16 rfl Tryd.underlying22 Tryd.underlying3 infoS rfl (by decide) (by decide) (.slice none 0 0) [] (⟨#[]⟩ : ByteArray) n (fun _ => True) rfl rfl (by rfl) (fun _ _ => trivial) (Kd.R_nil _ _ _ _ _) (by omega) (Below.refl _ _) (Nat.le_refl _) (by simp; omega) ?_)
  intro v1 w1 hR hB hg hat
  obtain ⟨A, c, rfl⟩ := Kd.R_slice hR
  have HR := Lib.hid hR
  have HB := Lib.hid hB
  clear hR hB hg hat
  go_wp2
  go_ret
  exact ⟨_, rfl, Kd.R_take HR.out (m := 0) (by simp), HB.out⟩
theorem grow70 (n : Nat) (w : World) (h1 : n ≤ 1099511627776) : Calls Tryd.prog 70 #[.slice none 0 0, .int .i64 (n : Nat)] w fun e w' => ∃ v, e = .returned v ∧ STR w' w.heap.size v [] ∧ Below w.heap.size w w' := by
  rcases Nat.eq_zero_or_pos n with rfl | h
  · exact (grow70_0 w).mono fun e w' ⟨he, hw⟩ => ⟨_, he, Kd.R_nil _ _ _ _ _, by subst hw; exact Below.refl _ _⟩
  · exact grow70_pos n w (by omega) (by omega)
set_option maxRecDepth 100000 in
theorem concat43 (A : Option Addr) (c : Nat) (xs : List (List ByteArray)) (w : World) (hr : (Kd.slice 9 Kd.string).C w A xs.length xs) (hl : xs.flatten.length ≤ 1099511627776) :
    Calls Tryd.prog 43 #[.slice A xs.length c] w fun e w' => ∃ v, e = .returned v ∧ STR w' w.heap.size v xs.flatten ∧ Below w.heap.size w w' := by
  have hm := C_len hr
  have HR := Lib.hid hr
  obtain ⟨tot, htot⟩ : ∃ t, t = xs.flatten.length := ⟨_, rfl⟩
  rw [← htot] at hl
  have HT := Lib.hid htot
  clear hr htot
  go_enter Tryd.func43, Tryd.ntmps43
  go_wp2
  go_loopg [3, 11] xs.length (fun gg s3 s11 wr => ∃ kk : Nat, kk ≤ xs.length ∧ xs.length - kk ≤ gg ∧ s11 = .int .i64 kk ∧ s3 = .int .i64 ((xs.take kk).flatten.length : Nat) ∧ w = wr)
  case atStart => exact ⟨0, Nat.zero_le _, by omega, rfl, by simp, rfl⟩
  case round =>
    obtain ⟨kk, hkk, hg, rfl, rfl, rfl⟩ := hrel
    have hS := flat_le xs kk
    by_cases hlt : kk < xs.length
    · have hltz : (kk : Int) < (xs.length : Int) := by omega
      have hS1 := flat_le xs (kk + 1)
      rw [← HT.out] at hS hS1
      have hst := flat_step xs kk hlt
      obtain ⟨ad, A0, c0, rfl, hcell, hl0, hC0⟩ := row_at HR.out kk hlt
      generalize xs[kk] = ys at hst hcell hl0 hC0
      rw [hst, List.length_append] at hS1
      have HS := Lib.hid hst
      clear hst hC0
      generalize (xs.take kk).flatten = pre at HS hS1 hS ⊢
      have hb1 : (0 : Int) ≤ (pre.length : Int) + (ys.length : Int) := by omega
      have hb2 : (pre.length : Int) + (ys.length : Int) ≤ 1099511627776 := by omega
      go_wp2
      go_roundg (xs.length - (kk + 1))
      case measure => omega
      case rel => exact ⟨kk + 1, by omega, by omega, by go_num, by rw [HS.out]; simp, rfl⟩
    · have hltz : ¬ (kk : Int) < (xs.length : Int) := by omega
      have hfull : xs.take kk = xs := List.take_of_length_le (by omega)
      rw [hfull, ← HT.out] at hS ⊢
      clear hfull
      go_wp2_with (go_at_call 70; refine (grow70 tot _ hl).mono ?_; rintro e w1 ⟨v0, rfl, hv0, hb0⟩)
      have HV0 := Lib.hid hv0
      have HB0 := Lib.hid hb0
      clear hv0 hb0
      go_wp2
      go_loopg [6, 27] xs.length (fun gg s6 s27 wr => ∃ kk : Nat, kk ≤ xs.length ∧ xs.length - kk ≤ gg ∧ s27 = .int .i64 kk ∧ Hid (STR wr w.heap.size s6 (xs.take kk).flatten) ∧ Hid (Below w.heap.size w wr))
      case atStart => exact ⟨0, Nat.zero_le _, by omega, rfl, HV0, HB0⟩
      case round =>
        obtain ⟨kk, hkk, hg, rfl, HV, HB⟩ := hrel
        have hS := flat_le xs kk
        rw [← HT.out] at hS
        by_cases hlt : kk < xs.length
        · have hltz : (kk : Int) < (xs.length : Int) := by omega
          have hS1 := flat_le xs (kk + 1)
          rw [← HT.out] at hS1
          have hst := flat_step xs kk hlt
          obtain ⟨ad, A0, c0, rfl, hcell, hl0, hC0⟩ := row_at HR.out kk hlt
          replace hcell := pw_cell_below HB.out hcell
          generalize xs[kk] = ys at hst hcell hl0 hC0
          rw [hst, List.length_append] at hS1
          have HS := Lib.hid hst
          have HC0 := Lib.hid hC0
          clear hst hC0
          generalize (xs.take kk).flatten = pre at HS hS1 hS HV
          go_wp2_with (at_builtin; refine Kd.R_append_row Value.string ByteArray.empty (h1 := fun _ => rfl) (w0 := w) w.heap.size rfl (.tmp 31) (.tmp 32) 22 9 (.string ⟨#[]⟩) 16 rfl Tryd.underlying22 infoS rfl (by decide) _ pre ys A0 ys.length c0 (fun _ => True) rfl rfl (fun _ _ => trivial) HV.out (Kd.C_below HC0.out HB.out) HB.out HB.out.size (by omega) ?_)
          intro v1 w2 hR2 hB2 _ _
          have HR2 := Lib.hid hR2
          have HB2 := Lib.hid hB2
          clear hR2 hB2
          go_wp2
          go_roundg (xs.length - (kk + 1))
          case measure => omega
          case rel => exact ⟨kk + 1, by omega, by omega, by go_num, by rw [HS.out]; exact HR2, HB2⟩
        · have hltz : ¬ (kk : Int) < (xs.length : Int) := by omega
          have hfull : xs.take kk = xs := List.take_of_length_le (by omega)
          rw [hfull] at HV
          clear hfull
          go_wp2
          go_ret
          exact ⟨_, rfl, HV.out, HB.out⟩
end Go.Proofs.YtbjdipbhclihfaaDoor
