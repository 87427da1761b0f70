/- Words of this seat: what a predicate that is handed over has to do; the first place at which one holds; slices of strings, bytes, numbers that are read. -/
import Derived.Test.YtbjdipbhclihfaaDoorProg
import Derived.Test.YtbjdipbhclihfaaDoorWWords
import Derived.WalkKit
import Derived.WalkLawsBesides
import Derived.WalkSpells
import Derived.Deep.QuietTactic
import Derived.BigQuiet
import Derived.Deep.LoopGhost
import Derived.Outline
import Derived.Lib.Hide
import Derived.Shelf.Abstract
set_option linter.unusedVariables false
namespace Go.Proofs.YtbjdipbhclihfaaDoor
open Go.RowKit Go.Proofs Go.Proofs.YtbjdipbhclihfaaDoorW.PrintWords

def PredG {α : Type} (g : Nat) (cap : Array Value) (enc : α → Value) (D : α → Prop) (p : α → Bool) (w : World) : Prop :=
  ∀ (W : World) (x : α), D x → Below w.heap.size w W → Calls Tryd.prog g (#[enc x] ++ cap) W fun e w' => e = .returned (.bool (p x)) ∧ Below W.heap.size W w'

theorem PredG.later {α : Type} {g : Nat} {cap : Array Value} {enc : α → Value} {D : α → Prop} {p : α → Bool} {w W : World} (h : PredG g cap enc D p w) (hb : Below w.heap.size w W) : PredG g cap enc D p W :=
  fun W' x hD hb' => h W' x hD (hb.trans (hb'.mono hb.size))

def firstIdx {α : Type} (p : α → Bool) (xs : List α) : Int := match xs.findIdx? p with | some i => (i : Int) | none => -1

theorem firstIdx_miss {α : Type} (p : α → Bool) (xs : List α) (h : ∀ (j : Nat) (x : α), xs[j]? = some x → p x = false) : firstIdx p xs = -1 := by
  unfold firstIdx
  have : xs.findIdx? p = none := by
    rw [List.findIdx?_eq_none_iff]
    intro x hx
    obtain ⟨j, hj⟩ := List.getElem?_of_mem hx
    exact h j x hj
  rw [this]

theorem firstIdx_hit {α : Type} (p : α → Bool) (xs : List α) (k : Nat) (x : α) (hk : xs[k]? = some x) (hp : p x = true) (h : ∀ (j : Nat) (y : α), j < k → xs[j]? = some y → p y = false) : firstIdx p xs = k := by
  unfold firstIdx
  obtain ⟨hl, hx⟩ := List.getElem?_eq_some_iff.1 hk
  have : xs.findIdx? p = some k := by
    rw [List.findIdx?_eq_some_iff_getElem]
    refine ⟨hl, by rw [hx]; exact hp, fun j hj => ?_⟩
    have := h j xs[j] hj (List.getElem?_eq_getElem (by omega))
    simp [this]
  rw [this]

theorem firstIdx_any {α : Type} (p : α → Bool) (xs : List α) : decide (0 ≤ firstIdx p xs) = xs.any p := by
  unfold firstIdx
  cases h : xs.findIdx? p with
  | none =>
    rw [List.findIdx?_eq_none_iff] at h
    symm
    simp only [decide_eq_false (show ¬ (0 : Int) ≤ -1 by omega)]
    rw [List.any_eq_false]
    intro x hx
    simp [h x hx]
  | some i =>
    rw [List.findIdx?_eq_some_iff_getElem] at h
    obtain ⟨hl, hp, _⟩ := h
    symm
    simp only [decide_eq_true (show (0 : Int) ≤ (i : Int) by omega)]
    rw [List.any_eq_true]
    exact ⟨_, List.getElem_mem hl, hp⟩

theorem bt {w W W1 : World} (h : Below w.heap.size w W) (k : Below W.heap.size W W1) : Below w.heap.size w W1 := h.trans (k.mono h.size)

/-- Element k of a slice of strings. -/
theorem str_at {w : World} {A : Option Addr} {xs : List ByteArray} (h : Kd.string.C w A xs.length xs) (k : Nat) (hk : k < xs.length) : ∃ ad, A = some ad ∧ w.cell? (ad.add k) = some (.string xs[k]) := by
  obtain ⟨ad, e, hc⟩ := Kd.at_string h (k : Int) (by omega) (by omega)
  refine ⟨ad, e, ?_⟩
  simpa [rdOf, List.getD_eq_getElem?_getD, List.getElem?_eq_getElem hk] using hc

/-- Element k of a slice of numbers. -/
theorem int_at {w : World} {A : Option Addr} {kd : IntKind} {xs : List Int} (h : (Kd.int kd).C w A xs.length xs) (k : Nat) (hk : k < xs.length) : ∃ ad, A = some ad ∧ w.cell? (ad.add k) = some (.int kd xs[k]) := by
  obtain ⟨ad, e, hc⟩ := Kd.at_int h (k : Int) (by omega) (by omega)
  refine ⟨ad, e, ?_⟩
  simpa [rd, List.getD_eq_getElem?_getD, List.getElem?_eq_getElem hk] using hc

theorem C_len {α : Type} {d : Kd α} {w : World} {A : Option Addr} {n : Nat} {xs : List α} (h : d.C w A n xs) : n ≤ 9223372036854775807 := h.2.1
end Go.Proofs.YtbjdipbhclihfaaDoor
