import Derived.Test.YtbjdipbhclihfaaDoorE9
set_option linter.unusedVariables false
set_option linter.unusedSimpArgs false
namespace Go.Proofs.YtbjdipbhclihfaaDoor
open Go.RowKit Go.Proofs Go.Proofs.YtbjdipbhclihfaaDoorW.PrintWords Plain
/-! What bytes are as a picture: the reader's states, one behind the other. -/
def st1 (bs : List Int) : Option (List Int) := fourS (some bs)
def st2 (bs : List Int) : Option (List Int) := textS (st1 bs)
def st3 (bs : List Int) : Option (List Int) := textS (st2 bs)
def st4 (bs : List Int) : Option (List Int) := fourS (st3 bs)
def st5 (bs : List Int) : Option (List Int) := fourS (st4 bs)
def st6 (bs : List Int) : Option (List Int) := fourS (st5 bs)
def st7 (bs : List Int) : Option (List Int) := fourS (st6 bs)
def st8 (bs : List Int) : Option (List Int) := textS (st7 bs)
def pK (bs : List Int) : Int := fourV (some bs)
def pMime (bs : List Int) : ByteArray := strOfNums (textV (st1 bs))
def pText (bs : List Int) : ByteArray := strOfNums (textV (st2 bs))
def pX (bs : List Int) : Int := fourV (st3 bs)
def pH (bs : List Int) : Int := fourV (st4 bs)
def pD (bs : List Int) : Int := fourV (st5 bs)
def pC (bs : List Int) : Int := fourV (st6 bs)
def pData (bs : List Int) : List Int := textV (st7 bs)
/-- What is wrong with bytes as a picture. -/
def pErr (bs : List Int) : Int := (st8 bs).elim 11 fun r => if r.length = 0 then picErr (pK bs) (pMime bs) (pText bs) (pX bs) (pH bs) (pD bs) (pC bs) else 12
theorem fourS_none : fourS none = none := rfl
theorem textS_none : textS none = none := rfl
theorem st8_of1 {bs : List Int} (h : st1 bs = none) : st8 bs = none := by simp [st8, st7, st6, st5, st4, st3, st2, h, fourS, textS]
theorem st8_of2 {bs : List Int} (h : st2 bs = none) : st8 bs = none := by simp [st8, st7, st6, st5, st4, st3, h, fourS, textS]
theorem st8_of3 {bs : List Int} (h : st3 bs = none) : st8 bs = none := by simp [st8, st7, st6, st5, st4, h, fourS, textS]
theorem st8_of7 {bs : List Int} (h : st7 bs = none) : st8 bs = none := by simp [st8, h, textS]
theorem pErr_none {bs : List Int} (h : st8 bs = none) : pErr bs = 11 := by simp [pErr, h]
theorem C_far8 {W : World} {ad : Addr} {n : Nat} {xs : List Int} {p : Addr} (u : Value) (h : (Kd.int .u8).C W (some ad) n xs) (hA : p.block ≠ ad.block) : (Kd.int .u8).C (W.setCell p u) (some ad) n xs := by
  have hr := Kd.reads_of_C (enc := Value.int .u8) (d := (0 : Int)) (h1 := fun _ => rfl) h
  obtain ⟨h1, h2, h3⟩ := hr
  refine Kd.C_of_reads (d := (0 : Int)) (h1 := fun _ => rfl) ⟨h1, h2, fun hp => ?_⟩
  obtain ⟨ad', he, hc⟩ := h3 hp
  cases he
  exact ⟨ad, rfl, fun j hj => (World.cell?_setCell_far W p (ad.add j) u (by unfold Addr.add; split <;> exact hA)).trans (hc j hj)⟩
/-- '[]byte(s)', with its address. -/
theorem bytes_convE (s : ByteArray) (hs : s.size ≤ 9223372036854775807) (W : World) : ∃ c w1, (convert 9 27 (.string s)).run Tryd.prog W = .ok (.slice (some ⟨W.heap.size, 0, none⟩) (bytesOf s).length c) w1 ∧ (Kd.int .u8).C w1 (some ⟨W.heap.size, 0, none⟩) (bytesOf s).length (bytesOf s) ∧ (bytesOf s).length ≤ c ∧ Below W.heap.size W w1 := by
  refine ⟨grownCap W s.size 0 5, Lib.bytesWorld W 5 s, ?_, ?_, ?_, bytes_below (Below.refl _ _) (Nat.le_refl _) 5 s⟩
  · rw [bytesOf_length]
    exact print_bytes 9 27 5 Tryd.underlying9 Tryd.underlying27 Tryd.underlying5 s W
  · rw [bytesOf_length]
    exact Kd.C_of_reads (d := (0 : Int)) (h1 := fun _ => rfl) (bytes_reads W 5 s hs)
  · rw [bytesOf_length]
    simp [grownCap, Question.cut]
theorem bytes_back {xs : List Int} (h : ByteL xs) : bytesOf (strOfNums xs) = xs := by
  unfold bytesOf
  rw [strOfNums_data, List.map_map]
  conv => rhs; rw [← List.map_id xs]
  apply List.map_congr_left
  intro x hx
  have := h x hx
  simp only [Function.comp, id, UInt8.toNat_ofNat']
  omega
theorem textV_le {bs : List Int} : (textV (some bs)).length ≤ bs.length := by
  show ((ptxtB bs).elim [] fun x => x.1).length ≤ bs.length
  by_cases h4 : bs.length < 4
  · have hp : ptxtB bs = none := if_pos h4
    rw [hp]
    exact Nat.zero_le _
  · by_cases hs : (bs.length : Int) < 4 + be4 bs
    · have hp : ptxtB bs = none := by unfold ptxtB; rw [if_neg h4, if_pos hs]
      rw [hp]
      exact Nat.zero_le _
    · have hp : ptxtB bs = some ((bs.drop 4).take (be4 bs).toNat, (bs.drop 4).drop (be4 bs).toNat) := by unfold ptxtB; rw [if_neg h4, if_neg hs]
      rw [hp]
      show ((bs.drop 4).take (be4 bs).toNat).length ≤ bs.length
      simp only [List.length_take, List.length_drop]
      omega
end Go.Proofs.YtbjdipbhclihfaaDoor
