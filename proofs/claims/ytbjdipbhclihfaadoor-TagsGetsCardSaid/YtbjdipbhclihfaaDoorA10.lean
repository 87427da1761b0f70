import Derived.Test.YtbjdipbhclihfaaDoorA9
import Derived.Test.YtbjdipbhclihfaaDoorA2
import Derived.Deep.RegionHeld3
set_option linter.unusedVariables false
namespace Go.Proofs.YtbjdipbhclihfaaDoor
open Go.RowKit Go.Proofs Go.Proofs.YtbjdipbhclihfaaDoorW.PrintWords
def Fits (s : ByteArray) : Prop := s.size ≤ 9223372036854775807
theorem write36 (s : ByteArray) (w : World) (hs : Fits s) (hG : Glob w) :
    Calls Tryd.prog 36 #[.string s] w fun e w' => e = .returned (.bool (!commentB s)) ∧ Below w.heap.size w w' := by
  have hc := comment37 s w hs hG
  generalize commentB s = b at hc ⊢
  clear hG hs
  go_enter Tryd.func36, Tryd.ntmps36
  go_wp2_with (go_at_call 37; refine hc.mono ?_; rintro e w' ⟨rfl, hb⟩)
  go_ret
  exact ⟨rfl, hb⟩
theorem eg36 : ∀ args w, (callFunc 36 args).run Tryd.prog w = .ok (.enter 36 args) w := enters_of Tryd.func36 (by kernel_rfl) rfl
/-- The bytes of comments. -/
def commentsBytes (v : ByteArray) (L : List ByteArray) : List Int := low4 v.size ++ bytesOf v ++ low4 L.length ++ (L.map fun s => low4 s.size ++ bytesOf s).flatten
def writeOk (v : ByteArray) (L : List ByteArray) : Bool := Lib.validD v.data.toList && !(L.any fun s => !commentB s)
theorem write11_no1 (v : ByteArray) (A : Option Addr) (c : Nat) (L : List ByteArray) (w : World) (hv : Lib.validD v.data.toList = false) (hf : Fits v) (hG : Glob w) :
    Calls Tryd.prog 11 #[.agg #[.string v, .slice A L.length c]] w fun e w' => e = .returned (.tuple #[.slice none 0 0, .int .i64 12]) ∧ Below w.heap.size w w' := by
  have hV := fun W h => Tryd.utf8_ValidString v W hf h
  rw [hv] at hV
  have HG := Lib.hid hG
  clear hv hf hG
  go_enter Tryd.func11, Tryd.ntmps11
  go_wp2_with (first | (go_at_call 34; refine (hV _ (HG.out.below (below_alloc (Below.refl _ _) _)).out).mono ?_; rintro e w' ⟨rfl, hb⟩))
  go_ret2
  exact ⟨rfl, bt (below_alloc (Below.refl _ _) _) hb⟩
theorem write11_no2 (v : ByteArray) (A : Option Addr) (c : Nat) (L : List ByteArray) (w : World) (hr : Kd.string.C w A L.length L) (hv : Lib.validD v.data.toList = true) (hL : (L.any fun s => !commentB s) = true) (hf : Fits v) (hF : ∀ s ∈ L, Fits s) (hG : Glob w) :
    Calls Tryd.prog 11 #[.agg #[.string v, .slice A L.length c]] w fun e w' => e = .returned (.tuple #[.slice none 0 0, .int .i64 12]) ∧ Below w.heap.size w w' := by
  have hV := fun W h => Tryd.utf8_ValidString v W hf h
  rw [hv] at hV
  have hC := fun W h1 h2 => has35 A c L 36 #[] eg36 Fits (fun s => !commentB s) W h1 hF h2
  rw [hL] at hC
  have HG := Lib.hid hG
  have HR := Lib.hid hr
  clear hv hf hG hL hF hr
  go_enter Tryd.func11, Tryd.ntmps11
  go_wp2_with (first | (go_at_call 34; refine (hV _ (HG.out.below (below_alloc (Below.refl _ _) _)).out).mono ?_; rintro e w1 ⟨rfl, hb⟩; have h0 : w1.cell? ⟨w.heap.size, 1, none⟩ = some (.slice A L.length c) := by (rw [hb.cell (by simp)]; simp)) | (go_at_call 35; have hb1 := Lib.hid (bt (below_alloc (Below.refl _ _) _) hb); clear hb; refine (hC _ (Kd.C_below HR.out hb1.out) (fun W x hD hb2 => write36 x W hD (HG.out.below (bt hb1.out hb2)))).mono ?_; rintro e w2 ⟨rfl, hb2⟩))
  go_ret2
  exact ⟨rfl, bt hb1.out hb2⟩
end Go.Proofs.YtbjdipbhclihfaaDoor
