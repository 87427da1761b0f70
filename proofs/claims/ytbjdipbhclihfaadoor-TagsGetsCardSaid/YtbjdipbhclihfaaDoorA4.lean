import Derived.Test.YtbjdipbhclihfaaDoorA3
set_option linter.unusedVariables false
namespace Go.Proofs.YtbjdipbhclihfaaDoor
open Go.RowKit Go.Proofs Go.Proofs.YtbjdipbhclihfaaDoorW.PrintWords
def outside (f t x : Int) : Bool := decide (x < f) || decide (t < x)
theorem letters76 (x f t : Int) (a b : Nat) (w : World) (ha : w.cell? ⟨a, 0, none⟩ = some (.int .u8 f)) (hb : w.cell? ⟨b, 0, none⟩ = some (.int .u8 t)) :
    Calls Tryd.prog 76 #[.int .u8 x, .pointer (some ⟨a, 0, none⟩), .pointer (some ⟨b, 0, none⟩)] w fun e w' => e = .returned (.bool (outside f t x)) ∧ Below w.heap.size w w' := by
  by_cases h : x < f
  · have hf : outside f t x = true := by simp [outside, h]
    have HF := Lib.hid hf
    clear hf
    go_enter Tryd.func76, Tryd.ntmps76
    go_wp2
    go_ret
    rw [HF.out]
    exact ⟨rfl, Below.refl _ _⟩
  · have hf : outside f t x = decide (t < x) := by simp [outside, h]
    have HF := Lib.hid hf
    clear hf
    go_enter Tryd.func76, Tryd.ntmps76
    go_wp2
    go_ret
    rw [HF.out]
    exact ⟨rfl, Below.refl _ _⟩
theorem eg76 : ∀ args w, (callFunc 76 args).run Tryd.prog w = .ok (.enter 76 args) w := enters_of Tryd.func76 (by kernel_rfl) rfl
/-- What is known of '[]byte(s)', at any world. -/
theorem bytes_conv (s : ByteArray) (hs : s.size ≤ 9223372036854775807) (W : World) : ∃ A c w1, (convert 9 27 (.string s)).run Tryd.prog W = .ok (.slice A (bytesOf s).length c) w1 ∧ (Kd.int .u8).C w1 A (bytesOf s).length (bytesOf s) ∧ (bytesOf s).length ≤ c ∧ Below W.heap.size W w1 ∧ w1.heap.size = W.heap.size + 1 := by
  refine ⟨some ⟨W.heap.size, 0, none⟩, grownCap W s.size 0 5, Lib.bytesWorld W 5 s, ?_, ?_, ?_, bytes_below (Below.refl _ _) (Nat.le_refl _) 5 s, Lib.bytesWorld_size W 5 s⟩
  · rw [bytesOf_length]
    exact print_bytes 9 27 5 Tryd.underlying9 Tryd.underlying27 Tryd.underlying5 s W
  · rw [bytesOf_length]
    exact Kd.C_of_reads (d := (0 : Int)) (h1 := fun _ => rfl) (bytes_reads W 5 s hs)
  · rw [bytesOf_length]
    simp [grownCap, Question.cut]
set_option maxRecDepth 100000 in
theorem letters51 (s : ByteArray) (f t : Int) (w : World) (hs : s.size ≤ 9223372036854775807) :
    Calls Tryd.prog 51 #[.string s, .int .u8 f, .int .u8 t] w fun e w' => e = .returned (.bool (!(bytesOf s).any (outside f t))) ∧ Below w.heap.size w w' := by
  obtain ⟨A, c, w1, hcv, hC, _, hb1, hz1⟩ := bytes_conv s hs ((w.alloc (.cells #[.int .u8 f] 5)).alloc (.cells #[.int .u8 t] 5))
  have HC := Lib.hid hC
  have HB := Lib.hid hb1
  have HZ := Lib.hid hz1
  clear hs hC hb1 hz1
  go_enter Tryd.func51, Tryd.ntmps51
  have HP : Hid (PredG 76 #[.pointer (some ⟨w.heap.size, 0, none⟩), .pointer (some ⟨w.heap.size + 1, 0, none⟩)] (Value.int .u8) (fun _ => True) (outside f t) w1) := by
    apply Lib.hid
    intro W x _ hb
    have h0 : W.cell? ⟨w.heap.size, 0, none⟩ = some (.int .u8 f) := by
      rw [hb.cell (by rw [HZ.out]; simp; omega), HB.out.cell (by simp; omega)]
      simp
    have h1 : W.cell? ⟨w.heap.size + 1, 0, none⟩ = some (.int .u8 t) := by
      rw [hb.cell (by rw [HZ.out]; simp), HB.out.cell (by simp)]
      simp
    exact letters76 x f t _ _ W h0 h1
  go_wp2_with (fail)
  refine (has75 _ _ (bytesOf s) 76 _ eg76 (fun _ => True) (outside f t) _ HC.out (fun _ _ => trivial) HP.out).mono ?_
  rintro e w' ⟨rfl, hb⟩
  go_wp2
  go_ret
  refine ⟨rfl, ?_⟩
  exact bt (bt (below_alloc (below_alloc (Below.refl _ _) _) _) HB.out) hb
end Go.Proofs.YtbjdipbhclihfaaDoor
