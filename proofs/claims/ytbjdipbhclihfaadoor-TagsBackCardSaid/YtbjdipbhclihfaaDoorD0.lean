import Derived.Test.YtbjdipbhclihfaaDoorCards
import Derived.Test.YtbjdipbhclihfaaDoorTie
import Derived.Test.YtbjdipbhclihfaaDoorM3
import Derived.ProofKit
import Derived.OpenShut
import Derived.Carry
import Derived.SliceStrings
import Derived.Deep.DeepHandedRow
import Derived.Deep.DeepWitnessRowRef
import Derived.Lib.LaidTab
import Derived.Lib.LaidU8
set_option linter.unusedVariables false
namespace Go.Proofs.YtbjdipbhclihfaaDoor
open Go.ChangeShapes Go.WideShapes Go.ChangeAt Go.RowKit Go.Proofs Go.Proofs.YtbjdipbhclihfaaDoorW.PrintWords

theorem own : ownKnob Tryd.prog.godebug = none := by kernel_rfl
theorem laidOut : laidOutB Tryd.prog = true := by kernel_rfl
theorem cells9 : Tryd.prog.cellsOf 9 = 1 := by kernel_rfl
theorem cells5 : Tryd.prog.cellsOf 5 = 1 := by kernel_rfl
theorem cells22 : Tryd.prog.cellsOf 22 = 1 := by kernel_rfl
theorem cells24 : Tryd.prog.cellsOf 24 = 2 := by kernel_rfl
theorem C_cells {β : Type} {d : Kd β} (hsz : d.sz = 1) {W : World} {a : Addr} (ps : List β) (hn : ps.length ≤ 9223372036854775807)
    (h : ∀ (j : Nat) p, ps[j]? = some p → ∃ u, W.cell? (a.add j) = some u ∧ d.K W p [u]) : d.C W (some a) ps.length ps := by
  refine ⟨rfl, hn, fun _ => ⟨_, rfl, fun j p hj => ?_⟩⟩
  obtain ⟨u, hu, hk⟩ := h j p hj
  refine ⟨[u], by rw [hsz]; rfl, hk, fun i v hv => ?_⟩
  match i, hv with
  | 0, hv =>
    simp at hv
    subst hv
    rw [hsz]
    simpa using hu
section
variable {H : Type} {enc : TypeId × Value → H} {W : World}
/-- A []string that came in, nil or not. -/
theorem open_strs {a0 : Option Addr} {len cap fuel : Nat} {x : DataW H × List MemPlace} (hf : DataW.trod enc Tryd.prog W 0 (fun _ => true) true fuel 22 [.slice a0 len cap] = some x) :
    ∃ L : List ByteArray, L.length = len ∧ len ≤ cap ∧ Kd.string.C W a0 len L ∧ (∀ s ∈ L, s.size ≤ maxLen) := by
  rcases open_strings Tryd.underlying22 Tryd.underlying9 cells9 hf with ⟨hcs, hx⟩ | ⟨a, len', cap', ss, hcs, _, hl, hm, hz, hx, hcell, hsz⟩
  · simp at hcs
    obtain ⟨rfl, rfl, rfl⟩ := hcs
    refine ⟨[], rfl, Nat.le_refl _, ?_, by simp⟩
    exact (Kd.R_reads (Kd.R_nil Kd.string 9 W 0 (fun _ => True))).elim fun A h => h.elim fun c h => by
      obtain ⟨he, _, hC⟩ := h
      injection he with h1 h2 h3
      subst h1
      exact hC
  · simp at hcs
    obtain ⟨rfl, rfl, rfl⟩ := hcs
    simp only [if_true] at hz
    have hlen : (ss.take len).length = len := by simp; omega
    refine ⟨ss.take len, hlen, hl, ?_, fun s hs => hsz s (List.mem_of_mem_take hs)⟩
    have hC := C_cells (d := Kd.string) rfl (W := W) (a := a) (ss.take len) (by rw [hlen]; unfold maxLen at hm; omega) (fun j p hj => by
      have hj' : j < len := by
        have := (List.getElem?_eq_some_iff.1 hj).1
        omega
      refine ⟨_, hcell j (by omega), ?_⟩
      rw [List.getElem?_take_of_lt hj'] at hj
      have : ss.getD j ByteArray.empty = p := by simp [List.getD, hj]
      rw [this]
      rfl)
    rw [hlen] at hC
    exact hC
set_option maxRecDepth 100000 in
/-- Comments that came in. -/
theorem open_com {r : Reach} {b0 : Nat} {v : Value} {d : DataW H} {ps : List MemPlace} (hval : Value.okWide Tryd.prog W r b0 24 v) (hd : DataW.Trod enc Tryd.prog W 0 (fun _ => true) true 24 v d ps) :
    ∃ (s : ByteArray) (A : Option Addr) (c : Nat) (L : List ByteArray), v = .agg #[.string s, .slice A L.length c] ∧ L.length ≤ c ∧ Kd.string.C W A L.length L ∧ s.size ≤ maxLen ∧ (∀ s ∈ L, s.size ≤ maxLen) := by
  obtain ⟨cs, rfl, hcs⟩ := okWide_struct Tryd.underlying24 hval
  obtain ⟨fuel, hf⟩ := hd
  obtain ⟨y0, y1, n, hx, hl, h0, h1⟩ := trod_struct2 Tryd.underlying24 hf
  rw [cells24] at hcs
  match cs, hcs with
  | ⟨[a, b]⟩, _ =>
    change DataW.trod enc Tryd.prog W 0 (fun _ => true) true n 9 (List.take (Tryd.prog.cellsOf 9) [a, b]) = some y0 at h0
    change DataW.trod enc Tryd.prog W 0 (fun _ => true) true n 22 (List.take (Tryd.prog.cellsOf 22) [b]) = some y1 at h1
    rw [cells9] at h0
    rw [cells22] at h1
    obtain ⟨s, hs, _, hm⟩ := DataW.trod_string Tryd.underlying9 h0
    simp at hs
    subst hs
    simp only [List.take_succ_cons, List.take_zero] at h1
    rcases DataW.trod_slice Tryd.underlying22 h1 with ⟨hb, _⟩ | ⟨a', len, cap, _, _, _, _, hb, _⟩
    · simp at hb
      subst hb
      obtain ⟨L, hL, hc, hC, hz⟩ := open_strs h1
      exact ⟨s, none, 0, L, by rw [hL], by omega, by rw [hL]; exact hC, hm, hz⟩
    · simp at hb
      subst hb
      obtain ⟨L, hL, hc, hC, hz⟩ := open_strs h1
      exact ⟨s, some a', cap, L, by rw [hL], by omega, by rw [hL]; exact hC, hm, hz⟩
set_option maxRecDepth 100000 in
/-- A []byte that came in, nil or not. -/
theorem open_bytes {r : Reach} {b0 : Nat} {v : Value} {d : DataW H} {ps : List MemPlace} (hval : Value.okWide Tryd.prog W r b0 27 v) (hd : DataW.Trod enc Tryd.prog W 0 (fun _ => true) true 27 v d ps) :
    ∃ (A : Option Addr) (c : Nat) (bs : List Int), v = .slice A bs.length c ∧ bs.length ≤ c ∧ (Kd.int .u8).C W A bs.length bs ∧ Plain.ByteL bs := by
  obtain ⟨a0, len, cap, rfl⟩ := okWide_slice Tryd.underlying27 hval
  obtain ⟨fuel, hf⟩ := hd
  rcases open_ints Tryd.underlying27 Tryd.underlying5 cells5 hf with ⟨hcs, _⟩ | ⟨x, l, c, zs, hcs, _, hl, hm, hz, _, hcell, hwz⟩
  · simp [Value.cells] at hcs
    obtain ⟨rfl, rfl, rfl⟩ := hcs
    exact ⟨none, 0, [], rfl, Nat.le_refl _, C_nil8 W, by intro x hx; cases hx⟩
  · simp [Value.cells] at hcs
    obtain ⟨rfl, rfl, rfl⟩ := hcs
    have hz' : zs.length = cap := by simpa using hz
    have hlen : (zs.take len).length = len := by simp; omega
    refine ⟨some x, cap, zs.take len, by rw [hlen], by omega, ?_, ?_⟩
    · refine C_cells (d := Kd.int .u8) rfl (W := W) (a := x) (zs.take len) (by rw [hlen]; unfold maxLen at hm; omega) (fun j p hj => ?_)
      have hj' : j < len := by
        have := (List.getElem?_eq_some_iff.1 hj).1
        omega
      refine ⟨_, hcell j (by omega), ?_⟩
      rw [List.getElem?_take_of_lt hj'] at hj
      have : zs.getD j 0 = p := by simp [List.getD, hj]
      rw [this]
      rfl
    · intro y hy
      have := hwz y (List.mem_of_mem_take hy)
      have h2 : (decide (0 ≤ y) && decide (y ≤ 255)) = true := this
      simpa using h2
end
set_option maxRecDepth 100000 in
/-- What the row's list gives: the library's two tables. -/
theorem glob_of {W : World} (h : laidMetH Tryd.prog [("unicode/utf8.acceptRanges", Rows.laid_unicode_utf8_acceptRanges), ("unicode/utf8.first", Rows.laid_unicode_utf8_first)] W) : Glob W := by
  rw [MakeChecks.laidMetH_plain _ _ _ (by kernel_rfl)] at h
  have h4 : Lib.VarReads Tryd.prog W "unicode/utf8.acceptRanges" Lib.acceptData := Lib.laidMet.reads h (.head _)
  have h3 : Lib.VarReads Tryd.prog W "unicode/utf8.first" Lib.firstData := Lib.laidMet.reads h (.tail _ (.head _))
  exact ⟨utf8Tabs_of_reads { Tryd.lays230 with } ⟨by kernel_rfl, by kernel_rfl, by kernel_rfl, by kernel_rfl, by kernel_rfl, by kernel_rfl, by kernel_rfl⟩ h3 h4⟩
/-- A world for the witness. -/
noncomputable def laidWorld (os : Os) : World :=
  let w0 := World.holding Tryd.prog os ⟨#[], #[], []⟩
  let put (h : Array Obj) (g : Nat) (cs : Array Value) : Array Obj := h.modify g fun
    | .cells _ t frozen => .cells cs t frozen
    | o => o
  let h1 := put w0.heap 0 (Lib.firstTab.map fun z => Value.int .u8 z).toArray
  let h2 := put h1 1 ((List.range 16).flatMap fun i => [Value.int .u8 (Lib.accLo i), Value.int .u8 (Lib.accHi i)]).toArray
  { w0 with heap := h2 }
set_option maxRecDepth 100000 in
theorem laid_met (os : Os) (args : Array Value) : laidMet Tryd.prog [("unicode/utf8.acceptRanges", Rows.laid_unicode_utf8_acceptRanges), ("unicode/utf8.first", Rows.laid_unicode_utf8_first)] ((laidWorld os).forCall (fun _ _ => 0) ⟨#[], args, []⟩).memory :=
  laidMet_of_run' 10 (by kernel_rfl) (by kernel_rfl)
end Go.Proofs.YtbjdipbhclihfaaDoor
