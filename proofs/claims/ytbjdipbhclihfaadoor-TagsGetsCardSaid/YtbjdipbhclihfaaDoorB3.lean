import Derived.Test.YtbjdipbhclihfaaDoorB2
set_option linter.unusedVariables false
set_option linter.unusedSimpArgs false
namespace Go.Proofs.YtbjdipbhclihfaaDoor.Plain
open Go.RowKit Go.Proofs.YtbjdipbhclihfaaDoorW.PrintWords Go.Proofs.YtbjdipbhclihfaaDoorW.PrintMore PTagsGets
theorem map_ascii : ∀ l : List UInt8, (∀ b ∈ l, b.toNat < 128) → (Lib.mapD smallF l).map (fun b => (b.toNat : Int)) = l.map foldN
  | [], _ => by simp [Lib.mapD, Lib.mapGoD]
  | b :: t, h => by
    have hb : b.toNat < 128 := h b (by simp)
    rw [Lib.mapD_step _ _ (by simp), Lib.decodeL_ascii b t hb]
    simp only [List.drop_succ_cons, List.drop_zero, List.map_append, List.map_cons]
    have ih := map_ascii t (fun x hx => h x (by simp [hx]))
    rw [ih]
    have hs : 0 ≤ smallF (b.toNat : Int) ∧ smallF (b.toNat : Int) ≤ 127 ∧ smallF (b.toNat : Int) = foldN b := by
      unfold smallF foldN
      split
      · rw [if_pos (by omega)]; omega
      · rw [if_neg (by omega)]; omega
    obtain ⟨h0, h1, h2⟩ := hs
    rw [if_pos h0, Lib.encodeRune, Lib.encodeRuneZ, if_pos ⟨h0, h1⟩, h2]
    rw [h2] at h0 h1
    simp only [List.map_cons, List.map_nil, List.singleton_append, List.cons.injEq, and_true]
    have : (foldN b).toNat.toUInt8.toNat = (foldN b).toNat := by
      rw [UInt8.toNat_ofNat']
      omega
    rw [this]
    omega
theorem map_inj_toNat : ∀ l m : List UInt8, l.map (fun b => (b.toNat : Int)) = m.map (fun b => (b.toNat : Int)) → l = m
  | [], [], _ => rfl
  | [], _ :: _, h => by simp at h
  | _ :: _, [], h => by simp at h
  | a :: l, b :: m, h => by
    simp only [List.map_cons, List.cons.injEq] at h
    have e : a = b := UInt8.toNat_inj.1 (Int.ofNat_inj.1 h.1)
    rw [e, map_inj_toNat l m h.2]
def Asc7 (s : ByteArray) : Prop := ∀ b ∈ s.data.toList, b.toNat < 128
theorem small_same (a b : ByteArray) (ha : Asc7 a) (hb : Asc7 b) : (smallB a = smallB b) = (sameB a b = true) := by
  have ea := map_ascii a.data.toList ha
  have eb := map_ascii b.data.toList hb
  unfold smallB sameB
  apply propext
  constructor
  · intro h
    have h' : Lib.mapD smallF a.data.toList = Lib.mapD smallF b.data.toList := by
      have := congrArg (fun x : ByteArray => x.data.toList) h
      simpa using this
    exact decide_eq_true (by rw [← ea, ← eb, h'])
  · intro h
    have h := of_decide_eq_true h
    rw [← ea, ← eb] at h
    rw [map_inj_toNat _ _ h]
def wantF (nm : ByteArray) (s : ByteArray) : Option ByteArray := if 0 ≤ comF s ∧ sameB (s.extract 0 (comF s).toNat) nm = true then some (s.extract ((comF s).toNat + 1) s.size) else none
theorem com_some (s : ByteArray) (h : commentB s = true) : 0 ≤ comF s ∧ comF s < s.size ∧ cutB s 61 = (s.extract 0 (comF s).toNat, s.extract ((comF s).toNat + 1) s.size, true) ∧ Asc7 (s.extract 0 (comF s).toNat) := by
  rcases split_at 61 s.data.toList with hs | ⟨p, r, hs, hp⟩
  · rw [comB_none s hs] at h; cases h
  · have hi := ib_app 61 p r hp
    rw [← hs] at hi
    have hc : comF s = p.length := by unfold comF; rw [if_pos h, hi]
    have hl := congrArg List.length hs
    rw [data_length, List.length_append, List.length_cons] at hl
    rw [comB_app s p r hs hp] at h
    refine ⟨by omega, by omega, ?_, ?_⟩
    · unfold cutB
      rw [hi, if_neg (by omega), hc]
    · unfold Asc7
      rw [ext0, hc, hs]
      intro b hb
      simp only [Int.toNat_natCast, List.take_left'] at hb
      simp only [Bool.and_eq_true, List.all_eq_true] at h
      have := of_decide_eq_true (h.1.2 b hb)
      omega
theorem want_get (nm s : ByteArray) (h : commentB s = true) (hn : Asc7 nm) : getF nm s = wantF nm s := by
  obtain ⟨h0, h1, hc, ha⟩ := com_some s h
  unfold getF wantF
  rw [hc]
  simp only [true_and, h0]
  simp only [small_same _ _ ha hn]
theorem want_all (nm : ByteArray) (L : List ByteArray) (h : ∀ s ∈ L, commentB s = true) (hn : Asc7 nm) : getB nm L = L.filterMap (wantF nm) := by
  unfold getB
  induction L with
  | nil => rfl
  | cons s L ih =>
    rw [List.filterMap_cons, List.filterMap_cons, want_get nm s (h s (by simp)) hn, ih (fun x hx => h x (by simp [hx]))]
end Go.Proofs.YtbjdipbhclihfaaDoor.Plain
