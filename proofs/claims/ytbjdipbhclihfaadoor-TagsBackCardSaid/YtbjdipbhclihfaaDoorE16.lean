import Derived.Test.YtbjdipbhclihfaaDoorE15
set_option linter.unusedVariables false
set_option linter.unusedSimpArgs false
namespace Go.Proofs.YtbjdipbhclihfaaDoor
open Go.RowKit Go.Proofs Go.Proofs.YtbjdipbhclihfaaDoorW.PrintWords Plain
/-! Read of Write, and Write of Read: plain. -/
theorem rd4_0 (a b c d : Int) (r : List Int) : rd (a :: b :: c :: d :: r) 0 = a := rfl
theorem rd4_1 (a b c d : Int) (r : List Int) : rd (a :: b :: c :: d :: r) 1 = b := rfl
theorem rd4_2 (a b c d : Int) (r : List Int) : rd (a :: b :: c :: d :: r) 2 = c := rfl
theorem rd4_3 (a b c d : Int) (r : List Int) : rd (a :: b :: c :: d :: r) 3 = d := rfl
theorem len4 {bs : List Int} (h : 4 ≤ bs.length) : ∃ a b c d r, bs = a :: b :: c :: d :: r := by
  match bs, h with
  | a :: b :: c :: d :: r, _ => exact ⟨a, b, c, d, r, rfl⟩
theorem le4_low4 {n : Int} (h0 : 0 ≤ n) (h1 : n ≤ 4294967295) (r : List Int) : le4 (low4 n ++ r) = n := by
  show le4 (_ :: _ :: _ :: _ :: r) = n
  unfold le4
  rw [rd4_0, rd4_1, rd4_2, rd4_3]
  omega
theorem be4_big4 {n : Int} (h0 : 0 ≤ n) (h1 : n ≤ 4294967295) (r : List Int) : be4 (big4 n ++ r) = n := by
  show be4 (_ :: _ :: _ :: _ :: r) = n
  unfold be4
  rw [rd4_0, rd4_1, rd4_2, rd4_3]
  omega
theorem low4_le4 {bs : List Int} (h : ByteL bs) (h4 : 4 ≤ bs.length) : bs = low4 (le4 bs) ++ bs.drop 4 := by
  obtain ⟨a, b, c, d, r, rfl⟩ := len4 h4
  have ha := h a (by simp)
  have hb := h b (by simp)
  have hc := h c (by simp)
  have hd := h d (by simp)
  unfold le4 low4
  rw [rd4_0, rd4_1, rd4_2, rd4_3]
  simp only [List.cons_append, List.nil_append, List.drop_succ_cons, List.drop_zero, List.cons.injEq, and_true]
  omega
theorem big4_be4 {bs : List Int} (h : ByteL bs) (h4 : 4 ≤ bs.length) : bs = big4 (be4 bs) ++ bs.drop 4 := by
  obtain ⟨a, b, c, d, r, rfl⟩ := len4 h4
  have ha := h a (by simp)
  have hb := h b (by simp)
  have hc := h c (by simp)
  have hd := h d (by simp)
  unfold be4 big4
  rw [rd4_0, rd4_1, rd4_2, rd4_3]
  simp only [List.cons_append, List.nil_append, List.drop_succ_cons, List.drop_zero, List.cons.injEq, and_true]
  omega
theorem drop4_low (n : Int) (r : List Int) : (low4 n ++ r).drop 4 = r := rfl
theorem drop4_big (n : Int) (r : List Int) : (big4 n ++ r).drop 4 = r := rfl
theorem str_back (s : ByteArray) : strOfNums (bytesOf s) = s := by
  have : (strOfNums (bytesOf s)).data.toList = s.data.toList := by
    rw [strOfNums_data]
    unfold bytesOf
    rw [List.map_map]
    conv => rhs; rw [← List.map_id s.data.toList]
    apply List.map_congr_left
    intro x hx
    simp [Function.comp]
  cases s with | mk d => 
  cases h : strOfNums (bytesOf ⟨d⟩) with | mk d' =>
  rw [h] at this
  congr 1
  exact Array.toList_inj.1 this
theorem bytesOf_byte (s : ByteArray) : ByteL (bytesOf s) := by
  intro x hx
  unfold bytesOf at hx
  obtain ⟨b, _, rfl⟩ := List.mem_map.1 hx
  have := b.toNat_lt
  omega
theorem ptxt_enc (s : ByteArray) (r : List Int) (hs : s.size ≤ 4294967295) : ptxt (low4 s.size ++ bytesOf s ++ r) = some (s, r) := by
  have hl : (bytesOf s).length = s.size := bytesOf_length s
  rw [List.append_assoc]
  unfold ptxt
  rw [le4_low4 (by omega) (by omega), drop4_low]
  rw [if_neg (by simp [low4_len]), if_neg (by simp only [List.length_append, low4_len, hl]; omega), Int.toNat_natCast, List.take_left' hl, List.drop_left' hl, str_back]
theorem ptxts_enc : ∀ (L : List ByteArray) (r : List Int), (∀ s ∈ L, s.size ≤ 4294967295) → ptxts L.length ((L.map fun s => low4 s.size ++ bytesOf s).flatten ++ r) = some (L, r)
  | [], r, _ => rfl
  | s :: L, r, h => by
    simp only [List.map_cons, List.flatten_cons, List.length_cons, List.append_assoc]
    unfold ptxts
    have h1 := ptxt_enc s ((L.map fun s => low4 s.size ++ bytesOf s).flatten ++ r) (h s (by simp))
    simp only [List.append_assoc] at h1
    rw [h1]
    simp only [Option.bind_some]
    rw [ptxts_enc L r (fun s hs => h s (by simp [hs]))]
    rfl
/-- Read of Write is the comments. -/
theorem read_write {v : ByteArray} {L : List ByteArray} (hw : writeOk v L = true) (hv : v.size ≤ 4294967295) (hn : L.length ≤ 4294967295) (hL : ∀ s ∈ L, s.size ≤ 4294967295) : readB (commentsBytes v L) = (v, L, 0) := by
  have h1 : ptxt (commentsBytes v L) = some (v, low4 L.length ++ (L.map fun s => low4 s.size ++ bytesOf s).flatten) := by
    unfold commentsBytes
    rw [List.append_assoc (low4 v.size ++ bytesOf v)]
    exact ptxt_enc v _ hv
  rw [readG _ _ _ h1 (by simp [low4_len]), le4_low4 (by omega) (by omega), drop4_low, Int.toNat_natCast]
  have h2 := ptxts_enc L [] hL
  rw [List.append_nil] at h2
  rw [h2]
  simp [hw]
theorem ptxt_dec {bs : List Int} (hb : ByteL bs) {s : ByteArray} {r : List Int} (h : ptxt bs = some (s, r)) : bs = low4 s.size ++ bytesOf s ++ r ∧ ByteL r := by
  obtain ⟨h1, h2, h3, h4, h5⟩ := ptxt_size hb h
  have hr := le4_range hb
  refine ⟨?_, h2⟩
  unfold ptxt at h
  rw [if_neg (by omega), if_neg (by omega)] at h
  simp only [Option.some.injEq, Prod.mk.injEq] at h
  obtain ⟨e1, e2⟩ := h
  have hsz : (s.size : Int) = le4 bs := by
    rw [← e1, strOfNums_size]
    simp only [List.length_take, List.length_drop]
    omega
  rw [hsz, ← e1, ← e2, bytes_back ((hb.drop 4).take _), List.append_assoc, List.take_append_drop]
  exact low4_le4 hb h3
theorem ptxts_dec : ∀ (n : Nat) (bs : List Int), ByteL bs → ∀ (L : List ByteArray) (q : List Int), ptxts n bs = some (L, q) → bs = (L.map fun s => low4 s.size ++ bytesOf s).flatten ++ q ∧ L.length = n
  | 0, bs, hb, L, q, h => by
    simp only [ptxts, Option.some.injEq, Prod.mk.injEq] at h
    obtain ⟨rfl, rfl⟩ := h
    exact ⟨by simp, rfl⟩
  | n + 1, bs, hb, L, q, h => by
    unfold ptxts at h
    obtain ⟨⟨s, r⟩, h1, h2⟩ := Option.bind_eq_some_iff.1 h
    obtain ⟨⟨L', q'⟩, h3, h4⟩ := Option.map_eq_some_iff.1 h2
    simp only [Prod.mk.injEq] at h4
    obtain ⟨rfl, rfl⟩ := h4
    obtain ⟨e1, hr⟩ := ptxt_dec hb h1
    obtain ⟨e2, e3⟩ := ptxts_dec n r hr L' q' h3
    refine ⟨?_, by simp [e3]⟩
    simp only [List.map_cons, List.flatten_cons, List.append_assoc]
    rw [List.append_assoc] at e1
    rw [← e2]
    exact e1
/-- Write of Read is the bytes. -/
theorem write_read {bs : List Int} (hb : ByteL bs) (h : (readB bs).2.2 = 0) : writeOk (readB bs).1 (readB bs).2.1 = true ∧ commentsBytes (readB bs).1 (readB bs).2.1 = bs := by
  cases h1 : ptxt bs with
  | none => rw [readF bs (.inl h1)] at h; cases h
  | some x =>
    obtain ⟨v, r⟩ := x
    obtain ⟨e1, hr⟩ := ptxt_dec hb h1
    by_cases h4 : r.length < 4
    · rw [readF bs (.inr ⟨v, r, h1, h4⟩)] at h; cases h
    · rw [readG bs v r h1 h4] at h ⊢
      have hm := le4_range hr
      cases h2 : ptxts (le4 r).toNat (r.drop 4) with
      | none => rw [h2] at h; cases h
      | some x =>
        obtain ⟨L, q⟩ := x
        obtain ⟨e2, e3⟩ := ptxts_dec _ _ (hr.drop 4) L q h2
        rw [h2] at h
        simp only at h ⊢
        by_cases hq : q.length = 0
        · rw [if_pos hq] at h ⊢
          by_cases hw : writeOk v L = true
          · rw [if_pos hw]
            refine ⟨hw, ?_⟩
            obtain rfl : q = [] := List.length_eq_zero_iff.1 hq
            rw [List.append_nil] at e2
            unfold commentsBytes
            simp only
            rw [← e2, show (L.length : Int) = le4 r by omega, List.append_assoc (low4 v.size ++ bytesOf v), ← low4_le4 hr (by omega), ← e1]
          · rw [if_neg hw] at h; cases h
        · rw [if_neg hq] at h; cases h
end Go.Proofs.YtbjdipbhclihfaaDoor
