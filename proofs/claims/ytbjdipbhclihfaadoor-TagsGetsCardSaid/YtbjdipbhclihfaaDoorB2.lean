import Derived.Test.YtbjdipbhclihfaaDoorB1
import Derived.Test.YtbjdipbhclihfaaDoorPTagsGetsx5
import Derived.Test.YtbjdipbhclihfaaDoorPTagsGetsx3
import Derived.Test.YtbjdipbhclihfaaDoorPTagsGetsx1
import Derived.Test.YtbjdipbhclihfaaDoorA15
set_option linter.unusedVariables false
set_option linter.unusedSimpArgs false
namespace Go.Proofs.YtbjdipbhclihfaaDoor.Plain
open Go.RowKit Go.Proofs.YtbjdipbhclihfaaDoorW.PrintWords Go.Proofs.YtbjdipbhclihfaaDoorW.PrintMore PTagsGets
theorem ib_none (c : UInt8) : ∀ l : List UInt8, c ∉ l → Lib.indexByte l c = -1
  | [], _ => rfl
  | b :: l, h => by
    have hb : ¬ b = c := fun e => h (by simp [e])
    have hl : c ∉ l := fun e => h (by simp [e])
    simp [Lib.indexByte, hb, ib_none c l hl]
theorem ib_app (c : UInt8) : ∀ (p r : List UInt8), c ∉ p → Lib.indexByte (p ++ c :: r) c = p.length
  | [], r, _ => by simp [Lib.indexByte]
  | b :: p, r, h => by
    have hb : ¬ b = c := fun e => h (by simp [e])
    have hl : c ∉ p := fun e => h (by simp [e])
    have hn : ¬ ((p.length : Int) = -1) := by omega
    simp [Lib.indexByte, hb, ib_app c p r hl, hn]
theorem split_at (c : UInt8) : ∀ l : List UInt8, c ∉ l ∨ ∃ p r, l = p ++ c :: r ∧ c ∉ p
  | [] => .inl (by simp)
  | b :: l => by
    by_cases hb : b = c
    · exact .inr ⟨[], l, by simp [hb], by simp⟩
    · rcases split_at c l with h | ⟨p, r, rfl, hp⟩
      · exact .inl (by simp [h, Ne.symm hb])
      · exact .inr ⟨b :: p, r, by simp, by simp [hp, Ne.symm hb]⟩
theorem ext0 (s : ByteArray) (i : Nat) : (s.extract 0 i).data.toList = s.data.toList.take i := by rw [Lib.extract_data]; simp
theorem comB_none (s : ByteArray) (h : (61 : UInt8) ∉ s.data.toList) : commentB s = false := by
  unfold commentB cutB
  rw [if_pos (ib_none 61 _ h)]
  rfl
theorem comB_app (s : ByteArray) (p r : List UInt8) (h : s.data.toList = p ++ 61 :: r) (hp : (61 : UInt8) ∉ p) : commentB s = (!p.isEmpty && p.all (fun b => decide (32 ≤ b.toNat ∧ b.toNat ≤ 125)) && Lib.validD s.data.toList) := by
  have hi := ib_app 61 p r hp
  rw [← h] at hi
  unfold commentB cutB
  rw [if_neg (by omega), hi]
  have he : (s.extract 0 ((p.length : Nat) : Int).toNat).data.toList = p := by rw [ext0, h]; simp
  have he' : (s.extract 0 ((p.length : Nat) : Int).toNat).toList = p := by rw [ByteArray.toList_eq, he]
  simp only [he', bytesOf, he, Bool.true_and]
  congr 2
  rw [List.any_map, Bool.eq_iff_iff]
  simp [outside]
  exact ⟨fun h x hx => by have := h x hx; omega, fun h x hx => by have := h x hx; omega⟩
def comF (s : ByteArray) : Int := if commentB s = true then Lib.indexByte s.data.toList 61 else -1
theorem bt_nat (s : ByteArray) (i : Nat) (b : UInt8) (h : s.data.toList[i]? = some b) : YtbjdipbhclihfaaDoorW.PrintWords.bt s i = (b.toNat : Int) := by
  rw [bt_list, List.getD_eq_getElem?_getD, show ((i : Int)).toNat = i by omega, h]
  rfl
theorem comment_from (s : ByteArray) (hs : s.size ≤ 1099511627776) : ∀ (n i : Nat), i ≤ s.size → s.size - i ≤ n → (∀ b ∈ s.data.toList.take i, b ≠ 61 ∧ 32 ≤ b.toNat ∧ b.toNat ≤ 125) → Ev (fun k => jetsamref13_Comment.l0 k s i) (comF s)
  | 0, i, hi, hn, ht => by
    obtain rfl : i = s.size := by omega
    refine ⟨1, fun k hk => ?_⟩
    obtain ⟨m, rfl⟩ : ∃ m, k = m + 1 := ⟨k - 1, by omega⟩
    show jetsamref13_Comment.l0 (m + 1) s _ = _
    rw [List.take_of_length_le (by rw [Array.length_toList]; exact Nat.le_refl _)] at ht
    rw [jetsamref13_Comment.l0, if_neg (by omega), comF, comB_none s (fun h => (ht _ h).1 rfl)]
    rfl
  | n + 1, i, hi, hn, ht => by
    rcases Nat.lt_or_ge i s.size with hlt | hge
    case inr => exact comment_from s hs n i hi (by omega) ht
    have hmono : ∀ k, LeO (jetsamref13_Comment.l0 k s i) (jetsamref13_Comment.l0 (k + 1) s i) := fun k => (jetsamref13_Comment.mono_l k).1 _ _
    have h1 : (i : Int) < s.size := by omega
    have hl : i < s.data.toList.length := by rw [Array.length_toList]; exact hlt
    obtain ⟨b, hb⟩ : ∃ b, s.data.toList[i]? = some b := ⟨_, List.getElem?_eq_getElem hl⟩
    have hbt := bt_nat s i b hb
    have hsp : s.data.toList = s.data.toList.take i ++ b :: s.data.toList.drop (i + 1) := by
      have e := (List.take_append_drop i s.data.toList).symm
      rw [List.drop_eq_getElem_cons hl, (List.getElem?_eq_some_iff.1 hb).2] at e
      exact e
    have hpl : (s.data.toList.take i).length = i := by rw [List.length_take]; omega
    by_cases hq : b = 61
    · subst hq
      have hnp : (61 : UInt8) ∉ s.data.toList.take i := fun h => (ht _ h).1 rfl
      have hcb := comB_app s _ _ hsp hnp
      have hix := ib_app 61 _ (s.data.toList.drop (i + 1)) hnp
      rw [← hsp, hpl] at hix
      have hall : (s.data.toList.take i).all (fun b => decide (32 ≤ b.toNat ∧ b.toNat ≤ 125)) = true := by
        rw [List.all_eq_true]
        intro x hx
        exact decide_eq_true (ht x hx).2
      rw [hall] at hcb
      by_cases h0 : i = 0
      · subst h0
        refine Ev.of hmono (k := 0 + 2) ?_
        rw [jetsamref13_Comment.l0, if_pos h1, if_pos (by omega), if_pos (by rw [hbt]; rfl), if_pos (by omega), jetsamref13_Comment.j1, if_pos rfl, comF, hcb]
        rfl
      · obtain ⟨K, hK⟩ := text_ev s hs
        have hK1 : jetsamref13_Text.f (K + 1) s = some (Lib.validD s.data.toList) := hK (K + 1) (by omega)
        refine Ev.of hmono (k := (K + 1) + 1) ?_
        rw [jetsamref13_Comment.l0, if_pos h1, if_pos (by omega), if_pos (by rw [hbt]; rfl), if_neg (by omega), hK1, Option.bind_some, jetsamref13_Comment.j1, comF, hcb, hix]
        have : (s.data.toList.take i).isEmpty = false := by
          rw [List.isEmpty_eq_false_iff]
          intro e
          rw [e] at hpl
          simp at hpl
          omega
        rw [this]
        cases Lib.validD s.data.toList <;> rfl
    · have hne : ¬ ((b.toNat : Int) = 61) := by
        intro e
        exact hq (UInt8.toNat_inj.1 (by simpa using Int.ofNat_inj.1 e))
      by_cases hr : 32 ≤ b.toNat ∧ b.toNat ≤ 125
      · obtain ⟨K, hK⟩ := comment_from s hs n (i + 1) hlt (by omega) (by
          intro x hx
          rw [List.take_succ_eq_append_getElem hl, (List.getElem?_eq_some_iff.1 hb).2] at hx
          rcases List.mem_append.1 hx with h | h
          · exact ht x h
          · rw [List.mem_singleton.1 h]
            exact ⟨hq, hr⟩)
        refine Ev.of hmono (k := K + 1) ?_
        rw [jetsamref13_Comment.l0, if_pos h1, if_pos (by omega), hbt, if_neg hne, if_neg (by omega), if_neg (by omega), IntWalk.wrap64_in _ (by omega)]
        exact hK K (Nat.le_refl _)
      · have hcf : comF s = -1 := by
          unfold comF
          rcases split_at 61 s.data.toList with h | ⟨p, r, h, hp⟩
          · rw [comB_none s h]; rfl
          · rw [comB_app s p r h hp]
            have hbp : b ∈ p := by
              rcases Nat.lt_or_ge i p.length with hip | hip
              · rw [h, List.getElem?_append_left hip] at hb
                exact List.mem_of_getElem? hb
              · exfalso
                rcases Nat.eq_or_lt_of_le hip with e | e
                · rw [h, ← e, List.getElem?_append_right (Nat.le_refl _)] at hb
                  simp at hb
                  exact hq hb.symm
                · have h61 : (61 : UInt8) ∈ s.data.toList.take i := by
                    rw [h, List.take_append, List.mem_append]
                    right
                    obtain ⟨m, hm⟩ : ∃ m, i - p.length = m + 1 := ⟨i - p.length - 1, by omega⟩
                    rw [hm]
                    simp
                  exact (ht _ h61).1 rfl
            have hf : p.all (fun b => decide (32 ≤ b.toNat ∧ b.toNat ≤ 125)) = false := by
              rw [List.all_eq_false]
              exact ⟨b, hbp, by simpa using hr⟩
            rw [hf]
            simp
        rw [hcf]
        refine Ev.of hmono (k := 0 + 1) ?_
        rw [jetsamref13_Comment.l0, if_pos h1, if_pos (by omega), hbt, if_neg hne]
        split
        · rfl
        · rw [if_pos (by omega)]
theorem comment_ev (s : ByteArray) (hs : s.size ≤ 1099511627776) : Ev (fun k => jetsamref13_Comment.f k s) (comF s) := by
  have h := comment_from s hs s.size 0 (Nat.zero_le _) (by omega) (by simp)
  exact h
/-! few, texts, same -/
def fewB (v : ByteArray) (L : List ByteArray) : Bool := L.all (fun s => decide (s.size ≤ 200)) && decide (L.length ≤ 20) && decide (v.size ≤ 200)
theorem rdOf_at {α : Type} (d : α) (L : List α) (i : Nat) (h : i < L.length) : rdOf d L (i : Int) = L[i] := by
  unfold rdOf
  rw [List.getD_eq_getElem?_getD, show ((i : Int)).toNat = i by omega, List.getElem?_eq_getElem h]
  rfl
theorem few_from (v : ByteArray) (L : List ByteArray) (hL : L.length ≤ 9223372036854775807) : ∀ (n i : Nat), i ≤ L.length → L.length - i ≤ n → Ev (fun k => jetsamlaw13_few.l0 k i v L) ((L.drop i).all (fun s => decide (s.size ≤ 200)) && decide (L.length ≤ 20) && decide (v.size ≤ 200))
  | 0, i, hi, hn => by
    obtain rfl : i = L.length := by omega
    refine ⟨1, fun k hk => ?_⟩
    obtain ⟨m, rfl⟩ : ∃ m, k = m + 1 := ⟨k - 1, by omega⟩
    show jetsamlaw13_few.l0 (m + 1) _ v L = _
    rw [jetsamlaw13_few.l0, if_neg (by omega), List.drop_of_length_le (Nat.le_refl _)]
    by_cases h : L.length ≤ 20
    · rw [if_pos (by omega), decide_eq_true h]
      have : decide ((v.size : Int) ≤ 200) = decide (v.size ≤ 200) := by rw [Bool.eq_iff_iff]; simp; omega
      rw [this]
      simp
    · rw [if_neg (by omega), decide_eq_false h]
      simp
  | n + 1, i, hi, hn => by
    rcases Nat.lt_or_ge i L.length with hlt | hge
    case inr => exact few_from v L hL n i hi (by omega)
    have hmono : ∀ k, LeO (jetsamlaw13_few.l0 k i v L) (jetsamlaw13_few.l0 (k + 1) i v L) := fun k => jetsamlaw13_few.mono_l k _ _ _
    have hrd := rdOf_at ByteArray.empty L i hlt
    have hd : L.drop i = L[i] :: L.drop (i + 1) := List.drop_eq_getElem_cons hlt
    rw [hd]
    have ih := few_from v L hL n (i + 1) hlt (by omega)
    generalize L.drop (i + 1) = tl at *
    clear hd
    by_cases h : (L[i].size : Int) > 200
    · refine Ev.of hmono (k := 0 + 1) ?_
      rw [jetsamlaw13_few.l0, if_pos (by omega), if_pos (by omega), hrd, if_pos h]
      have : ¬ L[i].size ≤ 200 := by omega
      simp [this]
    · obtain ⟨K, hK⟩ := ih
      refine Ev.of hmono (k := K + 1) ?_
      rw [jetsamlaw13_few.l0, if_pos (by omega), if_pos (by omega), hrd, if_neg h, IntWalk.wrap64_in _ (by omega)]
      have h' : L[i].size ≤ 200 := by omega
      have := hK K (Nat.le_refl _)
      simpa [h'] using this
theorem few_ev (v : ByteArray) (L : List ByteArray) (hL : L.length ≤ 9223372036854775807) : Ev (fun k => jetsamlaw13_few.f k v L) (fewB v L) := by
  have h := few_from v L hL L.length 0 (Nat.zero_le _) (by omega)
  exact h
theorem texts_from (L M : List ByteArray) (hL : L.length ≤ 9223372036854775807) (hM : L.length = M.length) : ∀ (n i : Nat), i ≤ L.length → L.length - i ≤ n → Ev (fun k => jetsamlaw13_texts.l0 k L M i) (decide (L.drop i = M.drop i))
  | 0, i, hi, hn => by
    obtain rfl : i = L.length := by omega
    refine ⟨1, fun k hk => ?_⟩
    obtain ⟨m, rfl⟩ : ∃ m, k = m + 1 := ⟨k - 1, by omega⟩
    show jetsamlaw13_texts.l0 (m + 1) L M _ = _
    rw [jetsamlaw13_texts.l0, if_neg (by omega), List.drop_of_length_le (Nat.le_refl _), List.drop_of_length_le (by omega)]
    rfl
  | n + 1, i, hi, hn => by
    rcases Nat.lt_or_ge i L.length with hlt | hge
    case inr => exact texts_from L M hL hM n i hi (by omega)
    have hmono : ∀ k, LeO (jetsamlaw13_texts.l0 k L M i) (jetsamlaw13_texts.l0 (k + 1) L M i) := fun k => jetsamlaw13_texts.mono_l k _ _ _
    have hltM : i < M.length := by omega
    have hrd := rdOf_at ByteArray.empty L i hlt
    have hrdM := rdOf_at ByteArray.empty M i hltM
    rw [List.drop_eq_getElem_cons hlt, List.drop_eq_getElem_cons hltM]
    have ih := texts_from L M hL hM n (i + 1) hlt (by omega)
    generalize L.drop (i + 1) = tl at *
    generalize M.drop (i + 1) = tm at *
    by_cases h : L[i] = M[i]
    · obtain ⟨K, hK⟩ := ih
      refine Ev.of hmono (k := K + 1) ?_
      rw [jetsamlaw13_texts.l0, if_pos (by omega), if_pos (by omega), if_pos (by omega), hrd, hrdM, if_pos (by rw [h]), IntWalk.wrap64_in _ (by omega)]
      have := hK K (Nat.le_refl _)
      simpa [h] using this
    · refine Ev.of hmono (k := 0 + 1) ?_
      rw [jetsamlaw13_texts.l0, if_pos (by omega), if_pos (by omega), if_pos (by omega), hrd, hrdM, if_neg (by have := str_ne h; simpa using this)]
      simp [h]
theorem texts_ev (L M : List ByteArray) (hL : L.length ≤ 9223372036854775807) : Ev (fun k => jetsamlaw13_texts.f k L M) (decide (L = M)) := by
  unfold jetsamlaw13_texts.f
  by_cases h : L.length = M.length
  · have hh : (L.length : Int) = (M.length : Int) := by omega
    simp only [hh, if_true]
    exact texts_from L M hL h L.length 0 (Nat.zero_le _) (by omega)
  · have hh : ¬ (L.length : Int) = (M.length : Int) := by omega
    simp only [hh, if_false]
    have : ¬ L = M := fun e => h (by rw [e])
    rw [decide_eq_false this]
    exact ⟨0, fun _ _ => rfl⟩
def foldN (b : UInt8) : Int := if 65 ≤ b.toNat ∧ b.toNat ≤ 90 then b.toNat + 32 else b.toNat
def sameB (a b : ByteArray) : Bool := decide (a.data.toList.map foldN = b.data.toList.map foldN)
theorem fold_f (b : UInt8) : jetsamlaw13_fold.f (b.toNat : Int) = some (foldN b) := by
  unfold jetsamlaw13_fold.f foldN
  have := b.toNat_lt
  by_cases h : 65 ≤ b.toNat
  · by_cases h' : b.toNat ≤ 90
    · rw [if_pos (by omega), if_pos (by omega), if_pos ⟨h, h'⟩]
      congr 1
      omega
    · rw [if_pos (by omega), if_neg (by omega), if_neg (by omega)]
  · rw [if_neg (by omega), if_neg (by omega)]
theorem same_from (a b : ByteArray) (ha : a.size ≤ 1099511627776) (hab : a.size = b.size) : ∀ (n i : Nat), i ≤ a.size → a.size - i ≤ n → Ev (fun k => jetsamlaw13_same.l0 k a b i) (decide ((a.data.toList.drop i).map foldN = (b.data.toList.drop i).map foldN))
  | 0, i, hi, hn => by
    obtain rfl : i = a.size := by omega
    refine ⟨1, fun k hk => ?_⟩
    obtain ⟨m, rfl⟩ : ∃ m, k = m + 1 := ⟨k - 1, by omega⟩
    show jetsamlaw13_same.l0 (m + 1) a b _ = _
    rw [jetsamlaw13_same.l0, if_neg (by omega), List.drop_of_length_le (by rw [data_length]; exact Nat.le_refl _), List.drop_of_length_le (by rw [data_length]; omega)]
    rfl
  | n + 1, i, hi, hn => by
    rcases Nat.lt_or_ge i a.size with hlt | hge
    case inr => exact same_from a b ha hab n i hi (by omega)
    have hmono : ∀ k, LeO (jetsamlaw13_same.l0 k a b i) (jetsamlaw13_same.l0 (k + 1) a b i) := fun k => jetsamlaw13_same.mono_l k _ _ _
    have hla : i < a.data.toList.length := by rw [data_length]; exact hlt
    have hlb : i < b.data.toList.length := by rw [data_length]; omega
    have hba := bt_nat a i _ (List.getElem?_eq_getElem hla)
    have hbb := bt_nat b i _ (List.getElem?_eq_getElem hlb)
    rw [List.drop_eq_getElem_cons hla, List.drop_eq_getElem_cons hlb]
    generalize a.data.toList[i] = x at *
    generalize b.data.toList[i] = y at *
    by_cases h : foldN x = foldN y
    · obtain ⟨K, hK⟩ := same_from a b ha hab n (i + 1) hlt (by omega)
      refine Ev.of hmono (k := K + 1) ?_
      rw [jetsamlaw13_same.l0, if_pos (by omega), if_pos (by omega), hba, fold_f, Option.bind_some, if_pos (by omega), hbb, fold_f, Option.bind_some, if_pos h, IntWalk.wrap64_in _ (by omega)]
      have := hK K (Nat.le_refl _)
      simpa [h] using this
    · refine Ev.of hmono (k := 0 + 1) ?_
      rw [jetsamlaw13_same.l0, if_pos (by omega), if_pos (by omega), hba, fold_f, Option.bind_some, if_pos (by omega), hbb, fold_f, Option.bind_some, if_neg h]
      simp [h]
theorem same_ev (a b : ByteArray) (ha : a.size ≤ 1099511627776) : Ev (fun k => jetsamlaw13_same.f k a b) (sameB a b) := by
  unfold jetsamlaw13_same.f
  by_cases h : a.size = b.size
  · have hh : (a.size : Int) = (b.size : Int) := by omega
    simp only [hh, if_true]
    exact same_from a b ha h a.size 0 (Nat.zero_le _) (by omega)
  · have hh : ¬ (a.size : Int) = (b.size : Int) := by omega
    simp only [hh, if_false]
    have : ¬ a.data.toList.map foldN = b.data.toList.map foldN := fun e => h (by have := congrArg List.length e; simpa [data_length] using this)
    rw [sameB, decide_eq_false this]
    exact ⟨0, fun _ _ => rfl⟩
end Go.Proofs.YtbjdipbhclihfaaDoor.Plain
