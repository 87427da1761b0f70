import Derived.Test.YtbjdipbhclihfaaDoorE16
set_option linter.unusedVariables false
set_option linter.unusedSimpArgs false
namespace Go.Proofs.YtbjdipbhclihfaaDoor
open Go.RowKit Go.Proofs Go.Proofs.YtbjdipbhclihfaaDoorW.PrintWords Plain
theorem big4_len (n : Int) : (big4 n).length = 4 := rfl
theorem four_enc {n : Int} (h0 : 0 ≤ n) (h1 : n ≤ 4294967295) (r : List Int) : fourS (some (big4 n ++ r)) = some r ∧ fourV (some (big4 n ++ r)) = n := by
  constructor
  · show (if (big4 n ++ r).length < 4 then none else some ((big4 n ++ r).drop 4)) = _
    rw [if_neg (by simp [big4_len]), drop4_big]
  · show (if (big4 n ++ r).length < 4 then 0 else be4 (big4 n ++ r)) = _
    rw [if_neg (by simp [big4_len]), be4_big4 h0 h1]
theorem text_enc (xs r : List Int) (h : xs.length ≤ 4294967295) : textS (some (big4 xs.length ++ (xs ++ r))) = some r ∧ textV (some (big4 xs.length ++ (xs ++ r))) = xs := by
  have hp : ptxtB (big4 xs.length ++ (xs ++ r)) = some (xs, r) := by
    unfold ptxtB
    rw [be4_big4 (by omega) (by omega), drop4_big, if_neg (by simp [big4_len]), if_neg (by simp only [List.length_append, big4_len]; omega), Int.toNat_natCast, List.take_left' rfl, List.drop_left' rfl]
  constructor
  · show (ptxtB _).map _ = _
    rw [hp]; rfl
  · show (ptxtB _).elim _ _ = _
    rw [hp]; rfl
theorem four_dec {b r : List Int} (hb : ByteL b) (h : fourS (some b) = some r) : b = big4 (fourV (some b)) ++ r ∧ ByteL r := by
  change (if b.length < 4 then none else some (b.drop 4)) = some r at h
  by_cases h4 : b.length < 4
  · rw [if_pos h4] at h; cases h
  · rw [if_neg h4] at h
    cases h
    refine ⟨?_, hb.drop 4⟩
    show b = big4 (if b.length < 4 then 0 else be4 b) ++ _
    rw [if_neg h4]
    exact big4_be4 hb (by omega)
theorem text_dec {b r : List Int} (hb : ByteL b) (h : textS (some b) = some r) : b = big4 (textV (some b)).length ++ (textV (some b) ++ r) ∧ ByteL r ∧ ByteL (textV (some b)) := by
  change (ptxtB b).map (fun x => x.2) = some r at h
  obtain ⟨⟨t, r'⟩, hp, he⟩ := Option.map_eq_some_iff.1 h
  simp only at he
  subst he
  have hv : textV (some b) = t := by
    show (ptxtB b).elim _ _ = _
    rw [hp]; rfl
  rw [hv]
  have hr := be4_range hb
  unfold ptxtB at hp
  by_cases h4 : b.length < 4
  · rw [if_pos h4] at hp; cases hp
  · rw [if_neg h4] at hp
    by_cases h5 : (b.length : Int) < 4 + be4 b
    · rw [if_pos h5] at hp; cases hp
    · rw [if_neg h5] at hp
      simp only [Option.some.injEq, Prod.mk.injEq] at hp
      obtain ⟨e1, e2⟩ := hp
      have hl : (t.length : Int) = be4 b := by
        rw [← e1]
        simp only [List.length_take, List.length_drop]
        omega
      refine ⟨?_, e2 ▸ (hb.drop 4).drop _, e1 ▸ (hb.drop 4).take _⟩
      rw [hl, ← e1, ← e2, List.take_append_drop]
      exact big4_be4 hb (by omega)
theorem four_some {st : Option (List Int)} {r : List Int} (h : fourS st = some r) : ∃ b, st = some b := by
  cases st with
  | none => cases h
  | some b => exact ⟨b, rfl⟩
theorem text_some {st : Option (List Int)} {r : List Int} (h : textS st = some r) : ∃ b, st = some b := by
  cases st with
  | none => cases h
  | some b => exact ⟨b, rfl⟩
/-- Read of Write is the picture. -/
theorem pic_read_write {k x h d c : Int} {mime text : ByteArray} {data : List Int} (he : picErr k mime text x h d c = 0) (hm : mime.size ≤ 4294967295) (ht : text.size ≤ 4294967295) (hd : data.length ≤ 4294967295) (hD : ByteL data) :
    pErr (picBytes k mime text x h d c data) = 0 ∧ pK (picBytes k mime text x h d c data) = k ∧ pMime (picBytes k mime text x h d c data) = mime ∧ pText (picBytes k mime text x h d c data) = text ∧ pX (picBytes k mime text x h d c data) = x ∧ pH (picBytes k mime text x h d c data) = h ∧ pD (picBytes k mime text x h d c data) = d ∧ pC (picBytes k mime text x h d c data) = c ∧ pData (picBytes k mime text x h d c data) = data := by
  have hr : picRange k x h d c = true := by
    unfold picErr at he
    by_cases h1 : picForm mime text = true
    · rw [if_pos h1] at he
      by_cases h2 : picRange k x h d c = true
      · exact h2
      · rw [if_neg h2] at he; cases he
    · rw [if_neg h1] at he; cases he
  obtain ⟨a1, a2, b1, b2, c1, c2, d1, d2, e1, e2⟩ := range_nat hr
  have hb : picBytes k mime text x h d c data = big4 k ++ (big4 (bytesOf mime).length ++ (bytesOf mime ++ (big4 (bytesOf text).length ++ (bytesOf text ++ (big4 x ++ (big4 h ++ (big4 d ++ (big4 c ++ (big4 data.length ++ (data ++ [])))))))))) := by
    simp only [picBytes, bytesOf_length, List.append_assoc, List.append_nil]
  rw [hb]
  have lm := bytesOf_length mime
  have lt := bytesOf_length text
  generalize hB : big4 k ++ (big4 (bytesOf mime).length ++ (bytesOf mime ++ (big4 (bytesOf text).length ++ (bytesOf text ++ (big4 x ++ (big4 h ++ (big4 d ++ (big4 c ++ (big4 data.length ++ (data ++ [])))))))))) = B
  obtain ⟨s1, v1⟩ := four_enc a1 (by omega) (big4 (bytesOf mime).length ++ (bytesOf mime ++ (big4 (bytesOf text).length ++ (bytesOf text ++ (big4 x ++ (big4 h ++ (big4 d ++ (big4 c ++ (big4 data.length ++ (data ++ []))))))))))
  rw [hB] at s1 v1
  obtain ⟨s2, v2⟩ := text_enc (bytesOf mime) (big4 (bytesOf text).length ++ (bytesOf text ++ (big4 x ++ (big4 h ++ (big4 d ++ (big4 c ++ (big4 data.length ++ (data ++ [])))))))) (by omega)
  obtain ⟨s3, v3⟩ := text_enc (bytesOf text) (big4 x ++ (big4 h ++ (big4 d ++ (big4 c ++ (big4 data.length ++ (data ++ [])))))) (by omega)
  obtain ⟨s4, v4⟩ := four_enc b1 b2 (big4 h ++ (big4 d ++ (big4 c ++ (big4 data.length ++ (data ++ [])))))
  obtain ⟨s5, v5⟩ := four_enc c1 c2 (big4 d ++ (big4 c ++ (big4 data.length ++ (data ++ []))))
  obtain ⟨s6, v6⟩ := four_enc d1 d2 (big4 c ++ (big4 data.length ++ (data ++ [])))
  obtain ⟨s7, v7⟩ := four_enc e1 e2 (big4 data.length ++ (data ++ []))
  obtain ⟨s8, v8⟩ := text_enc data [] hd
  have t1 : st1 B = _ := s1
  have t2 : st2 B = _ := (congrArg textS t1).trans s2
  have t3 : st3 B = _ := (congrArg textS t2).trans s3
  have t4 : st4 B = _ := (congrArg fourS t3).trans s4
  have t5 : st5 B = _ := (congrArg fourS t4).trans s5
  have t6 : st6 B = _ := (congrArg fourS t5).trans s6
  have t7 : st7 B = _ := (congrArg fourS t6).trans s7
  have t8 : st8 B = _ := (congrArg textS t7).trans s8
  have p1 : pK B = k := v1
  have p2 : pMime B = mime := by show strOfNums (textV (st1 B)) = _; rw [t1, v2, str_back]
  have p3 : pText B = text := by show strOfNums (textV (st2 B)) = _; rw [t2, v3, str_back]
  have p4 : pX B = x := (congrArg fourV t3).trans v4
  have p5 : pH B = h := (congrArg fourV t4).trans v5
  have p6 : pD B = d := (congrArg fourV t5).trans v6
  have p7 : pC B = c := (congrArg fourV t6).trans v7
  have p8 : pData B = data := (congrArg textV t7).trans v8
  refine ⟨?_, p1, p2, p3, p4, p5, p6, p7, p8⟩
  unfold pErr
  rw [t8, p1, p2, p3, p4, p5, p6, p7]
  exact he
/-- Write of Read is the bytes. -/
theorem pic_write_read {bs : List Int} (hb : ByteL bs) (h : pErr bs = 0) : picErr (pK bs) (pMime bs) (pText bs) (pX bs) (pH bs) (pD bs) (pC bs) = 0 ∧ picBytes (pK bs) (pMime bs) (pText bs) (pX bs) (pH bs) (pD bs) (pC bs) (pData bs) = bs := by
  have h8 : st8 bs = some [] ∧ picErr (pK bs) (pMime bs) (pText bs) (pX bs) (pH bs) (pD bs) (pC bs) = 0 := by
    unfold pErr at h
    cases hs : st8 bs with
    | none => rw [hs] at h; cases h
    | some r =>
      rw [hs] at h
      change (if r.length = 0 then _ else _) = (0 : Int) at h
      by_cases hr : r.length = 0
      · rw [if_pos hr] at h
        exact ⟨by rw [List.length_eq_zero_iff.1 hr], h⟩
      · rw [if_neg hr] at h; cases h
  refine ⟨h8.2, ?_⟩
  obtain ⟨q7, t7⟩ := text_some (st := st7 bs) h8.1
  obtain ⟨q6, t6⟩ := four_some (st := st6 bs) t7
  obtain ⟨q5, t5⟩ := four_some (st := st5 bs) t6
  obtain ⟨q4, t4⟩ := four_some (st := st4 bs) t5
  obtain ⟨q3, t3⟩ := four_some (st := st3 bs) t4
  obtain ⟨q2, t2⟩ := text_some (st := st2 bs) t3
  obtain ⟨q1, t1⟩ := text_some (st := st1 bs) t2
  obtain ⟨e1, b1⟩ := four_dec hb t1
  obtain ⟨e2, b2, m2⟩ := text_dec b1 ((congrArg textS t1).symm.trans t2)
  obtain ⟨e3, b3, m3⟩ := text_dec b2 ((congrArg textS t2).symm.trans t3)
  obtain ⟨e4, b4⟩ := four_dec b3 ((congrArg fourS t3).symm.trans t4)
  obtain ⟨e5, b5⟩ := four_dec b4 ((congrArg fourS t4).symm.trans t5)
  obtain ⟨e6, b6⟩ := four_dec b5 ((congrArg fourS t5).symm.trans t6)
  obtain ⟨e7, b7⟩ := four_dec b6 ((congrArg fourS t6).symm.trans t7)
  obtain ⟨e8, b8, m8⟩ := text_dec b7 ((congrArg textS t7).symm.trans h8.1)
  have p2 : bytesOf (pMime bs) = textV (some q1) := by show bytesOf (strOfNums (textV (st1 bs))) = _; rw [t1, bytes_back m2]
  have p3 : bytesOf (pText bs) = textV (some q2) := by show bytesOf (strOfNums (textV (st2 bs))) = _; rw [t2, bytes_back m3]
  have p4 : pX bs = fourV (some q3) := congrArg fourV t3
  have p5 : pH bs = fourV (some q4) := congrArg fourV t4
  have p6 : pD bs = fourV (some q5) := congrArg fourV t5
  have p7 : pC bs = fourV (some q6) := congrArg fourV t6
  have p8 : pData bs = textV (some q7) := congrArg textV t7
  have l2 : ((pMime bs).size : Int) = (textV (some q1)).length := by rw [← p2, bytesOf_length]
  have l3 : ((pText bs).size : Int) = (textV (some q2)).length := by rw [← p3, bytesOf_length]
  unfold picBytes
  rw [l2, l3, p2, p3, p4, p5, p6, p7, p8]
  simp only [List.append_assoc]
  show big4 (fourV (some bs)) ++ _ = bs
  have e8' : big4 (↑(textV (some q7)).length) ++ textV (some q7) = q7 := by rw [List.append_nil] at e8; exact e8.symm
  rw [e8', ← e7, ← e6, ← e5, ← e4, ← e3, ← e2, ← e1]
end Go.Proofs.YtbjdipbhclihfaaDoor
