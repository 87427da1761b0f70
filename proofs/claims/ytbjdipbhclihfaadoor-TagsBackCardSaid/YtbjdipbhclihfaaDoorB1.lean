import Derived.Test.YtbjdipbhclihfaaDoorPTagsGetsx4
import Derived.Lib.ValidLaws
import Derived.Lib.MapLaws
import Derived.IntWalk
set_option linter.unusedVariables false
set_option linter.unusedSimpArgs false
set_option linter.unusedSectionVars false
namespace Go.Proofs.YtbjdipbhclihfaaDoor.Plain
open Go.RowKit Go.Proofs.YtbjdipbhclihfaaDoorW.PrintWords Go.Proofs.YtbjdipbhclihfaaDoorW.PrintMore PTagsGets
theorem bt_list (s : ByteArray) (i : Int) : bt s i = ((s.data.toList.getD i.toNat 0).toNat : Int) := by
  unfold bt
  split
  · rename_i h
    have : s.data.toList[i.toNat]? = some s[i.toNat] := by
      rw [Array.getElem?_toList]
      exact Array.getElem?_eq_getElem h
    rw [List.getD_eq_getElem?_getD, this]
    rfl
  · rename_i h
    have : s.data.toList[i.toNat]? = none := by
      rw [List.getElem?_eq_none_iff]
      simp only [Array.length_toList]
      exact Nat.not_lt.1 h
    rw [List.getD_eq_getElem?_getD, this]
    rfl
section
variable (s : ByteArray) (i : Nat) (k : Nat) (hs : s.size ≤ 1099511627776) (hi : i < s.size)
include hs hi
theorem T1 (h : bt s i < 128) : jetsamref13_Text.l0 (k + 5) s i = jetsamref13_Text.l0 k s ((i + 1 : Nat) : Int) := by
  have hr := bt_range s i
  have h1 : (i : Int) < s.size := by omega
  generalize hx : bt s i = x at *
  rw [show ((i + 1 : Nat) : Int) = (i : Int) + 1 by omega]
  simp (disch := omega) only [jetsamref13_Text.l0, jetsamref13_Text.j3, jetsamref13_Text.j4, jetsamref13_Text.j5, jetsamref13_Text.l1, hx, ↓if_pos, ↓if_neg, IntWalk.wrap64_in, decide_eq_true_eq]
theorem T2 (h : 194 ≤ bt s i) (h' : bt s i < 224) : jetsamref13_Text.l0 (k + 7) s i = if ((i : Int) + 2 > s.size) then some false else if bt s (i + 1) < 128 then some false else if bt s (i + 1) > 191 then some false else jetsamref13_Text.l0 k s ((i + 2 : Nat) : Int) := by
  have hr := bt_range s i
  have h1 : (i : Int) < s.size := by omega
  have hr2 := bt_range s (i + 1)
  have hsh : shr .i64 128 2 = 32 := by decide
  rw [show ((i + 2 : Nat) : Int) = (i : Int) + 2 by omega]
  generalize hx : bt s i = x at *
  have hd : decide (x < 224) = true := decide_eq_true h'
  have htm : Int.tmod x 32 = x % 32 := Int.tmod_eq_emod_of_nonneg (by omega)
  rw [jetsamref13_Text.l0, if_pos h1, if_pos (by omega), hx, if_neg (by omega), if_pos (by omega), hd, jetsamref13_Text.j1, if_pos rfl, jetsamref13_Text.j3, if_neg (by omega), IntWalk.wrap64_in _ (by omega), jetsamref13_Text.j4]
  by_cases c1 : (i : Int) + 2 > s.size
  · rw [if_pos c1, if_pos (decide_eq_true c1)]
  · rw [if_neg c1, if_neg (by simpa using c1), if_pos (by omega), if_pos (by omega), hsh, if_neg (by omega), IntWalk.wrap64_in _ (by omega), htm, jetsamref13_Text.j5, jetsamref13_Text.l1, if_pos (by omega), IntWalk.wrap64_in (i + 1) (by omega), if_pos (by omega), if_pos (by omega)]
    generalize hy : bt s (i + 1) = y at *
    by_cases c2 : y < 128
    · rw [if_pos c2, if_pos c2]
    · rw [if_neg c2, if_neg c2]
      by_cases c3 : y > 191
      · rw [if_pos c3, if_pos c3]
      · rw [if_neg c3, if_neg c3]
        simp (disch := omega) only [IntWalk.wrap64_in]
        rw [jetsamref13_Text.l1, if_neg (by omega), if_neg (by omega), if_neg (by omega), if_neg (by omega), IntWalk.wrap64_in _ (by omega)]
theorem T3 (h : 224 ≤ bt s i) (h' : bt s i < 240) : jetsamref13_Text.l0 (k + 9) s i = if ((i : Int) + 3 > s.size) then some false else if bt s (i + 1) < 128 then some false else if bt s (i + 1) > 191 then some false else if bt s (i + 2) < 128 then some false else if bt s (i + 2) > 191 then some false else
    if 64 * (64 * (bt s i % 16) + bt s (i + 1) - 128) + bt s (i + 2) - 128 < 2048 then some false else if 64 * (64 * (bt s i % 16) + bt s (i + 1) - 128) + bt s (i + 2) - 128 ≥ 55296 then (if 64 * (64 * (bt s i % 16) + bt s (i + 1) - 128) + bt s (i + 2) - 128 ≤ 57343 then some false else jetsamref13_Text.l0 k s ((i + 3 : Nat) : Int)) else jetsamref13_Text.l0 k s ((i + 3 : Nat) : Int) := by
  have hr := bt_range s i
  have h1 : (i : Int) < s.size := by omega
  have hr2 := bt_range s (i + 1)
  have hr3 := bt_range s (i + 2)
  have hsh : shr .i64 128 3 = 16 := by decide
  rw [show ((i + 3 : Nat) : Int) = (i : Int) + 3 by omega]
  generalize hx : bt s i = x at *
  have hd1 : decide (x < 224) = false := decide_eq_false (by omega)
  have hd : decide (x < 240) = true := decide_eq_true h'
  have htm : Int.tmod x 16 = x % 16 := Int.tmod_eq_emod_of_nonneg (by omega)
  rw [jetsamref13_Text.l0, if_pos h1, if_pos (by omega), hx, if_neg (by omega), if_pos (by omega), hd1, jetsamref13_Text.j1, if_neg (by decide), if_pos (by omega), hd, jetsamref13_Text.j2, if_pos rfl, jetsamref13_Text.j3, if_neg (by omega), IntWalk.wrap64_in _ (by omega), jetsamref13_Text.j4]
  by_cases c1 : (i : Int) + 3 > s.size
  · rw [if_pos c1, if_pos (decide_eq_true c1)]
  · rw [if_neg c1, if_neg (by simpa using c1), if_pos (by omega), if_pos (by omega), hsh, if_neg (by omega), IntWalk.wrap64_in _ (by omega), htm, jetsamref13_Text.j5, jetsamref13_Text.l1, if_pos (by omega), IntWalk.wrap64_in (i + 1) (by omega), if_pos (by omega), if_pos (by omega)]
    generalize hy : bt s (i + 1) = y at *
    by_cases c2 : y < 128
    · rw [if_pos c2, if_pos c2]
    · rw [if_neg c2, if_neg c2]
      by_cases c3 : y > 191
      · rw [if_pos c3, if_pos c3]
      · rw [if_neg c3, if_neg c3]
        simp (disch := omega) only [IntWalk.wrap64_in, show (1 : Int) + 1 = 2 from rfl]
        rw [jetsamref13_Text.l1, if_pos (by omega), IntWalk.wrap64_in (i + 2) (by omega), if_pos (by omega), if_pos (by omega)]
        generalize hz : bt s (i + 2) = z at *
        by_cases c4 : z < 128
        · rw [if_pos c4, if_pos c4]
        · rw [if_neg c4, if_neg c4]
          by_cases c5 : z > 191
          · rw [if_pos c5, if_pos c5]
          · rw [if_neg c5, if_neg c5]
            simp (disch := omega) only [IntWalk.wrap64_in, show (2 : Int) + 1 = 3 from rfl]
            rw [jetsamref13_Text.l1, if_neg (by omega), IntWalk.wrap64_in _ (by omega), if_neg (show ¬ 64 * (64 * (x % 16) + y - 128) + z - 128 > 1114111 by omega)]
theorem T4 (h : 240 ≤ bt s i) (h' : bt s i < 245) : jetsamref13_Text.l0 (k + 10) s i = if ((i : Int) + 4 > s.size) then some false else if bt s (i + 1) < 128 then some false else if bt s (i + 1) > 191 then some false else if bt s (i + 2) < 128 then some false else if bt s (i + 2) > 191 then some false else if bt s (i + 3) < 128 then some false else if bt s (i + 3) > 191 then some false else
    if 64 * (64 * (64 * (bt s i % 8) + bt s (i + 1) - 128) + bt s (i + 2) - 128) + bt s (i + 3) - 128 < 65536 then some false else if 64 * (64 * (64 * (bt s i % 8) + bt s (i + 1) - 128) + bt s (i + 2) - 128) + bt s (i + 3) - 128 > 1114111 then some false else jetsamref13_Text.l0 k s ((i + 4 : Nat) : Int) := by
  have hr := bt_range s i
  have h1 : (i : Int) < s.size := by omega
  have hr2 := bt_range s (i + 1)
  have hr3 := bt_range s (i + 2)
  have hr4 := bt_range s (i + 3)
  have hsh : shr .i64 128 4 = 8 := by decide
  rw [show ((i + 4 : Nat) : Int) = (i : Int) + 4 by omega]
  generalize hx : bt s i = x at *
  have hd1 : decide (x < 224) = false := decide_eq_false (by omega)
  have hd : decide (x < 240) = false := decide_eq_false (by omega)
  have htm : Int.tmod x 8 = x % 8 := Int.tmod_eq_emod_of_nonneg (by omega)
  rw [jetsamref13_Text.l0, if_pos h1, if_pos (by omega), hx, if_neg (by omega), if_pos (by omega), hd1, jetsamref13_Text.j1, if_neg (by decide), if_pos (by omega), hd, jetsamref13_Text.j2, if_neg (by decide), if_pos (by omega), if_pos (by omega), jetsamref13_Text.j3, if_neg (by omega), IntWalk.wrap64_in _ (by omega), jetsamref13_Text.j4]
  by_cases c1 : (i : Int) + 4 > s.size
  · rw [if_pos c1, if_pos (decide_eq_true c1)]
  · rw [if_neg c1, if_neg (by simpa using c1), if_pos (by omega), if_pos (by omega), hsh, if_neg (by omega), IntWalk.wrap64_in _ (by omega), htm, jetsamref13_Text.j5, jetsamref13_Text.l1, if_pos (by omega), IntWalk.wrap64_in (i + 1) (by omega), if_pos (by omega), if_pos (by omega)]
    generalize hy : bt s (i + 1) = y at *
    by_cases c2 : y < 128
    · rw [if_pos c2, if_pos c2]
    · rw [if_neg c2, if_neg c2]
      by_cases c3 : y > 191
      · rw [if_pos c3, if_pos c3]
      · rw [if_neg c3, if_neg c3]
        simp (disch := omega) only [IntWalk.wrap64_in, show (1 : Int) + 1 = 2 from rfl]
        rw [jetsamref13_Text.l1, if_pos (by omega), IntWalk.wrap64_in (i + 2) (by omega), if_pos (by omega), if_pos (by omega)]
        generalize hz : bt s (i + 2) = z at *
        by_cases c4 : z < 128
        · rw [if_pos c4, if_pos c4]
        · rw [if_neg c4, if_neg c4]
          by_cases c5 : z > 191
          · rw [if_pos c5, if_pos c5]
          · rw [if_neg c5, if_neg c5]
            simp (disch := omega) only [IntWalk.wrap64_in, show (2 : Int) + 1 = 3 from rfl]
            rw [jetsamref13_Text.l1, if_pos (by omega), IntWalk.wrap64_in (i + 3) (by omega), if_pos (by omega), if_pos (by omega)]
            generalize hu : bt s (i + 3) = u at *
            by_cases c6 : u < 128
            · rw [if_pos c6, if_pos c6]
            · rw [if_neg c6, if_neg c6]
              by_cases c7 : u > 191
              · rw [if_pos c7, if_pos c7]
              · rw [if_neg c7, if_neg c7]
                simp (disch := omega) only [IntWalk.wrap64_in, show (3 : Int) + 1 = 4 from rfl]
                rw [jetsamref13_Text.l1, if_neg (by omega), IntWalk.wrap64_in _ (by omega)]
                by_cases c8 : 64 * (64 * (64 * (x % 8) + y - 128) + z - 128) + u - 128 < 65536
                · rw [if_pos c8, if_pos c8]
                · rw [if_neg c8, if_neg c8]
                  by_cases c9 : 64 * (64 * (64 * (x % 8) + y - 128) + z - 128) + u - 128 > 1114111
                  · rw [if_pos c9, if_pos c9]
                  · rw [if_neg c9, if_neg c9, if_pos (by omega), if_neg (by omega)]
theorem T0 (h : (128 ≤ bt s i ∧ bt s i < 194) ∨ 245 ≤ bt s i) : jetsamref13_Text.l0 (k + 5) s i = some false := by
  have hr := bt_range s i
  have h1 : (i : Int) < s.size := by omega
  generalize hx : bt s i = x at *
  rw [jetsamref13_Text.l0, if_pos h1, if_pos (by omega), hx, if_neg (by omega)]
  rcases h with h | h
  · rw [if_neg (by omega), jetsamref13_Text.j1, if_neg (by decide), if_neg (by omega), jetsamref13_Text.j2, if_neg (by decide), if_neg (by omega), jetsamref13_Text.j3, if_pos rfl, jetsamref13_Text.j4, if_pos rfl]
  · rw [if_pos (by omega), show decide (x < 224) = false from decide_eq_false (by omega), jetsamref13_Text.j1, if_neg (by decide), if_pos (by omega), show decide (x < 240) = false from decide_eq_false (by omega), jetsamref13_Text.j2, if_neg (by decide), if_pos (by omega), if_neg (by omega), jetsamref13_Text.j3, if_pos rfl, jetsamref13_Text.j4, if_pos rfl]
end
set_option maxHeartbeats 4000000 in
set_option maxRecDepth 100000 in
/-- The loop's answer: the rest is valid UTF-8. -/
theorem text_from (s : ByteArray) (hs : s.size ≤ 1099511627776) : ∀ (n i : Nat), i ≤ s.size → s.size - i ≤ n → Ev (fun k => jetsamref13_Text.l0 k s i) (Lib.validD (s.data.toList.drop i))
  | 0, i, hi, hn => by
    obtain rfl : i = s.size := by omega
    refine ⟨1, fun k hk => ?_⟩
    obtain ⟨m, rfl⟩ : ∃ m, k = m + 1 := ⟨k - 1, by omega⟩
    show jetsamref13_Text.l0 (m + 1) s _ = _
    rw [jetsamref13_Text.l0, if_neg (by omega), List.drop_of_length_le (by rw [Array.length_toList]; exact Nat.le_refl _)]
    rfl
  | n + 1, i, hi, hn => by
    rcases Nat.lt_or_ge i s.size with hlt | hge
    case inr => exact text_from s hs n i hi (by omega)
    have hmono : ∀ k, LeO (jetsamref13_Text.l0 k s i) (jetsamref13_Text.l0 (k + 1) s i) := fun k => (jetsamref13_Text.mono_l k).1 _ _
    have hne : s.data.toList.drop i ≠ [] := by
      intro h
      have h := congrArg List.length h
      simp only [List.length_drop, Array.length_toList, List.length_nil] at h
      have : s.data.size = s.size := rfl
      omega
    have hlen : (s.data.toList.drop i).length = s.size - i := by rw [List.length_drop, Array.length_toList]; rfl
    have hg : ∀ j : Nat, bt s ((i : Int) + j) = (((s.data.toList.drop i).getD j 0).toNat : Int) := by
      intro j
      rw [bt_list, List.getD_eq_getElem?_getD, List.getD_eq_getElem?_getD, List.getElem?_drop, show ((i : Int) + j).toNat = i + j by omega]
    have g0 : bt s i = (((s.data.toList.drop i).getD 0 0).toNat : Int) := by simpa using hg 0
    have g1 : bt s (i + 1) = (((s.data.toList.drop i).getD 1 0).toNat : Int) := by simpa using hg 1
    have g2 : bt s (i + 2) = (((s.data.toList.drop i).getD 2 0).toNat : Int) := by simpa using hg 2
    have g3 : bt s (i + 3) = (((s.data.toList.drop i).getD 3 0).toNat : Int) := by simpa using hg 3
    rw [Lib.validD_step _ hne, Lib.decodeL_N, hlen]
    have k0 := ((s.data.toList.drop i).getD 0 0).toNat_lt
    have k1 := ((s.data.toList.drop i).getD 1 0).toNat_lt
    have k2 := ((s.data.toList.drop i).getD 2 0).toNat_lt
    have k3 := ((s.data.toList.drop i).getD 3 0).toNat_lt
    have hstep : ∀ c, 0 < c → i + c ≤ s.size → Ev (fun k => jetsamref13_Text.l0 k s ((i + c : Nat) : Int)) (Lib.validD ((s.data.toList.drop i).drop c)) := by
      intro c hc hle
      rw [List.drop_drop]
      exact text_from s hs n (i + c) hle (by omega)
    generalize s.data.toList.drop i = l at *
    generalize (l.getD 0 0).toNat = b0 at *
    generalize (l.getD 1 0).toNat = b1 at *
    generalize (l.getD 2 0).toNat = b2 at *
    generalize (l.getD 3 0).toNat = b3 at *
    have hE : Lib.decodeN (s.size - i) b0 b1 b2 b3 = (65533, 1) → ∀ j, jetsamref13_Text.l0 j s i = some false → Ev (fun k => jetsamref13_Text.l0 k s i) (if (Lib.decodeN (s.size - i) b0 b1 b2 b3).1 = 65533 ∧ (Lib.decodeN (s.size - i) b0 b1 b2 b3).2 = 1 then false else Lib.validD (l.drop (Lib.decodeN (s.size - i) b0 b1 b2 b3).2)) := by
      intro hd j hj
      rw [hd, if_pos ⟨rfl, rfl⟩]
      exact Ev.of hmono hj
    have hY : ∀ v c m, 0 < c → i + c ≤ s.size → (v ≠ 65533 ∨ c ≠ 1) → Lib.decodeN (s.size - i) b0 b1 b2 b3 = (v, c) → (∀ k, jetsamref13_Text.l0 (k + m) s i = jetsamref13_Text.l0 k s ((i + c : Nat) : Int)) → Ev (fun k => jetsamref13_Text.l0 k s i) (if (Lib.decodeN (s.size - i) b0 b1 b2 b3).1 = 65533 ∧ (Lib.decodeN (s.size - i) b0 b1 b2 b3).2 = 1 then false else Lib.validD (l.drop (Lib.decodeN (s.size - i) b0 b1 b2 b3).2)) := by
      intro v c m hc hle hv hd hk
      rw [hd, if_neg (by simp only []; omega)]
      obtain ⟨K, hK⟩ := hstep c hc hle
      exact Ev.of hmono (k := K + m) (by rw [hk]; exact hK K (Nat.le_refl _))
    clear hstep
    rcases Nat.lt_or_ge b0 128 with c | c
    · exact hY b0 1 5 (by omega) (by omega) (by omega) (by unfold Lib.decodeN; rw [if_pos c]) (fun k => T1 s i k hs hlt (by omega))
    · by_cases c' : b0 < 194 ∨ 245 ≤ b0
      · exact hE (Lib.decodeN_bad _ _ _ _ _ (by omega)) 5 (T0 s i 0 hs hlt (by omega))
      · by_cases d2 : b0 < 224
        · have hT := fun k => T2 s i k hs hlt (by omega) (by omega)
          rw [g1] at hT
          by_cases e : (i : Int) + 2 > s.size ∨ (b1 : Int) < 128 ∨ (b1 : Int) > 191
          · refine hE (by unfold Lib.decodeN; (repeat' split); all_goals first | (exfalso; omega) | rfl) (0 + 7) ?_
            rw [hT]
            repeat' split
            all_goals first | rfl | (exfalso; omega)
          · refine hY (b0 % 32 * 64 + b1 % 64) 2 7 (by omega) (by omega) (by omega) (by unfold Lib.decodeN; (repeat' split); all_goals first | (exfalso; omega) | rfl) (fun k => ?_)
            rw [hT, if_neg (by omega), if_neg (by omega), if_neg (by omega)]
        · by_cases d3 : b0 < 240
          · have hT := fun k => T3 s i k hs hlt (by omega) (by omega)
            rw [g0, g1, g2] at hT
            by_cases e : (i : Int) + 3 > s.size ∨ (b1 : Int) < 128 ∨ (b1 : Int) > 191 ∨ (b2 : Int) < 128 ∨ (b2 : Int) > 191 ∨ b0 % 16 * 4096 + b1 % 64 * 64 + b2 % 64 < 2048 ∨ (55296 ≤ b0 % 16 * 4096 + b1 % 64 * 64 + b2 % 64 ∧ b0 % 16 * 4096 + b1 % 64 * 64 + b2 % 64 ≤ 57343)
            · refine hE (by unfold Lib.decodeN; (repeat' split); all_goals first | (exfalso; omega) | rfl) (0 + 9) ?_
              rw [hT]
              repeat' split
              all_goals first | rfl | (exfalso; omega)
            · refine hY (b0 % 16 * 4096 + b1 % 64 * 64 + b2 % 64) 3 9 (by omega) (by omega) (by omega) (by unfold Lib.decodeN; (repeat' split); all_goals first | (exfalso; omega) | rfl) (fun k => ?_)
              rw [hT, if_neg (by omega), if_neg (by omega), if_neg (by omega), if_neg (by omega), if_neg (by omega), if_neg (by omega)]
              split
              · rw [if_neg (by omega)]
              · rfl
          · have hT := fun k => T4 s i k hs hlt (by omega) (by omega)
            rw [g0, g1, g2, g3] at hT
            by_cases e : (i : Int) + 4 > s.size ∨ (b1 : Int) < 128 ∨ (b1 : Int) > 191 ∨ (b2 : Int) < 128 ∨ (b2 : Int) > 191 ∨ (b3 : Int) < 128 ∨ (b3 : Int) > 191 ∨ b0 % 8 * 262144 + b1 % 64 * 4096 + b2 % 64 * 64 + b3 % 64 < 65536 ∨ 1114111 < b0 % 8 * 262144 + b1 % 64 * 4096 + b2 % 64 * 64 + b3 % 64
            · refine hE (by unfold Lib.decodeN; (repeat' split); all_goals first | (exfalso; omega) | rfl) (0 + 10) ?_
              rw [hT]
              repeat' split
              all_goals first | rfl | (exfalso; omega)
            · refine hY (b0 % 8 * 262144 + b1 % 64 * 4096 + b2 % 64 * 64 + b3 % 64) 4 10 (by omega) (by omega) (by omega) (by unfold Lib.decodeN; (repeat' split); all_goals first | (exfalso; omega) | rfl) (fun k => ?_)
              rw [hT, if_neg (by omega), if_neg (by omega), if_neg (by omega), if_neg (by omega), if_neg (by omega), if_neg (by omega), if_neg (by omega), if_neg (by omega), if_neg (by omega)]
theorem text_ev (s : ByteArray) (hs : s.size ≤ 1099511627776) : Ev (fun k => jetsamref13_Text.f k s) (Lib.validD s.data.toList) := by
  have h := text_from s hs s.size 0 (Nat.zero_le _) (by omega)
  show Ev (fun k => jetsamref13_Text.l0 k s 0) _
  simpa using h
end Go.Proofs.YtbjdipbhclihfaaDoor.Plain
