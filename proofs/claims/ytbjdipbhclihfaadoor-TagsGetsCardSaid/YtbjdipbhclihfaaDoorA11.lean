import Derived.Test.YtbjdipbhclihfaaDoorA10
import Derived.Test.YtbjdipbhclihfaaDoorWInvWords
import Derived.Test.YtbjdipbhclihfaaDoorWLast
import Derived.Test.YtbjdipbhclihfaaDoorWTab
set_option linter.unusedVariables false
namespace Go.Proofs.YtbjdipbhclihfaaDoor
open Go.RowKit Go.Proofs Go.Proofs.YtbjdipbhclihfaaDoorW.PrintWords Go.Proofs.YtbjdipbhclihfaaDoorW.PrintLast
theorem C_lit1 {β : Type} {d : Kd β} (hsz : d.sz = 1) {W : World} {b : Nat} {cs : Array Value} {t : TypeId} {fr : Nat × Nat} (hb : W.heap[b]? = some (.cells cs t fr)) (ps : List β) (hn : ps.length ≤ 9223372036854775807)
    (h : ∀ (j : Nat) p, ps[j]? = some p → ∃ u, cs[j]? = some u ∧ d.K W p [u]) : d.C W (some ⟨b, 0, none⟩) ps.length ps := by
  refine ⟨rfl, hn, fun _ => ⟨_, rfl, fun j p hj => ?_⟩⟩
  obtain ⟨u, hu, hk⟩ := h j p hj
  refine ⟨[u], by rw [hsz]; rfl, hk, fun i v hv => ?_⟩
  match i, hv with
  | 0, hv =>
    simp at hv
    subst hv
    rw [hsz, Nat.mul_one, Nat.add_zero, add_plain]
    simp [World.cell?, hb, hu]
/-- A slice of bytes that is read. -/
def RB (W : World) (u : Value) (xs : List Int) : Prop := ∃ A c, u = .slice A xs.length c ∧ xs.length ≤ c ∧ (Kd.int .u8).C W A xs.length xs
theorem RB.below {W W1 : World} {u : Value} {xs : List Int} (h : RB W u xs) (hb : Below W.heap.size W W1) : RB W1 u xs := by
  obtain ⟨A, c, he, hl, hC⟩ := h
  exact ⟨A, c, he, hl, Kd.C_below hC hb⟩
theorem RB.of_BYT {W : World} {base : Nat} {u : Value} {xs : List Int} (h : BYT W base u xs) : RB W u xs := by
  obtain ⟨A, c, he, hl, hC⟩ := Kd.R_reads h
  exact ⟨A, c, he, hl, hC⟩
/-- A slice of slices of bytes that is read. -/
def RR (W : World) (u : Value) (xs : List (List Int)) : Prop := ∃ A c, u = .slice A xs.length c ∧ (Kd.slice 5 (Kd.int .u8)).C W A xs.length xs
theorem RR.below {W W1 : World} {u : Value} {xs : List (List Int)} (h : RR W u xs) (hb : Below W.heap.size W W1) : RR W1 u xs := by
  obtain ⟨A, c, he, hC⟩ := h
  exact ⟨A, c, he, Kd.C_below hC hb⟩
theorem rows3 {W : World} {u1 u2 u3 : Value} {x1 x2 x3 : List Int} (h1 : RB W u1 x1) (h2 : RB W u2 x2) (h3 : RB W u3 x3) : RR (W.alloc (.cells #[u1, u2, u3] 27)) (.slice (some ⟨W.heap.size, 0, none⟩) 3 3) [x1, x2, x3] := by
  have hb : Below W.heap.size W (W.alloc (.cells #[u1, u2, u3] 27)) := below_alloc (Below.refl _ _) _
  refine ⟨_, _, rfl, C_lit1 rfl (blk_new W _) [x1, x2, x3] (by show 3 ≤ 9223372036854775807; decide) fun j p hj => ?_⟩
  match j, hj with
  | 0, hj => simp at hj; subst hj; obtain ⟨A, c, rfl, hl, hC⟩ := h1; exact ⟨_, rfl, A, c, rfl, hl, Kd.C_below hC hb⟩
  | 1, hj => simp at hj; subst hj; obtain ⟨A, c, rfl, hl, hC⟩ := h2; exact ⟨_, rfl, A, c, rfl, hl, Kd.C_below hC hb⟩
  | 2, hj => simp at hj; subst hj; obtain ⟨A, c, rfl, hl, hC⟩ := h3; exact ⟨_, rfl, A, c, rfl, hl, Kd.C_below hC hb⟩
/-- The bytes of the first k comments. -/
def cpre (v : ByteArray) (L : List ByteArray) (k : Nat) : List Int := low4 (v.size : Int) ++ bytesOf v ++ low4 (L.length : Int) ++ ((L.take k).map fun s => low4 s.size ++ bytesOf s).flatten
theorem cpre_zero (v : ByteArray) (L : List ByteArray) : cpre v L 0 = low4 (v.size : Int) ++ bytesOf v ++ low4 (L.length : Int) := by simp [cpre]
theorem cpre_full (v : ByteArray) (L : List ByteArray) (k : Nat) (h : L.length ≤ k) : cpre v L k = commentsBytes v L := by
  unfold cpre commentsBytes
  rw [List.take_of_length_le h]
theorem cpre_step (v : ByteArray) (L : List ByteArray) (k : Nat) (hk : k < L.length) : cpre v L (k + 1) = cpre v L k ++ low4 L[k].size ++ bytesOf L[k] := by
  unfold cpre
  rw [List.take_succ_eq_append_getElem hk, List.map_append, List.flatten_append]
  simp
theorem cpre_le (v : ByteArray) (L : List ByteArray) (k : Nat) : (cpre v L k).length ≤ (commentsBytes v L).length := by
  have h := flat_le (L.map fun s => low4 s.size ++ bytesOf s) k
  unfold cpre commentsBytes
  simp only [List.length_append, ← List.map_take] at h ⊢
  omega
def write11.T3 : Bool × List (List Nat × List Nat) := (true, [([], []), ([0], [0]), ([1], [1]), ([2], [2]), ([], []), ([4], [4]), ([5], [5]), ([], []), ([7], [7]), ([8], [8]), ([9, 3], [9]), ([3, 6, 10], [3, 6, 10]), ([11, 10], [11]), ([12, 12, 0, 1, 2, 3, 4, 5, 6, 7, 8, 9, 10, 11, 12], [12])])
def write11.B3 : List Nat := [0, 1, 3, 7, 0, 16, 48, 0, 128, 384, 911, 2047, 4095, 8191]
theorem write11.tab3 : rtab .any (opsOf Tryd.f11 3) = write11.T3 := by kernel_rfl
theorem write11.bits3 : waitsOk write11.T3.2 write11.B3 = true := by kernel_rfl
set_option maxRecDepth 100000 in
theorem write11_yes (v : ByteArray) (A : Option Addr) (c : Nat) (L : List ByteArray) (w : World) (hr : Kd.string.C w A L.length L) (hv : Lib.validD v.data.toList = true) (hL : (L.any fun s => !commentB s) = false) (hf : Fits v) (hF : ∀ s ∈ L, Fits s) (hG : Glob w)
    (hsz : (commentsBytes v L).length ≤ 16777215) :
    Calls Tryd.prog 11 #[.agg #[.string v, .slice A L.length c]] w fun e w' => ∃ u, e = .returned (.tuple #[u, .int .i64 0]) ∧ BYT w' w.heap.size u (commentsBytes v L) ∧ Below w.heap.size w w' := by
  have hV := fun W h => Tryd.utf8_ValidString v W hf h
  rw [hv] at hV
  have hC := fun W h1 h2 => has35 A c L 36 #[] eg36 Fits (fun s => !commentB s) W h1 hF h2
  rw [hL] at hC
  have HL3 : Hid (([low4 (v.size : Int), bytesOf v, low4 (L.length : Int)] : List (List Int)).flatten.length ≤ 1099511627776) := by
    apply Lib.hid
    simp [commentsBytes] at hsz ⊢
    omega
  have HG := Lib.hid hG
  have HR := Lib.hid hr
  have HF := Lib.hid hf
  have HSZ := Lib.hid hsz
  clear hv hf hG hL hF hr hsz
  go_enter Tryd.func11, Tryd.ntmps11
  go_wp2_with (first | (go_at_call 34; refine (hV _ (HG.out.below (below_alloc (Below.refl _ _) _)).out).mono ?_; rintro e w1 ⟨rfl, hb⟩; have h0 : w1.cell? ⟨w.heap.size, 1, none⟩ = some (.slice A L.length c) := by (rw [hb.cell (by simp)]; simp)) | (go_at_call 35; have hb1 := Lib.hid (bt (below_alloc (Below.refl _ _) (.cells #[.string v, .slice A L.length c] 24)) hb); have hb0 := Lib.hid hb; clear hb; refine (hC _ (Kd.C_below HR.out hb1.out) (fun W x hD hb2 => write36 x W hD (HG.out.below (bt hb1.out hb2)))).mono ?_; rintro e w2 ⟨rfl, hb2⟩))
  have h0 : w2.cell? ⟨w.heap.size, 0, none⟩ = some (.string v) := by rw [(bt hb0.out hb2).cell (by simp)]; simp
  have h1 : w2.cell? ⟨w.heap.size, 1, none⟩ = some (.slice A L.length c) := by rw [(bt hb0.out hb2).cell (by simp)]; simp
  have C0 := Aside0.mk h0
  have C1 := Aside0.mk h1
  have HB := Aside0.mk (bt hb1.out hb2)
  clear hb2 hV hC hb0 hb1 h0 h1
  refine start_ (n := 14) (S := fun w' => True) (ds := []) #[false, false, false, false, false, false, false, false, false, false, false, false, false, false] (by kernel_rfl) rfl rfl trivial (fun hHeld => ?_)
  refine with_tabW write11.tab3 write11.bits3 (fun HT_ HW_ => ?_)
  refine inv_at [0, 1, 2, 3, 4, 5, 6, 7, 8, 9, 10, 11, 12, 13] (fun a0_ b a w' => ∃ (u1 : Value) (u2 : Value) (u3 : Value) (u4 : Value) (u5 : Value) (m13_ : Value), a = putSel a0_ b [(0, 16, .pointer (some ⟨w.heap.size, 0, none⟩)), (1, 17, .string v), (2, 18, .int .i64 (v.size : Int)), (3, 19, u1), (4, 20, .pointer (some ⟨w.heap.size, 0, none⟩)), (5, 21, .string v), (6, 22, u2), (7, 23, .pointer (some ⟨w.heap.size, 1, none⟩)), (8, 24, .slice A L.length c), (9, 25, .int .i64 (L.length : Int)), (10, 26, u3), (11, 27, u4), (12, 28, u5), (13, 4, m13_)] ∧ (w'.cell? ⟨w.heap.size, 0, none⟩ = some (.string v)) ∧ (w'.cell? ⟨w.heap.size, 1, none⟩ = some (.slice A L.length c)) ∧ (Below w.heap.size w w') ∧ (b 3 = true → RB w' u1 (low4 (v.size : Int))) ∧ (b 6 = true → RB w' u2 (bytesOf v)) ∧ (b 10 = true → RB w' u3 (low4 (L.length : Int))) ∧ (b 11 = true → RR w' u4 [low4 (v.size : Int), bytesOf v, low4 (L.length : Int)]) ∧ (b 12 = true → BYT w' w.heap.size u5 [low4 (v.size : Int), bytesOf v, low4 (L.length : Int)].flatten) ∧ (b 13 = true → (m13_ : Value) = u5)) HT_.out HW_.out (by kernel_rfl) (by kernel_rfl) ?_ ?_ ?_
  · exact ⟨.bool false, .bool false, .bool false, .bool false, .bool false, .bool false, by simp only [putSel, Bool.false_eq_true, if_false], C0.out, C1.out, below_drew HB.out, fun h_ => absurd h_ (by decide), fun h_ => absurd h_ (by decide), fun h_ => absurd h_ (by decide), fun h_ => absurd h_ (by decide), fun h_ => absurd h_ (by decide), fun h_ => absurd h_ (by decide)⟩
  · skip
    clear C0 C1 HB
    refine steps_cons ?_ ?_
    · rintro b a w' ⟨u1, u2, u3, u4, u5, m13_, ha, Q_C0, Q_C1, Q_HB, Q_R1, Q_R2, Q_R3, Q_R4, Q_R5, Q_X13_⟩ hb_ hon hoff
      refine ⟨_, rfl, fun K hK => ?_⟩
      have e1 : a.tmps[1]? = some (.pointer (some ⟨w.heap.size, 0, none⟩)) := by rw [ha]; exact (putSel_off rfl).trans rfl
      replace ha := Aside0.mk ha
      have C0 := Aside0.mk Q_C0
      have C1 := Aside0.mk Q_C1
      have HB := Aside0.mk Q_HB
      refine value_ (w1 := w') (v := .pointer (some ⟨w.heap.size, 0, none⟩)) (by rfl) rfl ?_ ?_
      · go_simp
        (try simp only [i64_w])
        try rfl
      refine hK.out _ _ ⟨u1, u2, u3, u4, u5, m13_, (by rw [ha.out]; exact putSel_upk 0 hb_ rfl rfl rfl), Q_C0, Q_C1, Q_HB, fun h0_ => absurd ((hoff 3 (by kernel_rfl)).symm.trans h0_) (by decide), Q_R2, fun h0_ => absurd ((hoff 10 (by kernel_rfl)).symm.trans h0_) (by decide), fun h0_ => absurd ((hoff 11 (by kernel_rfl)).symm.trans h0_) (by decide), fun h0_ => absurd ((hoff 12 (by kernel_rfl)).symm.trans h0_) (by decide), fun h0_ => absurd ((hoff 13 (by kernel_rfl)).symm.trans h0_) (by decide)⟩
    refine steps_cons ?_ ?_
    · rintro b a w' ⟨u1, u2, u3, u4, u5, m13_, ha, Q_C0, Q_C1, Q_HB, Q_R1, Q_R2, Q_R3, Q_R4, Q_R5, Q_X13_⟩ hb_ hon hoff
      refine ⟨_, rfl, fun K hK => ?_⟩
      have e16 : a.tmps[16]? = some (.pointer (some ⟨w.heap.size, 0, none⟩)) := by rw [ha]; exact putSel_on (e := (0, 16, .pointer (some ⟨w.heap.size, 0, none⟩))) 0 rfl rfl (hon 0 (by kernel_rfl)) rfl
      replace ha := Aside0.mk ha
      have C0 := Aside0.mk Q_C0
      have C1 := Aside0.mk Q_C1
      have HB := Aside0.mk Q_HB
      have c0 := C0.out
      refine value_ (w1 := w') (v := .string v) (by rfl) rfl ?_ ?_
      · go_simp
        (try simp only [i64_w])
        try rfl
      refine hK.out _ _ ⟨u1, u2, u3, u4, u5, m13_, (by rw [ha.out]; exact putSel_upk 1 hb_ rfl rfl rfl), Q_C0, Q_C1, Q_HB, fun h0_ => absurd ((hoff 3 (by kernel_rfl)).symm.trans h0_) (by decide), Q_R2, fun h0_ => absurd ((hoff 10 (by kernel_rfl)).symm.trans h0_) (by decide), fun h0_ => absurd ((hoff 11 (by kernel_rfl)).symm.trans h0_) (by decide), fun h0_ => absurd ((hoff 12 (by kernel_rfl)).symm.trans h0_) (by decide), fun h0_ => absurd ((hoff 13 (by kernel_rfl)).symm.trans h0_) (by decide)⟩
    refine steps_cons ?_ ?_
    · rintro b a w' ⟨u1, u2, u3, u4, u5, m13_, ha, Q_C0, Q_C1, Q_HB, Q_R1, Q_R2, Q_R3, Q_R4, Q_R5, Q_X13_⟩ hb_ hon hoff
      refine ⟨_, rfl, fun K hK => ?_⟩
      have e17 : a.tmps[17]? = some (.string v) := by rw [ha]; exact putSel_on (e := (1, 17, .string v)) 1 rfl rfl (hon 1 (by kernel_rfl)) rfl
      replace ha := Aside0.mk ha
      have C0 := Aside0.mk Q_C0
      have C1 := Aside0.mk Q_C1
      have HB := Aside0.mk Q_HB
      refine value_ (w1 := w') (v := .int .i64 (v.size : Int)) (by rfl) rfl ?_ ?_
      · go_simp
        (try simp only [i64_w])
        try rfl
      refine hK.out _ _ ⟨u1, u2, u3, u4, u5, m13_, (by rw [ha.out]; exact putSel_upk 2 hb_ rfl rfl rfl), Q_C0, Q_C1, Q_HB, fun h0_ => absurd ((hoff 3 (by kernel_rfl)).symm.trans h0_) (by decide), Q_R2, fun h0_ => absurd ((hoff 10 (by kernel_rfl)).symm.trans h0_) (by decide), fun h0_ => absurd ((hoff 11 (by kernel_rfl)).symm.trans h0_) (by decide), fun h0_ => absurd ((hoff 12 (by kernel_rfl)).symm.trans h0_) (by decide), fun h0_ => absurd ((hoff 13 (by kernel_rfl)).symm.trans h0_) (by decide)⟩
    refine steps_cons ?_ ?_
    · rintro b a w' ⟨u1, u2, u3, u4, u5, m13_, ha, Q_C0, Q_C1, Q_HB, Q_R1, Q_R2, Q_R3, Q_R4, Q_R5, Q_X13_⟩ hb_ hon hoff
      refine ⟨_, rfl, fun K hK => ?_⟩
      have e18 : a.tmps[18]? = some (.int .i64 (v.size : Int)) := by rw [ha]; exact putSel_on (e := (2, 18, .int .i64 (v.size : Int))) 2 rfl rfl (hon 2 (by kernel_rfl)) rfl
      replace ha := Aside0.mk ha
      have C0 := Aside0.mk Q_C0
      have C1 := Aside0.mk Q_C1
      have HB := Aside0.mk Q_HB
      refine goes_ (N := some 19) Tryd.func39 (by kernel_rfl) rfl #[.int .i64 (v.size : Int)] (by rfl) rfl rfl (by first | (simp only [List.map_toArray, List.map_cons, List.map_nil, Act.eval, Array.getD_eq_getD_getElem?, Option.getD_some, e18]; done) | (simp only [List.map_toArray, List.map_cons, List.map_nil, Act.eval, Array.getD_eq_getD_getElem?, Option.getD_some, e18]; rfl)) ?_
      refine (low39 (v.size : Int) _).mono ?_
      rintro e_ w1 ⟨u, rfl, hu, hb⟩
      refine ⟨_, rfl, ?_⟩
      refine hK.out _ _ ⟨u, u2, u3, u4, u5, m13_, (by rw [ha.out]; exact putSel_upk 3 hb_ rfl rfl rfl), pw_cell_below hb C0.out, pw_cell_below hb C1.out, bt HB.out hb, fun _ => RB.of_BYT hu, fun h0_ => RB.below (Q_R2 h0_) hb, fun h0_ => absurd ((hoff 10 (by kernel_rfl)).symm.trans h0_) (by decide), fun h0_ => absurd ((hoff 11 (by kernel_rfl)).symm.trans h0_) (by decide), fun h0_ => absurd ((hoff 12 (by kernel_rfl)).symm.trans h0_) (by decide), fun h0_ => absurd ((hoff 13 (by kernel_rfl)).symm.trans h0_) (by decide)⟩
    refine steps_cons ?_ ?_
    · rintro b a w' ⟨u1, u2, u3, u4, u5, m13_, ha, Q_C0, Q_C1, Q_HB, Q_R1, Q_R2, Q_R3, Q_R4, Q_R5, Q_X13_⟩ hb_ hon hoff
      refine ⟨_, rfl, fun K hK => ?_⟩
      have e1 : a.tmps[1]? = some (.pointer (some ⟨w.heap.size, 0, none⟩)) := by rw [ha]; exact (putSel_off rfl).trans rfl
      replace ha := Aside0.mk ha
      have C0 := Aside0.mk Q_C0
      have C1 := Aside0.mk Q_C1
      have HB := Aside0.mk Q_HB
      refine value_ (w1 := w') (v := .pointer (some ⟨w.heap.size, 0, none⟩)) (by rfl) rfl ?_ ?_
      · go_simp
        (try simp only [i64_w])
        try rfl
      refine hK.out _ _ ⟨u1, u2, u3, u4, u5, m13_, (by rw [ha.out]; exact putSel_upk 4 hb_ rfl rfl rfl), Q_C0, Q_C1, Q_HB, Q_R1, fun h0_ => absurd ((hoff 6 (by kernel_rfl)).symm.trans h0_) (by decide), Q_R3, fun h0_ => absurd ((hoff 11 (by kernel_rfl)).symm.trans h0_) (by decide), fun h0_ => absurd ((hoff 12 (by kernel_rfl)).symm.trans h0_) (by decide), fun h0_ => absurd ((hoff 13 (by kernel_rfl)).symm.trans h0_) (by decide)⟩
    refine steps_cons ?_ ?_
    · rintro b a w' ⟨u1, u2, u3, u4, u5, m13_, ha, Q_C0, Q_C1, Q_HB, Q_R1, Q_R2, Q_R3, Q_R4, Q_R5, Q_X13_⟩ hb_ hon hoff
      refine ⟨_, rfl, fun K hK => ?_⟩
      have e20 : a.tmps[20]? = some (.pointer (some ⟨w.heap.size, 0, none⟩)) := by rw [ha]; exact putSel_on (e := (4, 20, .pointer (some ⟨w.heap.size, 0, none⟩))) 4 rfl rfl (hon 4 (by kernel_rfl)) rfl
      replace ha := Aside0.mk ha
      have C0 := Aside0.mk Q_C0
      have C1 := Aside0.mk Q_C1
      have HB := Aside0.mk Q_HB
      have c0 := C0.out
      refine value_ (w1 := w') (v := .string v) (by rfl) rfl ?_ ?_
      · go_simp
        (try simp only [i64_w])
        try rfl
      refine hK.out _ _ ⟨u1, u2, u3, u4, u5, m13_, (by rw [ha.out]; exact putSel_upk 5 hb_ rfl rfl rfl), Q_C0, Q_C1, Q_HB, Q_R1, fun h0_ => absurd ((hoff 6 (by kernel_rfl)).symm.trans h0_) (by decide), Q_R3, fun h0_ => absurd ((hoff 11 (by kernel_rfl)).symm.trans h0_) (by decide), fun h0_ => absurd ((hoff 12 (by kernel_rfl)).symm.trans h0_) (by decide), fun h0_ => absurd ((hoff 13 (by kernel_rfl)).symm.trans h0_) (by decide)⟩
    refine steps_cons ?_ ?_
    · rintro b a w' ⟨u1, u2, u3, u4, u5, m13_, ha, Q_C0, Q_C1, Q_HB, Q_R1, Q_R2, Q_R3, Q_R4, Q_R5, Q_X13_⟩ hb_ hon hoff
      refine ⟨_, rfl, fun K hK => ?_⟩
      have e21 : a.tmps[21]? = some (.string v) := by rw [ha]; exact putSel_on (e := (5, 21, .string v)) 5 rfl rfl (hon 5 (by kernel_rfl)) rfl
      replace ha := Aside0.mk ha
      have C0 := Aside0.mk Q_C0
      have C1 := Aside0.mk Q_C1
      have HB := Aside0.mk Q_HB
      obtain ⟨A2, c2, w1, hcv, hC2, hl2, hb, _⟩ := bytes_conv v HF.out w'
      refine value_ (w1 := w1) (v := .slice A2 (bytesOf v).length c2) (by rfl) rfl ?_ ?_
      · go_simp
      refine hK.out _ _ ⟨u1, (.slice A2 (bytesOf v).length c2), u3, u4, u5, m13_, (by rw [ha.out]; exact putSel_upk 6 hb_ rfl rfl rfl), pw_cell_below hb C0.out, pw_cell_below hb C1.out, bt HB.out hb, fun h0_ => RB.below (Q_R1 h0_) hb, fun _ => ⟨A2, c2, rfl, hl2, hC2⟩, fun h0_ => RB.below (Q_R3 h0_) hb, fun h0_ => absurd ((hoff 11 (by kernel_rfl)).symm.trans h0_) (by decide), fun h0_ => absurd ((hoff 12 (by kernel_rfl)).symm.trans h0_) (by decide), fun h0_ => absurd ((hoff 13 (by kernel_rfl)).symm.trans h0_) (by decide)⟩
    refine steps_cons ?_ ?_
    · rintro b a w' ⟨u1, u2, u3, u4, u5, m13_, ha, Q_C0, Q_C1, Q_HB, Q_R1, Q_R2, Q_R3, Q_R4, Q_R5, Q_X13_⟩ hb_ hon hoff
      refine ⟨_, rfl, fun K hK => ?_⟩
      have e1 : a.tmps[1]? = some (.pointer (some ⟨w.heap.size, 0, none⟩)) := by rw [ha]; exact (putSel_off rfl).trans rfl
      replace ha := Aside0.mk ha
      have C0 := Aside0.mk Q_C0
      have C1 := Aside0.mk Q_C1
      have HB := Aside0.mk Q_HB
      refine value_ (w1 := w') (v := .pointer (some ⟨w.heap.size, 1, none⟩)) (by rfl) rfl ?_ ?_
      · go_simp
        (try simp only [i64_w])
        try rfl
      refine hK.out _ _ ⟨u1, u2, u3, u4, u5, m13_, (by rw [ha.out]; exact putSel_upk 7 hb_ rfl rfl rfl), Q_C0, Q_C1, Q_HB, Q_R1, Q_R2, fun h0_ => absurd ((hoff 10 (by kernel_rfl)).symm.trans h0_) (by decide), fun h0_ => absurd ((hoff 11 (by kernel_rfl)).symm.trans h0_) (by decide), fun h0_ => absurd ((hoff 12 (by kernel_rfl)).symm.trans h0_) (by decide), fun h0_ => absurd ((hoff 13 (by kernel_rfl)).symm.trans h0_) (by decide)⟩
    refine steps_cons ?_ ?_
    · rintro b a w' ⟨u1, u2, u3, u4, u5, m13_, ha, Q_C0, Q_C1, Q_HB, Q_R1, Q_R2, Q_R3, Q_R4, Q_R5, Q_X13_⟩ hb_ hon hoff
      refine ⟨_, rfl, fun K hK => ?_⟩
      have e23 : a.tmps[23]? = some (.pointer (some ⟨w.heap.size, 1, none⟩)) := by rw [ha]; exact putSel_on (e := (7, 23, .pointer (some ⟨w.heap.size, 1, none⟩))) 7 rfl rfl (hon 7 (by kernel_rfl)) rfl
      replace ha := Aside0.mk ha
      have C0 := Aside0.mk Q_C0
      have C1 := Aside0.mk Q_C1
      have HB := Aside0.mk Q_HB
      have c1 := C1.out
      refine value_ (w1 := w') (v := .slice A L.length c) (by rfl) rfl ?_ ?_
      · go_simp
        (try simp only [i64_w])
        try rfl
      refine hK.out _ _ ⟨u1, u2, u3, u4, u5, m13_, (by rw [ha.out]; exact putSel_upk 8 hb_ rfl rfl rfl), Q_C0, Q_C1, Q_HB, Q_R1, Q_R2, fun h0_ => absurd ((hoff 10 (by kernel_rfl)).symm.trans h0_) (by decide), fun h0_ => absurd ((hoff 11 (by kernel_rfl)).symm.trans h0_) (by decide), fun h0_ => absurd ((hoff 12 (by kernel_rfl)).symm.trans h0_) (by decide), fun h0_ => absurd ((hoff 13 (by kernel_rfl)).symm.trans h0_) (by decide)⟩
    refine steps_cons ?_ ?_
    · rintro b a w' ⟨u1, u2, u3, u4, u5, m13_, ha, Q_C0, Q_C1, Q_HB, Q_R1, Q_R2, Q_R3, Q_R4, Q_R5, Q_X13_⟩ hb_ hon hoff
      refine ⟨_, rfl, fun K hK => ?_⟩
      have e24 : a.tmps[24]? = some (.slice A L.length c) := by rw [ha]; exact putSel_on (e := (8, 24, .slice A L.length c)) 8 rfl rfl (hon 8 (by kernel_rfl)) rfl
      replace ha := Aside0.mk ha
      have C0 := Aside0.mk Q_C0
      have C1 := Aside0.mk Q_C1
      have HB := Aside0.mk Q_HB
      refine value_ (w1 := w') (v := .int .i64 (L.length : Int)) (by rfl) rfl ?_ ?_
      · go_simp
        (try simp only [i64_w])
        try rfl
      refine hK.out _ _ ⟨u1, u2, u3, u4, u5, m13_, (by rw [ha.out]; exact putSel_upk 9 hb_ rfl rfl rfl), Q_C0, Q_C1, Q_HB, Q_R1, Q_R2, fun h0_ => absurd ((hoff 10 (by kernel_rfl)).symm.trans h0_) (by decide), fun h0_ => absurd ((hoff 11 (by kernel_rfl)).symm.trans h0_) (by decide), fun h0_ => absurd ((hoff 12 (by kernel_rfl)).symm.trans h0_) (by decide), fun h0_ => absurd ((hoff 13 (by kernel_rfl)).symm.trans h0_) (by decide)⟩
    refine steps_cons ?_ ?_
    · rintro b a w' ⟨u1, u2, u3, u4, u5, m13_, ha, Q_C0, Q_C1, Q_HB, Q_R1, Q_R2, Q_R3, Q_R4, Q_R5, Q_X13_⟩ hb_ hon hoff
      refine ⟨_, rfl, fun K hK => ?_⟩
      have e25 : a.tmps[25]? = some (.int .i64 (L.length : Int)) := by rw [ha]; exact putSel_on (e := (9, 25, .int .i64 (L.length : Int))) 9 rfl rfl (hon 9 (by kernel_rfl)) rfl
      replace ha := Aside0.mk ha
      have C0 := Aside0.mk Q_C0
      have C1 := Aside0.mk Q_C1
      have HB := Aside0.mk Q_HB
      have R1 := Aside0.mk (Q_R1 (hon 3 (by kernel_rfl)))
      refine goes_ (N := some 26) Tryd.func39 (by kernel_rfl) rfl #[.int .i64 (L.length : Int)] (by rfl) rfl rfl (by first | (simp only [List.map_toArray, List.map_cons, List.map_nil, Act.eval, Array.getD_eq_getD_getElem?, Option.getD_some, e25]; done) | (simp only [List.map_toArray, List.map_cons, List.map_nil, Act.eval, Array.getD_eq_getD_getElem?, Option.getD_some, e25]; rfl)) ?_
      refine (low39 (L.length : Int) _).mono ?_
      rintro e_ w1 ⟨u, rfl, hu, hb⟩
      refine ⟨_, rfl, ?_⟩
      refine hK.out _ _ ⟨u1, u2, u, u4, u5, m13_, (by rw [ha.out]; exact putSel_upk 10 hb_ rfl rfl rfl), pw_cell_below hb C0.out, pw_cell_below hb C1.out, bt HB.out hb, fun _ => RB.below R1.out hb, fun h0_ => RB.below (Q_R2 h0_) hb, fun _ => RB.of_BYT hu, fun h0_ => absurd ((hoff 11 (by kernel_rfl)).symm.trans h0_) (by decide), fun h0_ => absurd ((hoff 12 (by kernel_rfl)).symm.trans h0_) (by decide), fun h0_ => absurd ((hoff 13 (by kernel_rfl)).symm.trans h0_) (by decide)⟩
    refine steps_cons ?_ ?_
    · rintro b a w' ⟨u1, u2, u3, u4, u5, m13_, ha, Q_C0, Q_C1, Q_HB, Q_R1, Q_R2, Q_R3, Q_R4, Q_R5, Q_X13_⟩ hb_ hon hoff
      refine ⟨_, rfl, fun K hK => ?_⟩
      have e19 : a.tmps[19]? = some (u1) := by rw [ha]; exact putSel_on (e := (3, 19, u1)) 3 rfl rfl (hon 3 (by kernel_rfl)) rfl
      have e22 : a.tmps[22]? = some (u2) := by rw [ha]; exact putSel_on (e := (6, 22, u2)) 6 rfl rfl (hon 6 (by kernel_rfl)) rfl
      have e26 : a.tmps[26]? = some (u3) := by rw [ha]; exact putSel_on (e := (10, 26, u3)) 10 rfl rfl (hon 10 (by kernel_rfl)) rfl
      replace ha := Aside0.mk ha
      have C0 := Aside0.mk Q_C0
      have C1 := Aside0.mk Q_C1
      have HB := Aside0.mk Q_HB
      have R1 := Aside0.mk (Q_R1 (hon 3 (by kernel_rfl)))
      have R2 := Aside0.mk (Q_R2 (hon 6 (by kernel_rfl)))
      have R3 := Aside0.mk (Q_R3 (hon 10 (by kernel_rfl)))
      obtain ⟨A1, c1, rfl, hl1, hC1⟩ := R1.out
      obtain ⟨A2, c2, rfl, hl2, hC2⟩ := R2.out
      obtain ⟨A3, c3, rfl, hl3, hC3⟩ := R3.out
      have R1 := Aside0.mk (show RB w' _ _ from ⟨A1, c1, rfl, hl1, hC1⟩)
      have R2 := Aside0.mk (show RB w' _ _ from ⟨A2, c2, rfl, hl2, hC2⟩)
      have R3 := Aside0.mk (show RB w' _ _ from ⟨A3, c3, rfl, hl3, hC3⟩)
      clear hC1 hC2 hC3
      have hb : Below w'.heap.size w' (w'.alloc (.cells #[.slice A1 (low4 (v.size : Int)).length c1, .slice A2 (bytesOf v).length c2, .slice A3 (low4 (L.length : Int)).length c3] 27)) := below_alloc (Below.refl _ _) _
      refine value_ (w1 := w'.alloc (.cells #[.slice A1 (low4 (v.size : Int)).length c1, .slice A2 (bytesOf v).length c2, .slice A3 (low4 (L.length : Int)).length c3] 27)) (v := .slice (some ⟨w'.heap.size, 0, none⟩) 3 3) (by rfl) rfl ?_ ?_
      · go_simp
      refine hK.out _ _ ⟨(.slice A1 (low4 (v.size : Int)).length c1), (.slice A2 (bytesOf v).length c2), (.slice A3 (low4 (L.length : Int)).length c3), (.slice (some ⟨w'.heap.size, 0, none⟩) 3 3), u5, m13_, (by rw [ha.out]; exact putSel_upk 11 hb_ rfl rfl rfl), pw_cell_below hb C0.out, pw_cell_below hb C1.out, bt HB.out hb, fun _ => RB.below R1.out hb, fun _ => RB.below R2.out hb, fun _ => RB.below R3.out hb, fun _ => rows3 R1.out R2.out R3.out, fun h0_ => absurd ((hoff 12 (by kernel_rfl)).symm.trans h0_) (by decide), fun h0_ => absurd ((hoff 13 (by kernel_rfl)).symm.trans h0_) (by decide)⟩
    refine steps_cons ?_ ?_
    · rintro b a w' ⟨u1, u2, u3, u4, u5, m13_, ha, Q_C0, Q_C1, Q_HB, Q_R1, Q_R2, Q_R3, Q_R4, Q_R5, Q_X13_⟩ hb_ hon hoff
      refine ⟨_, rfl, fun K hK => ?_⟩
      have e27 : a.tmps[27]? = some (u4) := by rw [ha]; exact putSel_on (e := (11, 27, u4)) 11 rfl rfl (hon 11 (by kernel_rfl)) rfl
      replace ha := Aside0.mk ha
      have C0 := Aside0.mk Q_C0
      have C1 := Aside0.mk Q_C1
      have HB := Aside0.mk Q_HB
      have R1 := Aside0.mk (Q_R1 (hon 3 (by kernel_rfl)))
      have R2 := Aside0.mk (Q_R2 (hon 6 (by kernel_rfl)))
      have R3 := Aside0.mk (Q_R3 (hon 10 (by kernel_rfl)))
      have R4 := Aside0.mk (Q_R4 (hon 11 (by kernel_rfl)))
      obtain ⟨A4, c4, rfl, hC4⟩ := R4.out
      refine goes_ (N := some 28) Tryd.func38 (by kernel_rfl) rfl #[.slice A4 3 c4] (by rfl) rfl rfl (by first | (simp only [List.map_toArray, List.map_cons, List.map_nil, Act.eval, Array.getD_eq_getD_getElem?, Option.getD_some, e27]; done) | (simp only [List.map_toArray, List.map_cons, List.map_nil, Act.eval, Array.getD_eq_getD_getElem?, Option.getD_some, e27]; rfl)) ?_
      refine (concat38 A4 c4 [low4 (v.size : Int), bytesOf v, low4 (L.length : Int)] _ hC4 HL3.out).mono ?_
      rintro e_ w1 ⟨u, rfl, hu, hb⟩
      refine ⟨_, rfl, ?_⟩
      refine hK.out _ _ ⟨u1, u2, u3, (.slice A4 3 c4), u, m13_, (by rw [ha.out]; exact putSel_upk 12 hb_ rfl rfl rfl), pw_cell_below hb C0.out, pw_cell_below hb C1.out, bt HB.out hb, fun _ => RB.below R1.out hb, fun _ => RB.below R2.out hb, fun _ => RB.below R3.out hb, fun _ => ⟨A4, c4, rfl, Kd.C_below hC4 hb⟩, fun _ => Kd.R_lower hu HB.out.size, fun h0_ => absurd ((hoff 13 (by kernel_rfl)).symm.trans h0_) (by decide)⟩
    refine steps_cons ?_ ?_
    · rintro b a w' ⟨u1, u2, u3, u4, u5, m13_, ha, Q_C0, Q_C1, Q_HB, Q_R1, Q_R2, Q_R3, Q_R4, Q_R5, Q_X13_⟩ hb_ hon hoff
      refine ⟨_, rfl, fun K hK => ?_⟩
      have e28 : a.tmps[28]? = some (u5) := by rw [ha]; exact putSel_on (e := (12, 28, u5)) 12 rfl rfl (hon 12 (by kernel_rfl)) rfl
      replace ha := Aside0.mk ha
      have C0 := Aside0.mk Q_C0
      have C1 := Aside0.mk Q_C1
      have HB := Aside0.mk Q_HB
      have R1 := Aside0.mk (Q_R1 (hon 3 (by kernel_rfl)))
      have R2 := Aside0.mk (Q_R2 (hon 6 (by kernel_rfl)))
      have R3 := Aside0.mk (Q_R3 (hon 10 (by kernel_rfl)))
      have R4 := Aside0.mk (Q_R4 (hon 11 (by kernel_rfl)))
      have R5 := Aside0.mk (Q_R5 (hon 12 (by kernel_rfl)))
      refine value_ (w1 := w') (v := u5) (by rfl) rfl ?_ ?_
      · go_simp
        (try simp only [i64_w])
        try rfl
      refine hK.out _ _ ⟨u1, u2, u3, u4, u5, (u5), (by rw [ha.out]; exact putSel_upk 13 hb_ rfl rfl rfl), Q_C0, Q_C1, Q_HB, Q_R1, Q_R2, Q_R3, Q_R4, Q_R5, fun _ => rfl⟩
    exact steps_nil
  · rintro b a w' hall ⟨u1, u2, u3, u4, u5, m13_, ha, Q_C0, Q_C1, Q_HB, Q_R1, Q_R2, Q_R3, Q_R4, Q_R5, Q_X13_⟩
    clear C0 C1 HB
    have hb0_ := hall 0 (by kernel_rfl)
    have hb1_ := hall 1 (by kernel_rfl)
    have hb2_ := hall 2 (by kernel_rfl)
    have hb3_ := hall 3 (by kernel_rfl)
    have hb4_ := hall 4 (by kernel_rfl)
    have hb5_ := hall 5 (by kernel_rfl)
    have hb6_ := hall 6 (by kernel_rfl)
    have hb7_ := hall 7 (by kernel_rfl)
    have hb8_ := hall 8 (by kernel_rfl)
    have hb9_ := hall 9 (by kernel_rfl)
    have hb10_ := hall 10 (by kernel_rfl)
    have hb11_ := hall 11 (by kernel_rfl)
    have hb12_ := hall 12 (by kernel_rfl)
    have hb13_ := hall 13 (by kernel_rfl)
    subst ha
    obtain rfl := Q_X13_ hb13_
    simp only [putSel, hb0_, hb1_, hb2_, hb3_, hb4_, hb5_, hb6_, hb7_, hb8_, hb9_, hb10_, hb11_, hb12_, hb13_, if_true, Act.put, List.setIfInBounds_toArray, List.set_cons_zero, List.set_cons_succ]
    have C0 := Aside0.mk Q_C0
    clear Q_C0
    have C1 := Aside0.mk Q_C1
    clear Q_C1
    have HB := Aside0.mk Q_HB
    clear Q_HB
    have R1 := Aside0.mk (Q_R1 hb3_)
    clear Q_R1
    have R2 := Aside0.mk (Q_R2 hb6_)
    clear Q_R2
    have R3 := Aside0.mk (Q_R3 hb10_)
    clear Q_R3
    have R4 := Aside0.mk (Q_R4 hb11_)
    clear Q_R4
    have R5 := Aside0.mk (Q_R5 hb12_)
    clear Q_R5
    clear hall hb0_ hb1_ hb2_ hb3_ hb4_ hb5_ hb6_ hb7_ hb8_ hb9_ hb10_ hb11_ hb12_ hb13_
    have HB0 := Lib.hid HB.out
    have hpre : BYT w' w.heap.size m13_ (cpre v L 0) := by
      have := R5.out
      rw [cpre_zero]
      simpa using this
    have HP0 := Lib.hid hpre
    have hc1 := C1.out
    clear hpre C0 C1 HB R1 R2 R3 R4 R5 HT_ HW_ hHeld Q_X13_ h0
    have hm := C_len HR.out
    go_wp2
    clear hc1
    go_loopg [4, 32] L.length (fun gg s4 s32 wr => ∃ kk : Nat, kk ≤ L.length ∧ L.length - kk ≤ gg ∧ s32 = .int .i64 kk ∧ Hid (BYT wr w.heap.size s4 (cpre v L kk)) ∧ Hid (Below w.heap.size w wr))
    case atStart => exact ⟨0, Nat.zero_le _, by omega, rfl, HP0, HB0⟩
    case round =>
      clear HP0 HB0
      obtain ⟨kk, hkk, hg, rfl, HV, HB⟩ := hrel
      by_cases hlt : kk < L.length
      · have hltz : (kk : Int) < (L.length : Int) := by omega
        obtain ⟨ad, rfl, hcell⟩ := str_at HR.out kk hlt
        replace hcell := pw_cell_below HB.out hcell
        have hst := cpre_step v L kk hlt
        have hle := Nat.le_trans (cpre_le v L (kk + 1)) HSZ.out
        rw [hst] at hle
        generalize cpre v L kk = pre at hle hst HV
        generalize L[kk] = s at hcell hst hle
        rw [List.length_append, List.length_append, bytesOf_length] at hle
        have hl4 : (low4 (s.size : Int)).length = 4 := rfl
        have HS := Lib.hid hst
        have HLE := Lib.hid hle
        have HL4 := Lib.hid hl4
        clear hst hle hl4
        go_wp2_with (first | (go_at_call 39; refine (low39 (s.size : Int) _).mono ?_; rintro e w3 ⟨u, rfl, hu, hb3⟩; obtain ⟨A3, c3, rfl, hl3, hC3⟩ := RB.of_BYT hu; have HV3 := Lib.hid (Kd.R_below HV.out hb3); have HB3 := Lib.hid (bt HB.out hb3); have HC3 := Lib.hid hC3; clear hu hb3 hl3 hC3 HV HB) | (at_builtin; refine Kd.R_append_row (Value.int .u8) (0 : Int) (h1 := fun _ => rfl) (w0 := w) w.heap.size rfl (.tmp 36) (.tmp 39) 27 5 (.int .u8 0) 1 rfl Tryd.underlying27 infoB rfl (by decide) _ pre (low4 (s.size : Int)) A3 (low4 (s.size : Int)).length c3 (fun _ => True) rfl rfl (fun _ _ => trivial) HV3.out HC3.out HB3.out HB3.out.size ?_ ?_))
        case refine_1 => have := HLE.out; omega
        intro v1 w4 hR4 hB4 _ _
        have HR4 := Lib.hid hR4
        have HB4 := Lib.hid hB4
        clear hR4 hB4 HV3 HB3 HC3
        go_wp2_with (at_builtin; refine print_append_str (w0 := w) w.heap.size rfl (.tmp 40) (.tmp 41) 27 9 5 rfl Tryd.underlying27 Tryd.underlying9 infoB _ (pre ++ low4 (s.size : Int)) s rfl rfl (Kd.own_of_R HR4.out) HB4.out HB4.out.size ?_ ?_)
        case refine_1 => have := HLE.out; have := HL4.out; rw [List.length_append]; omega
        intro v2 w5 hR5 hB5 _
        have hq : BYT w5 w.heap.size v2 (pre ++ low4 (s.size : Int) ++ bytesOf s) := by
          rw [List.append_assoc]
          exact Kd.R_of_own (enc := Value.int .u8) (h1 := fun _ => rfl) (by rw [List.length_append, List.length_append]; exact hR5) (fun _ _ => trivial)
        have HR5 := Lib.hid hq
        clear hq
        have HB5 := Lib.hid hB5
        clear hR5 hB5 HR4 HB4
        go_wp2
        go_roundg (L.length - (kk + 1))
        case measure => omega
        case rel => exact ⟨kk + 1, by omega, by omega, by go_num, by rw [HS.out]; exact HR5, HB5⟩
      · have hltz : ¬ (kk : Int) < (L.length : Int) := by omega
        rw [cpre_full v L kk (by omega)] at HV
        have hsz := HSZ.out
        obtain ⟨A3, c3, rfl, hl3, hC3⟩ := RB.of_BYT HV.out
        have hff := fun W => full40 A3 (commentsBytes v L).length c3 W
        simp only [if_pos hsz] at hff
        have HFF := Lib.hid hff
        clear hff hsz hl3 hC3
        go_wp2_with (go_at_call 40; refine (HFF.out _).mono ?_; rintro e w3 ⟨rfl, rfl⟩)
        go_ret2
        exact ⟨_, rfl, HV.out, HB.out⟩
end Go.Proofs.YtbjdipbhclihfaaDoor

