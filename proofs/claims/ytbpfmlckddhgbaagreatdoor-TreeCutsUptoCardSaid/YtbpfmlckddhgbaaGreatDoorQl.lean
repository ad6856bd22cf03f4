/- The document's paths: Parts, Less, Under, IsName, IsClean. -/
import Derived.Test.YtbpfmlckddhgbaaGreatDoorQh
import Derived.Test.YtbpfmlckddhgbaaGreatDoorQd
import Derived.Deep.CutRange
import Derived.Deep.RegionHeld3
namespace Go.Proofs.YtbpfmlckddhgbaaGreatDoor
set_option linter.unusedVariables false
set_option linter.unusedSimpArgs false
open Go Go.RowKit Go.Maps Go.WideMaps Go.Proofs.YtbpfmlckddhgbaaGreatDoorW.PrintWords
def TxtPost (w : World) (ps : List ByteArray) (e : Ending) (w' : World) : Prop := ∃ v, e = .returned v ∧ Own w' 9 v (ps.map Value.string) ∧ (∀ k, v.ownBlock = some k → w.heap.size ≤ k) ∧ Below w.heap.size w w'
theorem Own.rdS {w : World} {v : Value} {ps : List ByteArray} (h : Own w 9 v (ps.map Value.string)) : ∃ A c, v = .slice A ps.length c ∧ RdS w w.heap.size A ps := by
  have h' := h
  obtain ⟨h1, ⟨hv, hn⟩ | ⟨g, cap, cur, hv, _, hcell, hc, _⟩⟩ := h
  · rw [List.length_map] at hn
    refine ⟨none, 0, by rw [hv, hn], fun hne => absurd (List.eq_nil_of_length_eq_zero hn) hne⟩
  · rw [List.length_map] at hv
    refine ⟨_, cap, hv, fun hne => ⟨g, 0, rfl, (Array.getElem?_eq_some_iff.1 hcell).1, fun j p hp => ?_⟩⟩
    have e := World.ownsRow.cells h' (g := g) (by rw [hv]; rfl) j (.string p) (by rw [List.getElem?_map, hp]; rfl)
    rw [Addr.add_mid] at e
    exact e
structure PSt (s : List UInt8) (i fr : Nat) (dn : List (List UInt8)) : Prop where
  le : fr ≤ i
  no : ∀ j x, fr ≤ j → j < i → s[j]? = some x → x ≠ 47
  eq : fr ≤ s.length → dn ++ cutL (s.drop fr) = cutL s
  fin : s.length < fr → dn = cutL s
  len : dn.length ≤ i
  top : s.length < i → s.length < fr
namespace PSt
variable {s : List UInt8} {i fr : Nat} {dn : List (List UInt8)}
theorem start (s : List UInt8) : PSt s 0 0 [] := ⟨Nat.le_refl _, fun j x h1 h2 => absurd h2 (by omega), fun _ => rfl, fun h => absurd h (by omega), Nat.le_refl _, fun h => absurd h (by omega)⟩
theorem skip (h : PSt s i fr dn) (hi : i < s.length) (hx : s[i]'hi ≠ 47) : PSt s (i + 1) fr dn := by
  refine ⟨Nat.le_succ_of_le h.le, fun j x h1 h2 h3 => ?_, h.eq, h.fin, Nat.le_succ_of_le h.len, fun h => absurd h (by omega)⟩
  rcases Nat.lt_or_ge j i with h4 | h4
  · exact h.no j x h1 h4 h3
  · obtain rfl : j = i := by omega
    rw [List.getElem?_eq_getElem hi] at h3
    injection h3 with h3
    rw [← h3]; exact hx
theorem part_no (h : PSt s i fr dn) : (47 : UInt8) ∉ (s.drop fr).take (i - fr) := fun hm => by
  obtain ⟨k, hk⟩ := List.getElem?_of_mem hm
  rw [List.getElem?_take] at hk
  split at hk
  · rename_i hlt
    rw [List.getElem?_drop] at hk
    exact h.no (fr + k) 47 (by omega) (by omega) hk rfl
  · cases hk
theorem cut (h : PSt s i fr dn) (hi : i < s.length) (hx : s[i]'hi = 47) : PSt s (i + 1) (i + 1) (dn ++ [(s.drop fr).take (i - fr)]) := by
  have hle := h.le
  have e : s.drop fr = (s.drop fr).take (i - fr) ++ 47 :: s.drop (i + 1) := by
    conv => lhs; rw [← List.take_append_drop (i - fr) (s.drop fr)]
    rw [List.drop_drop, show fr + (i - fr) = i by omega, List.drop_eq_getElem_cons hi, hx]
  refine ⟨Nat.le_refl _, fun j x h1 h2 => absurd h2 (by omega), fun hf => ?_, fun hf => absurd hf (by omega), by rw [List.length_append]; have := h.len; simp; omega, fun h => h⟩
  have e2 := h.eq (by omega)
  rw [e, cutL_append h.part_no] at e2
  rw [← e2]; simp
theorem last (h : PSt s i fr dn) (hi : i = s.length) : PSt s (i + 1) (i + 1) (dn ++ [(s.drop fr).take (i - fr)]) := by
  have hle := h.le
  have e : s.drop fr = (s.drop fr).take (i - fr) := by rw [List.take_of_length_le (by rw [List.length_drop]; omega)]
  refine ⟨Nat.le_refl _, fun j x h1 h2 => absurd h2 (by omega), fun hf => absurd hf (by omega), fun hf => ?_, by rw [List.length_append]; have := h.len; simp; omega, fun h => h⟩
  have e2 := h.eq (by omega)
  have h47 := h.part_no
  rw [← e] at h47
  rw [cutL_no h47] at e2
  rw [← e, e2]
end PSt
theorem ext_B (s : ByteArray) (a b : Nat) : s.extract a b = B ((s.data.toList.drop a).take (b - a)) := ba_ext (by rw [Lib.extract_data, B_data])
set_option maxRecDepth 8000 in
set_option maxHeartbeats 1000000 in
theorem refParts_calls (s : ByteArray) (w : World) (hs : s.size ≤ 1048576) : Calls Tryz.prog 136 #[.string s] w (TxtPost w (parts s)) := by
  by_cases h0 : s.data.toList = []
  · have e1 : s.toList.isEmpty = true := by rw [Lib.toList_data, h0]; rfl
    have e2 : (s.toList == []) = true := by rw [Lib.toList_data, h0]; rfl
    have e3 : s.toList = [] := by rw [Lib.toList_data, h0]
    have hp := Aside0.mk (show parts s = [] by unfold parts partsL; rw [if_pos h0]; rfl)
    clear h0
    go_enter Tryz.func136, Tryz.ntmps136
    go_wp2_with fail
    go_ret
    exact ⟨_, rfl, by rw [hp.out]; exact Own.nil _ _, fun k hk => by simp [Value.ownBlock] at hk, Below.refl _ _⟩
  · have e1 : s.toList.isEmpty = false := by rw [Lib.toList_data]; cases h : s.data.toList with | nil => exact absurd h h0 | cons a l => rfl
    have e2 : (s.toList == []) = false := beq_eq_false_iff_ne.2 (by rw [Lib.toList_data]; exact h0)
    have hp := Aside0.mk (show parts s = (cutL s.data.toList).map B by unfold parts partsL; rw [if_neg h0])
    clear h0
    go_enter Tryz.func136, Tryz.ntmps136
    go_wp2_with fail
    clear e1 e2
    go_loopg [3, 4, 5] (s.size + 1) (fun g s3 s4 s5 wr => ∃ (i fr : Nat) (dn : List (List UInt8)) (v : Value), Aside0 (i + g = s.size + 1) ∧ s5 = .int .i64 i ∧ s4 = .int .i64 fr ∧ v = s3 ∧ Aside0 (PSt s.data.toList i fr dn) ∧ Aside0 (Own wr 9 v ((dn.map B).map Value.string)) ∧ Aside0 (∀ k, v.ownBlock = some k → w.heap.size ≤ k) ∧ Aside0 (Below w.heap.size w wr))
    case atStart => exact ⟨0, 0, [], _, ⟨by omega⟩, rfl, rfl, rfl, ⟨PSt.start _⟩, ⟨Own.nil _ _⟩, ⟨fun k hk => by simp [Value.ownBlock] at hk⟩, ⟨Below.refl _ _⟩⟩
    case round =>
      obtain ⟨i, fr, dn, v, HJ, rfl, rfl, rfl, HP, HO, HF, HB⟩ := hrel
      have hij : i ≤ s.size + 1 := by have := HJ.out; omega
      have hfr := HP.out.le
      have hdn : dn.length ≤ i := HP.out.len
      rcases Nat.lt_trichotomy i s.size with hlt | heq | hgt
      · have hil : i < s.data.toList.length := hlt
        by_cases h47 : s.data.toList[i]'hil = 47
        · have PN := Aside0.mk (HP.out.cut hil h47)
          have hx : (((s[i]'hlt).toNat : Int) == 47) = true := by
            have : s[i]'hlt = 47 := h47
            rw [this]; rfl
          have hne : ((i : Int) == (s.size : Int)) = false := beq_eq_false_iff_ne.2 (by omega)
          have hle2 : decide ((i : Int) ≤ (s.size : Int)) = true := decide_eq_true (by omega)
          clear h47
          go_wp2_with (first
            | (refine arm_slice1 rfl 66 9 _ rfl (.string ⟨#[]⟩) 1 [.string (s.extract fr i)] (.string (s.extract fr i)) rfl rfl Tryz.underlying66 info9s (by decide) (by decide) rfl ?_
               intro W9 b9 hb hW
               have hB : Below wr.heap.size wr W9 := by subst hW; exact (Below.refl _ _).alloc (Nat.le_refl _) _
               have A9 := Aside0.mk (show At W9 b9 9 [.string (s.extract fr i)] by subst hW hb; exact At.new _ _ _)
               have B9 := Aside0.mk hB
               have O9 := Aside0.mk (HO.out.below hB (fun b hb => HO.out.lt hb))
               clear hb hW hB)
            | (have G := B9.out
               refine arm_append rfl _ _ 66 9 rfl (.string ⟨#[]⟩) 16 Tryz.underlying66 info9 rfl v _ [.string (s.extract fr i)] rfl O9.out ⟨b9, 0, none⟩ 1 1 rfl rfl (fun i u hu => by rw [Addr.add_mid, A9.out.cell, Nat.zero_add]; exact hu) (by intro u hu; simp at hu; subst hu; rfl) (by rw [List.length_map, List.length_map]; show (dn.length + 1) * 16 ≤ _; omega) (by rw [List.length_map, List.length_map]; show dn.length + 1 ≤ _; omega) ?_
               intro v10 W10 hV hO hq
               have l9 := G.size
               have lb := HB.out.size
               have B10 := Aside0.mk ((HB.out.trans (G.mono lb)).trans (hO.to_below (Nat.le_trans lb l9) (fun b hb => HF.out b hb)))
               have O10 := Aside0.mk hV
               have F10 := Aside0.mk (show ∀ k, v10.ownBlock = some k → w.heap.size ≤ k from fun b hb => by
                 rcases hq with hq | hq
                 · rw [hq] at hb; exact HF.out b hb
                 · rw [hq] at hb; injection hb with hb; omega)
               clear hV hO hq l9 lb G)
            | fail)
          go_roundg (s.size - i)
          case measure => have := HJ.out; omega
          case rel => exact ⟨i + 1, i + 1, _, v10, ⟨by have := HJ.out; omega⟩, by go_num, by go_num, rfl, PN, ⟨by rw [List.map_append, List.map_append]; rw [ext_B] at O10; exact O10.out⟩, F10, B10⟩
        · have PN := Aside0.mk (HP.out.skip hil h47)
          have hx : (((s[i]'hlt).toNat : Int) == 47) = false := beq_eq_false_iff_ne.2 (fun e => h47 (by
            have : (s[i]'hlt).toNat = 47 := by omega
            exact UInt8.toNat_inj.1 this))
          have hne : ((i : Int) == (s.size : Int)) = false := beq_eq_false_iff_ne.2 (by omega)
          have hle2 : decide ((i : Int) ≤ (s.size : Int)) = true := decide_eq_true (by omega)
          clear h47
          go_wp2_with fail
          go_roundg (s.size - i)
          case measure => have := HJ.out; omega
          case rel => exact ⟨i + 1, fr, dn, v, ⟨by have := HJ.out; omega⟩, by go_num, rfl, rfl, PN, HO, HF, HB⟩
      · have PN := Aside0.mk (HP.out.last heq)
        have hne : ((i : Int) == (s.size : Int)) = true := beq_iff_eq.2 (by omega)
        have hle2 : decide ((i : Int) ≤ (s.size : Int)) = true := decide_eq_true (by omega)
        have hfs : fr ≤ s.size := by omega
        have hle3 : i ≤ s.size := by omega
        have HQ := Aside0.mk heq
        clear heq
        go_wp2_with (first
          | (refine arm_slice1 rfl 66 9 _ rfl (.string ⟨#[]⟩) 1 [.string (s.extract fr i)] (.string (s.extract fr i)) rfl rfl Tryz.underlying66 info9s (by decide) (by decide) rfl ?_
             intro W9 b9 hb hW
             have hB : Below wr.heap.size wr W9 := by subst hW; exact (Below.refl _ _).alloc (Nat.le_refl _) _
             have A9 := Aside0.mk (show At W9 b9 9 [.string (s.extract fr i)] by subst hW hb; exact At.new _ _ _)
             have B9 := Aside0.mk hB
             have O9 := Aside0.mk (HO.out.below hB (fun b hb => HO.out.lt hb))
             clear hb hW hB)
          | (have G := B9.out
             refine arm_append rfl _ _ 66 9 rfl (.string ⟨#[]⟩) 16 Tryz.underlying66 info9 rfl v _ [.string (s.extract fr i)] rfl O9.out ⟨b9, 0, none⟩ 1 1 rfl rfl (fun i u hu => by rw [Addr.add_mid, A9.out.cell, Nat.zero_add]; exact hu) (by intro u hu; simp at hu; subst hu; rfl) (by rw [List.length_map, List.length_map]; show (dn.length + 1) * 16 ≤ _; omega) (by rw [List.length_map, List.length_map]; show dn.length + 1 ≤ _; omega) ?_
             intro v10 W10 hV hO hq
             have l9 := G.size
             have lb := HB.out.size
             have B10 := Aside0.mk ((HB.out.trans (G.mono lb)).trans (hO.to_below (Nat.le_trans lb l9) (fun b hb => HF.out b hb)))
             have O10 := Aside0.mk hV
             have F10 := Aside0.mk (show ∀ k, v10.ownBlock = some k → w.heap.size ≤ k from fun b hb => by
               rcases hq with hq | hq
               · rw [hq] at hb; exact HF.out b hb
               · rw [hq] at hb; injection hb with hb; omega)
             clear hV hO hq l9 lb G)
          | fail)
        go_roundg 0
        case measure => have := HJ.out; have := HQ.out; omega
        case rel => exact ⟨i + 1, i + 1, _, v10, ⟨by have := HJ.out; have := HQ.out; omega⟩, by go_num, by go_num, rfl, PN, ⟨by rw [List.map_append, List.map_append]; rw [ext_B] at O10; exact O10.out⟩, F10, B10⟩
      · have hle2 : decide ((i : Int) ≤ (s.size : Int)) = false := decide_eq_false (by omega)
        have hfin := Aside0.mk (show dn = cutL s.data.toList from HP.out.fin (HP.out.top hgt))
        go_wp2_with fail
        go_ret
        exact ⟨v, rfl, by rw [hp.out, ← hfin.out]; exact HO.out, HF.out, HB.out⟩
def lessP (xs ys : List ByteArray) : Bool := decide (cmpL xs ys < 0)
theorem lessP_nil : ∀ ys : List ByteArray, lessP [] ys = decide (0 < ys.length)
  | [] => rfl
  | _ :: _ => rfl
theorem lessP_nil2 (x : ByteArray) (xs : List ByteArray) : lessP (x :: xs) [] = false := rfl
theorem lessP_same {x y : ByteArray} (xs ys : List ByteArray) (h : (x.toList == y.toList) = true) : lessP (x :: xs) (y :: ys) = lessP xs ys := by
  have e := beq_path.1 h
  subst e
  unfold lessP
  rw [cmpL, if_pos ((cmpS_eq x x).2 rfl)]
theorem lessP_other {x y : ByteArray} (xs ys : List ByteArray) (h : (x.toList == y.toList) = false) : lessP (x :: xs) (y :: ys) = Op.bytesLess x.toList y.toList := by
  have hne : cmpS x y ≠ 0 := fun e => by
    rw [beq_path.2 ((cmpS_eq x y).1 e)] at h
    cases h
  unfold lessP
  rw [cmpL, if_neg hne]
  unfold cmpS
  cases hb : Op.bytesLess x.toList y.toList with
  | true => rfl
  | false => rw [h]; rfl
set_option maxRecDepth 8000 in
set_option maxHeartbeats 1000000 in
theorem refLess_calls (a b : ByteArray) (w : World) (ha : a.size ≤ 1048575) (hb : b.size ≤ 1048575) : Calls Tryz.prog 102 #[.string a, .string b] w fun e w' => e = .returned (.bool (less a b)) ∧ Below w.heap.size w w' := by
  have la := parts_len a ha
  have lb := parts_len b hb
  have PA := Aside0.mk (fun w => refParts_calls a w (by omega))
  have PB := Aside0.mk (fun w => refParts_calls b w (by omega))
  obtain ⟨R, hR⟩ : ∃ R, R = less a b := ⟨_, rfl⟩
  rw [← hR]
  obtain ⟨xs, hxs⟩ : ∃ xs, xs = parts a := ⟨_, rfl⟩
  obtain ⟨ys, hys⟩ : ∃ ys, ys = parts b := ⟨_, rfl⟩
  have RR := Aside0.mk (show R = lessP (xs.drop 0) (ys.drop 0) by rw [hR, hxs, hys]; rfl)
  have XY := Aside0.mk (And.intro hxs hys)
  rw [← hxs] at la
  rw [← hys] at lb
  clear hR hxs hys
  go_enter Tryz.func102, Tryz.ntmps102
  go_wp2_with fail
  refine (PA.out w).mono ?_
  rintro e w1 ⟨v1, rfl, hO1, _, hB1⟩
  rw [← XY.out.1] at hO1
  obtain ⟨A1, c1, hv1, hr1⟩ := hO1.rdS
  subst hv1
  have R1 := Aside0.mk hr1
  have B1 := Aside0.mk hB1
  clear hO1 hB1 hr1
  go_wp2_with fail
  refine (PB.out w1).mono ?_
  rintro e w2 ⟨v2, rfl, hO2, _, hB2⟩
  rw [← XY.out.2] at hO2
  obtain ⟨A2, c2, hv2, hr2⟩ := hO2.rdS
  subst hv2
  have R2 := Aside0.mk hr2
  have R1 := Aside0.mk ((R1.out.below hB2 (Nat.le_refl _)).lt hB2.size)
  have B2 := Aside0.mk (B1.out.trans (hB2.mono B1.out.size))
  clear hO2 hB2 hr2
  go_wp2_with fail
  go_loopg [7] xs.length (fun g s7 wr => ∃ k : Nat, Aside0 (k + g = xs.length) ∧ s7 = .int .i64 k ∧ k ≤ ys.length ∧ Aside0 (R = lessP (xs.drop k) (ys.drop k)) ∧ Aside0 (Below w2.heap.size w2 wr))
  case atStart => exact ⟨0, ⟨by omega⟩, rfl, Nat.zero_le _, RR, ⟨Below.refl _ _⟩⟩
  case round =>
    obtain ⟨k, HJ, rfl, hky, HR, HB⟩ := hrel
    have hkx : k ≤ xs.length := by have := HJ.out; omega
    have hr := HR.out
    by_cases hx : k < xs.length
    · by_cases hy : k < ys.length
      · obtain ⟨x, hx2⟩ : ∃ x, xs[k]? = some x := ⟨_, List.getElem?_eq_getElem hx⟩
        obtain ⟨y, hy2⟩ : ∃ y, ys[k]? = some y := ⟨_, List.getElem?_eq_getElem hy⟩
        rw [List.drop_eq_getElem_cons hx, (List.getElem?_eq_some_iff.1 hx2).2, List.drop_eq_getElem_cons hy, (List.getElem?_eq_some_iff.1 hy2).2] at hr
        obtain ⟨g1, o1, hA1, _, q1⟩ := (R1.out.below HB.out (Nat.le_refl _)) (by intro h; rw [h] at hx; simp at hx)
        obtain ⟨g2, o2, hA2, _, q2⟩ := (R2.out.below HB.out (Nat.le_refl _)) (by intro h; rw [h] at hy; simp at hy)
        subst hA1 hA2
        have ka : wr.cell? ⟨g1, o1 + k, none⟩ = some (.string x) := q1 k x hx2
        have kb : wr.cell? ⟨g2, o2 + k, none⟩ = some (.string y) := q2 k y hy2
        clear q1 q2 hx2 hy2
        rcases hq : (x.toList == y.toList) with _ | _
        · rw [lessP_other _ _ hq] at hr
          have HRR := Aside0.mk hr
          clear hr
          go_wp2_with fail
          go_quiet (fail)
          go_wp2_with fail
          go_quiet (fail)
          go_wp2_with fail
          go_ret
          exact ⟨by rw [HRR.out]; rfl, B2.out.trans ((HB.out.trans (by exact ⟨rfl, rfl, rfl, Nat.le_refl _, fun _ _ => rfl⟩)).mono B2.out.size)⟩
        · rw [lessP_same _ _ hq] at hr
          have HRR := Aside0.mk hr
          clear hr
          go_wp2_with fail
          go_quiet (fail)
          go_wp2_with fail
          go_roundg (xs.length - (k + 1))
          case measure => have := HJ.out; omega
          case rel => exact ⟨k + 1, ⟨by have := HJ.out; omega⟩, by go_num, by omega, HRR, ⟨HB.out.trans (by exact ⟨rfl, rfl, rfl, Nat.le_refl _, fun _ _ => rfl⟩)⟩⟩
      · rw [List.drop_eq_getElem_cons hx, show ys.drop k = [] from List.drop_eq_nil_of_le (by omega), lessP_nil2] at hr
        have HRR := Aside0.mk hr
        have hle : ys.length ≤ xs.length := by omega
        have HN := Aside0.mk (show decide (xs.length < ys.length) = false from decide_eq_false (by omega))
        clear hr
        go_wp2_with fail
        go_ret
        exact ⟨by rw [HRR.out, ← HN.out]; rfl, B2.out.trans (HB.out.mono B2.out.size)⟩
    · obtain rfl : k = xs.length := by omega
      rw [List.drop_length, lessP_nil, List.length_drop] at hr
      have HRR := Aside0.mk (show R = decide (xs.length < ys.length) by rw [hr]; exact decide_eq_decide.2 (by omega))
      clear hr
      go_wp2_with fail
      go_ret
      exact ⟨by rw [HRR.out]; rfl, B2.out.trans (HB.out.mono B2.out.size)⟩
def headP (xs ys : List ByteArray) : Bool := decide (xs = ys.take xs.length)
theorem headP_nil (ys : List ByteArray) : headP [] ys = true := by unfold headP; simp
theorem headP_cons (x y : ByteArray) (xs ys : List ByteArray) : headP (x :: xs) (y :: ys) = ((x.toList == y.toList) && headP xs ys) := by
  unfold headP
  rw [Bool.eq_iff_iff, Bool.and_eq_true, decide_eq_true_eq, decide_eq_true_eq, beq_path, List.length_cons, List.take_succ_cons, List.cons.injEq]
set_option maxRecDepth 8000 in
set_option maxHeartbeats 1000000 in
theorem refUnder_calls (a b : ByteArray) (w : World) (ha : a.size ≤ 1048575) (hb : b.size ≤ 1048575) : Calls Tryz.prog 90 #[.string a, .string b] w fun e w' => e = .returned (.bool (under a b)) ∧ Below w.heap.size w w' := by
  have la := parts_len a ha
  have lb := parts_len b hb
  have PA := Aside0.mk (fun w => refParts_calls a w (by omega))
  have PB := Aside0.mk (fun w => refParts_calls b w (by omega))
  obtain ⟨R, hR⟩ : ∃ R, R = under a b := ⟨_, rfl⟩
  rw [← hR]
  obtain ⟨xs, hxs⟩ : ∃ xs, xs = parts a := ⟨_, rfl⟩
  obtain ⟨ys, hys⟩ : ∃ ys, ys = parts b := ⟨_, rfl⟩
  have RR := Aside0.mk (show R = (decide (xs.length ≤ ys.length) && headP (xs.drop 0) (ys.drop 0)) by rw [hR, hxs, hys]; rfl)
  have XY := Aside0.mk (And.intro hxs hys)
  rw [← hxs] at la
  rw [← hys] at lb
  clear hR hxs hys
  by_cases hle : xs.length ≤ ys.length
  · have RR := Aside0.mk (show R = headP (xs.drop 0) (ys.drop 0) by rw [RR.out, decide_eq_true hle]; rfl)
    have t1 : decide ((xs.length : Int) > (ys.length : Int)) = false := decide_eq_false (by omega)
    go_enter Tryz.func90, Tryz.ntmps90
    go_wp2_with fail
    refine (PA.out w).mono ?_
    rintro e w1 ⟨v1, rfl, hO1, _, hB1⟩
    rw [← XY.out.1] at hO1
    obtain ⟨A1, c1, hv1, hr1⟩ := hO1.rdS
    subst hv1
    have R1 := Aside0.mk hr1
    have B1 := Aside0.mk hB1
    clear hO1 hB1 hr1
    go_wp2_with fail
    refine (PB.out w1).mono ?_
    rintro e w2 ⟨v2, rfl, hO2, _, hB2⟩
    rw [← XY.out.2] at hO2
    obtain ⟨A2, c2, hv2, hr2⟩ := hO2.rdS
    subst hv2
    have R2 := Aside0.mk hr2
    have R1 := Aside0.mk ((R1.out.below hB2 (Nat.le_refl _)).lt hB2.size)
    have B2 := Aside0.mk (B1.out.trans (hB2.mono B1.out.size))
    clear hO2 hB2 hr2
    go_wp2_with fail
    go_loopg [7] xs.length (fun g s7 wr => ∃ k : Nat, Aside0 (k + g = xs.length) ∧ s7 = .int .i64 k ∧ Aside0 (R = headP (xs.drop k) (ys.drop k)) ∧ Aside0 (Below w2.heap.size w2 wr))
    case atStart => exact ⟨0, ⟨by omega⟩, rfl, RR, ⟨Below.refl _ _⟩⟩
    case round =>
      obtain ⟨k, HJ, rfl, HR, HB⟩ := hrel
      have hkx : k ≤ xs.length := by have := HJ.out; omega
      have hr := HR.out
      by_cases hx : k < xs.length
      · have hy : k < ys.length := by omega
        obtain ⟨x, hx2⟩ : ∃ x, xs[k]? = some x := ⟨_, List.getElem?_eq_getElem hx⟩
        obtain ⟨y, hy2⟩ : ∃ y, ys[k]? = some y := ⟨_, List.getElem?_eq_getElem hy⟩
        rw [List.drop_eq_getElem_cons hx, (List.getElem?_eq_some_iff.1 hx2).2, List.drop_eq_getElem_cons hy, (List.getElem?_eq_some_iff.1 hy2).2, headP_cons] at hr
        obtain ⟨g1, o1, hA1, _, q1⟩ := (R1.out.below HB.out (Nat.le_refl _)) (by intro h; rw [h] at hx; simp at hx)
        obtain ⟨g2, o2, hA2, _, q2⟩ := (R2.out.below HB.out (Nat.le_refl _)) (by intro h; rw [h] at hy; simp at hy)
        subst hA1 hA2
        have ka : wr.cell? ⟨g1, o1 + k, none⟩ = some (.string x) := q1 k x hx2
        have kb : wr.cell? ⟨g2, o2 + k, none⟩ = some (.string y) := q2 k y hy2
        clear q1 q2 hx2 hy2
        rcases hq : (x.toList == y.toList) with _ | _
        · have HRR := Aside0.mk (show R = false by rw [hr, hq]; rfl)
          clear hr
          go_wp2_with fail
          go_quiet (fail)
          go_wp2_with fail
          go_ret
          exact ⟨by rw [HRR.out]; rfl, B2.out.trans ((HB.out.trans (by exact ⟨rfl, rfl, rfl, Nat.le_refl _, fun _ _ => rfl⟩)).mono B2.out.size)⟩
        · have HRR := Aside0.mk (show R = headP (xs.drop (k + 1)) (ys.drop (k + 1)) by rw [hr, hq]; rfl)
          clear hr
          go_wp2_with fail
          go_quiet (fail)
          go_wp2_with fail
          go_roundg (xs.length - (k + 1))
          case measure => have := HJ.out; omega
          case rel => exact ⟨k + 1, ⟨by have := HJ.out; omega⟩, by go_num, HRR, ⟨HB.out.trans (by exact ⟨rfl, rfl, rfl, Nat.le_refl _, fun _ _ => rfl⟩)⟩⟩
      · obtain rfl : k = xs.length := by omega
        rw [List.drop_length, headP_nil] at hr
        have HRR := Aside0.mk hr
        clear hr
        go_wp2_with fail
        go_ret
        exact ⟨by rw [HRR.out]; rfl, B2.out.trans (HB.out.mono B2.out.size)⟩
  · have RF := Aside0.mk (show R = false by rw [RR.out, decide_eq_false hle]; rfl)
    have t1 : decide ((xs.length : Int) > (ys.length : Int)) = true := decide_eq_true (by omega)
    go_enter Tryz.func90, Tryz.ntmps90
    go_wp2_with fail
    refine (PA.out w).mono ?_
    rintro e w1 ⟨v1, rfl, hO1, _, hB1⟩
    rw [← XY.out.1] at hO1
    obtain ⟨A1, c1, hv1, hr1⟩ := hO1.rdS
    subst hv1
    have B1 := Aside0.mk hB1
    clear hO1 hB1 hr1
    go_wp2_with fail
    refine (PB.out w1).mono ?_
    rintro e w2 ⟨v2, rfl, hO2, _, hB2⟩
    rw [← XY.out.2] at hO2
    obtain ⟨A2, c2, hv2, hr2⟩ := hO2.rdS
    subst hv2
    have B2 := Aside0.mk (B1.out.trans (hB2.mono B1.out.size))
    clear hO2 hB2 hr2
    go_wp2_with fail
    go_ret
    exact ⟨by rw [RF.out]; rfl, B2.out⟩
end Go.Proofs.YtbpfmlckddhgbaaGreatDoor
/- The document's paths: IsName, IsClean, Path, parent; they say what the program's say. -/
namespace Go.Proofs.YtbpfmlckddhgbaaGreatDoor
set_option linter.unusedVariables false
set_option linter.unusedSimpArgs false
open Go Go.RowKit Go.Maps Go.WideMaps Go.Proofs.YtbpfmlckddhgbaaGreatDoorW.PrintWords
set_option maxRecDepth 8000 in
theorem refIsName_calls (s : ByteArray) (w : World) (hs : s.size ≤ 1048576) : Calls Tryz.prog 172 #[.string s] w fun e w' => e = .returned (.bool (isName s)) ∧ w' = w := by
  obtain ⟨R, hR⟩ : ∃ R, R = isName s := ⟨_, rfl⟩
  rw [← hR]
  have RR := Aside0.mk (hR.trans (isName_eq s))
  clear hR
  by_cases h1 : s.size < 1
  · have RF := Aside0.mk (show R = false by rw [RR.out, decide_eq_false (by omega)]; rfl)
    have t1 : decide ((s.size : Int) < 1) = true := decide_eq_true (by omega)
    go_enter Tryz.func172, Tryz.ntmps172
    go_wp2_with fail
    go_ret
    exact ⟨by rw [RF.out]; rfl, rfl⟩
  · have t1 : decide ((s.size : Int) < 1) = false := decide_eq_false (by omega)
    by_cases h2 : 64 < s.size
    · have RF := Aside0.mk (show R = false by rw [RR.out, decide_eq_false (show ¬ ((s.size : Int) ≤ 64) by omega)]; simp)
      have t2 : decide ((s.size : Int) > 64) = true := decide_eq_true (by omega)
      go_enter Tryz.func172, Tryz.ntmps172
      go_wp2_with fail
      go_ret
      exact ⟨by rw [RF.out]; rfl, rfl⟩
    · have t2 : decide ((s.size : Int) > 64) = false := decide_eq_false (by omega)
      rcases h3 : (s.toList == [46]) with _ | _
      · rcases h4 : (s.toList == [46, 46]) with _ | _
        · have RS := Aside0.mk (show R = !hasSign s by
            have e3 : (s.toList != [46]) = true := by rw [bne, h3]; rfl
            have e4 : (s.toList != [46, 46]) = true := by rw [bne, h4]; rfl
            rw [RR.out, decide_eq_true (show (1 : Int) ≤ (s.size : Int) by omega), decide_eq_true (show (s.size : Int) ≤ 64 by omega), e3, e4]
            rfl)
          go_enter Tryz.func172, Tryz.ntmps172
          go_wp2_with fail
          go_loopg [3] s.size (fun g s3 wr => wr = w ∧ ∃ i : Nat, Aside0 (i + g = s.size) ∧ s3 = .int .i64 i ∧ Aside0 (NoSign s i))
          case atStart => exact ⟨rfl, 0, ⟨by omega⟩, rfl, ⟨fun j _ hj => absurd hj (by omega)⟩⟩
          case round =>
            obtain ⟨rfl, i, HJ, rfl, HN⟩ := hrel
            by_cases hlt : i < s.size
            · rcases e0 : (((s[i]'hlt).toNat : Int) == 0) with _ | _
              · rcases e47 : (((s[i]'hlt).toNat : Int) == 47) with _ | _
                · have HN2 := Aside0.mk (show NoSign s (i + 1) from fun j hj hji => by
                    rcases Nat.lt_or_ge j i with h | h
                    · exact HN.out j hj h
                    · obtain rfl : j = i := by omega
                      exact ⟨fun e => by rw [e] at e0; exact absurd e0 (by decide), fun e => by rw [e] at e47; exact absurd e47 (by decide)⟩)
                  go_wp2_with fail
                  go_roundg (s.size - (i + 1))
                  case measure => have := HJ.out; omega
                  case rel => exact ⟨rfl, i + 1, ⟨by have := HJ.out; omega⟩, by go_num, HN2⟩
                · have RF := Aside0.mk (show R = false by
                    rw [RS.out, hasSign_yes hlt (.inr (by
                      have := beq_iff_eq.1 e47
                      exact UInt8.toNat_inj.1 (by show (s[i]'hlt).toNat = 47; omega)))]
                    rfl)
                  go_wp2_with fail
                  go_ret
                  exact ⟨by rw [RF.out]; rfl, rfl⟩
              · have RF := Aside0.mk (show R = false by
                  rw [RS.out, hasSign_yes hlt (.inl (by
                    have := beq_iff_eq.1 e0
                    exact UInt8.toNat_inj.1 (by show (s[i]'hlt).toNat = 0; omega)))]
                  rfl)
                go_wp2_with fail
                go_ret
                exact ⟨by rw [RF.out]; rfl, rfl⟩
            · obtain rfl : i = s.size := by have := HJ.out; omega
              have RT := Aside0.mk (show R = true by rw [RS.out, hasSign_no HN.out]; rfl)
              go_wp2_with fail
              go_ret
              exact ⟨by rw [RT.out]; rfl, rfl⟩
        · have RF := Aside0.mk (show R = false by
            have e4 : (s.toList != [46, 46]) = false := by rw [bne, h4]; rfl
            rw [RR.out, e4]; simp)
          go_enter Tryz.func172, Tryz.ntmps172
          go_wp2_with fail
          go_ret
          exact ⟨by rw [RF.out]; rfl, rfl⟩
      · have RF := Aside0.mk (show R = false by
          have e3 : (s.toList != [46]) = false := by rw [bne, h3]; rfl
          rw [RR.out, e3]; simp)
        go_enter Tryz.func172, Tryz.ntmps172
        go_wp2_with fail
        go_ret
        exact ⟨by rw [RF.out]; rfl, rfl⟩
def isCleanR (s : ByteArray) : Bool := (parts s).all isName && decide ((parts s).length ≤ 32)
theorem isName_no47 {s : ByteArray} (h : isName s = true) : (47 : UInt8) ∉ s.data.toList ∧ s.data.toList ≠ [] ∧ s.data.toList ≠ [46] ∧ s.data.toList ≠ [46, 46] := by
  simp only [isName, isNameL, Bool.and_eq_true, decide_eq_true_eq, bne_iff_ne, Bool.not_eq_true', List.contains_eq_mem, decide_eq_false_iff_not] at h
  refine ⟨h.2, fun e => ?_, h.1.1.1.2, h.1.1.2⟩
  have := h.1.1.1.1.1
  rw [e] at this
  exact absurd this (by decide)
theorem cleanRow_all : ∀ (ps row : List ByteArray), ps.all isName = true → cleanRow ps row = .ok (row ++ ps)
  | [], row, _ => by simp [cleanRow]
  | p :: ps, row, h => by
    rw [List.all_cons, Bool.and_eq_true] at h
    obtain ⟨_, n1, n2, n3⟩ := isName_no47 h.1
    rw [cleanRow, if_neg (by rw [Lib.toList_data]; rintro (e | e); exact n1 e; exact n2 e), if_neg (by rw [Lib.toList_data]; exact n3), if_pos h.1, cleanRow_all ps _ h.2]
    simp
theorem cleanRow_err : ∀ (ps row : List ByteArray) (e : Int), cleanRow ps row = .error e → e = 31 ∨ e = 32
  | [], row, e, h => by simp [cleanRow] at h
  | p :: ps, row, e, h => by
    unfold cleanRow at h
    split at h
    · exact cleanRow_err ps row e h
    · split at h
      · split at h
        · injection h with h; exact .inr h.symm
        · exact cleanRow_err ps _ e h
      · split at h
        · exact cleanRow_err ps _ e h
        · injection h with h; exact .inl h.symm
theorem joinB_parts (s : ByteArray) : joinB (parts s) = s := by
  unfold joinB parts
  rw [join_eq, List.map_map, show ((fun x : ByteArray => x.data.toList) ∘ B) = id from rfl, List.map_id]
  unfold partsL
  split
  · rename_i h
    exact ba_ext (by rw [B_data, h]; rfl)
  · rw [joinL_cutL, B_of]
theorem parts_joinB {row : List ByteArray} (h : row.all isName = true) : parts (joinB row) = row := by
  unfold joinB parts partsL
  rw [join_eq, B_data]
  cases row with
  | nil => rfl
  | cons x r =>
    have hne : joinL ((x :: r).map (·.data.toList)) ≠ [] := by
      have hx := (isName_no47 (by rw [List.all_cons, Bool.and_eq_true] at h; exact h.1)).2.1
      cases r with
      | nil => exact hx
      | cons y r =>
        show x.data.toList ++ 47 :: _ ≠ []
        simp
    rw [if_neg hne, cutL_joinL _ (by simp) (fun p hp => by
      obtain ⟨q, hq, rfl⟩ := List.mem_map.1 hp
      exact (isName_no47 (List.all_eq_true.1 h q hq)).1), List.map_map]
    exact List.map_id'' (fun x => B_of x) _
theorem isClean_eq (s : ByteArray) : isClean s = isCleanR s := by
  rw [Bool.eq_iff_iff]
  unfold isCleanR
  rw [Bool.and_eq_true, decide_eq_true_eq]
  constructor
  · intro h
    have hsz := isClean_size h
    unfold isClean clean at h
    rw [if_neg (by omega)] at h
    rcases hc : cleanRow (parts s) [] with e | row
    · rw [hc] at h
      rcases cleanRow_err _ _ _ hc with rfl | rfl <;> simp at h
    · rw [hc] at h
      have hn := cleanRow_names _ _ _ hc (fun q hq => by simp at hq)
      dsimp only at h
      split at h
      · simp at h
      · rename_i hl
        simp only [decide_true, Bool.true_and] at h
        have e := beq_path.1 h
        have hall : row.all isName = true := List.all_eq_true.2 hn
        have hp : parts s = row := by rw [← e]; exact parts_joinB hall
        rw [hp]
        exact ⟨hall, by omega⟩
  · rintro ⟨h1, h2⟩
    have hsz : s.size ≤ 4096 := by
      have e := joinB_parts s
      have hl := join_len ((parts s).map (·.data.toList)) 64 (fun x hx => by
        obtain ⟨q, hq, rfl⟩ := List.mem_map.1 hx
        exact isName_len (List.all_eq_true.1 h1 q hq))
      rw [List.length_map] at hl
      rw [← e]
      show (joinB (parts s)).data.toList.length ≤ 4096
      unfold joinB
      rw [B_data]
      omega
    have hc : clean s = (s, 0) := by
      unfold clean
      rw [if_neg (by omega), cleanRow_all _ _ h1, List.nil_append]
      show (if 32 < (parts s).length then _ else _) = _
      rw [if_neg (by omega), joinB_parts]
    unfold isClean
    rw [hc]
    simp
set_option maxRecDepth 8000 in
set_option maxHeartbeats 400000 in
theorem refIsClean_calls (s : ByteArray) (w : World) (hs : s.size ≤ 1048575) : Calls Tryz.prog 101 #[.string s] w fun e w' => e = .returned (.bool (isClean s)) ∧ Below w.heap.size w w' := by
  have la := parts_len s hs
  have PA := Aside0.mk (refParts_calls s w (by omega))
  obtain ⟨R, hR⟩ : ∃ R, R = isClean s := ⟨_, rfl⟩
  rw [← hR]
  obtain ⟨xs, hxs⟩ : ∃ xs, xs = parts s := ⟨_, rfl⟩
  have RR := Aside0.mk (show R = ((xs.drop 0).all isName && decide (xs.length ≤ 32)) by rw [hR, isClean_eq, hxs]; rfl)
  have XE := Aside0.mk hxs
  have XL := Aside0.mk (show ∀ p ∈ xs, p.size ≤ 1048576 from fun p hp => by
    rw [hxs] at hp
    unfold parts partsL at hp
    split at hp
    · simp at hp
    · obtain ⟨q, hq, rfl⟩ := List.mem_map.1 hp
      have hle : ∀ (l : List UInt8), ∀ q ∈ cutL l, q.length ≤ l.length := fun l => by
        induction l with
        | nil => intro q hq; simp [cutL] at hq; subst hq; exact Nat.le_refl _
        | cons c t ih =>
          intro q hq
          by_cases h : c = 47
          · simp only [cutL, if_pos h, List.mem_cons] at hq
            rcases hq with rfl | hq
            · exact Nat.zero_le _
            · exact Nat.le_succ_of_le (ih q hq)
          · obtain ⟨h', r, e1, e2⟩ := cutL_head (t := t) h
            rw [e2] at hq
            rcases List.mem_cons.1 hq with rfl | hq
            · have := ih h' (by rw [e1]; exact List.mem_cons_self)
              simp; omega
            · exact Nat.le_succ_of_le (ih q (by rw [e1]; exact List.mem_cons_of_mem _ hq))
      have := hle _ q hq
      have h2 : s.data.toList.length = s.size := rfl
      rw [B_size]
      omega)
  rw [← hxs] at la
  clear hR hxs
  go_enter Tryz.func101, Tryz.ntmps101
  go_wp2_with fail
  refine PA.out.mono ?_
  rintro e w1 ⟨v1, rfl, hO1, _, hB1⟩
  rw [← XE.out] at hO1
  obtain ⟨A1, c1, hv1, hr1⟩ := hO1.rdS
  subst hv1
  have R1 := Aside0.mk hr1
  have B1 := Aside0.mk hB1
  clear hO1 hB1 hr1
  go_wp2_with fail
  go_loopg [4] xs.length (fun g s4 wr => wr = w1 ∧ ∃ k : Nat, Aside0 (k + g = xs.length) ∧ s4 = .int .i64 k ∧ Aside0 (R = ((xs.drop k).all isName && decide (xs.length ≤ 32))))
  case atStart => exact ⟨rfl, 0, ⟨by omega⟩, rfl, RR⟩
  case round =>
    obtain ⟨rfl, k, HJ, rfl, HR⟩ := hrel
    have hkx : k ≤ xs.length := by have := HJ.out; omega
    have hr := HR.out
    by_cases hx : k < xs.length
    · obtain ⟨x, hx2⟩ : ∃ x, xs[k]? = some x := ⟨_, List.getElem?_eq_getElem hx⟩
      rw [List.drop_eq_getElem_cons hx, (List.getElem?_eq_some_iff.1 hx2).2, List.all_cons] at hr
      have XS := Aside0.mk (XL.out x (List.mem_of_getElem? hx2))
      obtain ⟨g1, o1, hA1, _, q1⟩ := R1.out (by intro h; rw [h] at hx; simp at hx)
      subst hA1
      have ka : wr.cell? ⟨g1, o1 + k, none⟩ = some (.string x) := q1 k x hx2
      clear q1 hx2
      rcases hn : isName x with _ | _
      · have HRR := Aside0.mk (show R = false by rw [hr, hn]; rfl)
        have HN := Aside0.mk hn
        clear hr hn
        go_wp2_with (first
          | (go_at_call 172
             have hcall := refIsName_calls x wr XS.out
             rw [HN.out] at hcall
             refine hcall.mono ?_
             rintro e wx ⟨rfl, hw⟩
             rw [hw]
             clear hw hcall)
          | fail)
        go_ret
        exact ⟨by rw [HRR.out]; rfl, B1.out⟩
      · have HRR := Aside0.mk (show R = ((xs.drop (k + 1)).all isName && decide (xs.length ≤ 32)) by rw [hr, hn]; rfl)
        have HN := Aside0.mk hn
        clear hr hn
        go_wp2_with (first
          | (go_at_call 172
             have hcall := refIsName_calls x wr XS.out
             rw [HN.out] at hcall
             refine hcall.mono ?_
             rintro e wx ⟨rfl, hw⟩
             rw [hw]
             clear hw hcall)
          | fail)
        go_roundg (xs.length - (k + 1))
        case measure => have := HJ.out; omega
        case rel => exact ⟨rfl, k + 1, ⟨by have := HJ.out; omega⟩, by go_num, HRR⟩
    · obtain rfl : k = xs.length := by omega
      rw [List.drop_length, List.all_nil, Bool.true_and] at hr
      have HRR := Aside0.mk (show R = decide ((xs.length : Int) ≤ 32) by rw [hr]; exact decide_eq_decide.2 (by omega))
      clear hr
      go_wp2_with fail
      go_ret
      exact ⟨by rw [HRR.out]; rfl, B1.out⟩
theorem joinL_snoc : ∀ (l : List (List UInt8)) (x : List UInt8), l ≠ [] → joinL (l ++ [x]) = joinL l ++ 47 :: x
  | [], _, h => absurd rfl h
  | [y], x, _ => rfl
  | y :: z :: r, x, _ => by
    have ih := joinL_snoc (z :: r) x (by simp)
    show y ++ 47 :: joinL ((z :: r) ++ [x]) = (y ++ 47 :: joinL (z :: r)) ++ 47 :: x
    rw [ih]; simp
def pathB (ps : List ByteArray) : ByteArray := B (joinL (ps.map (·.data.toList)))
def parentR (p : ByteArray) : ByteArray := pathB (parts p).dropLast
theorem parent_eq {p : ByteArray} (hc : isClean p = true) (hne : p.data.toList ≠ []) : parentR p = (splitP p).1 := by
  have hr := hc
  rw [isClean_eq] at hr
  unfold isCleanR at hr
  rw [Bool.and_eq_true] at hr
  have hp := joinB_parts p
  have hpn : parts p ≠ [] := fun e => by
    rw [e] at hp
    exact hne (by rw [← hp]; rfl)
  obtain ⟨ps, x, hps⟩ : ∃ ps x, parts p = ps ++ [x] := ⟨(parts p).dropLast, (parts p).getLast hpn, (List.dropLast_concat_getLast hpn).symm⟩
  have hx : (47 : UInt8) ∉ x.data.toList := (isName_no47 (List.all_eq_true.1 hr.1 x (by rw [hps]; simp))).1
  have hd : p.data.toList = joinL (ps.map (·.data.toList) ++ [x.data.toList]) := by
    conv => lhs; rw [← hp]
    unfold joinB
    rw [join_eq, hps, B_data, List.map_append]
    rfl
  unfold parentR
  rw [hps, List.dropLast_concat]
  unfold splitP
  rw [if_pos hc, if_neg (by rw [Lib.toList_data]; exact hne)]
  show pathB ps = p.extract 0 (max (Lib.lastIndexByte p 47) 0).toNat
  refine ba_ext ?_
  rw [Lib.extract_data]
  unfold pathB
  rw [B_data, List.drop_zero, Nat.sub_zero]
  have hget : ∀ j, (p.data[j]!).toNat = 47 → j < p.size → p.data.toList[j]? = some 47 := fun j h1 h2 => by
    rw [getElem!_pos p.data j h2] at h1
    rw [List.getElem?_eq_getElem (by exact h2), Array.getElem_toList]
    exact congrArg some (UInt8.toNat_inj.1 h1)
  have hget2 : ∀ j, j < p.size → p.data.toList[j]? = some 47 → (p.data[j]!).toNat = 47 := fun j h2 h1 => by
    rw [getElem!_pos p.data j h2]
    rw [List.getElem?_eq_getElem (by exact h2), Array.getElem_toList] at h1
    injection h1 with h1
    rw [h1]; rfl
  cases ps with
  | nil =>
    rw [List.map_nil, List.nil_append] at hd
    have hd : p.data.toList = x.data.toList := hd
    rcases Lib.lastIdx_spec p 47 p.size with ⟨h1, _⟩ | ⟨i, h1, h2, h3, _⟩
    · unfold Lib.lastIndexByte
      rw [h1]
      rfl
    · exfalso
      apply hx
      rw [← hd]
      exact List.mem_of_getElem? (hget i (by omega) h1)
  | cons y r =>
    rw [joinL_snoc _ _ (by simp)] at hd
    obtain ⟨J, hJ⟩ : ∃ J, J = joinL ((y :: r).map (·.data.toList)) := ⟨_, rfl⟩
    rw [← hJ] at hd ⊢
    have hat : p.data.toList[J.length]? = some 47 := by rw [hd, List.getElem?_append_right (Nat.le_refl _)]; simp
    have hlt : J.length < p.size := by
      have := (List.getElem?_eq_some_iff.1 hat).1
      exact this
    rcases Lib.lastIdx_spec p 47 p.size with ⟨_, h1⟩ | ⟨i, h1, h2, h3, h4⟩
    · exact absurd (show ((p.data[J.length]!).toNat : Int) = 47 by rw [hget2 _ hlt hat]; rfl) (h1 _ (by omega) )
    · have hi : i = J.length := by
        rcases Nat.lt_trichotomy i J.length with h | h | h
        · exact absurd (show ((p.data[J.length]!).toNat : Int) = 47 by rw [hget2 _ hlt hat]; rfl) (h4 _ h hlt)
        · exact h
        · exfalso
          have e := hget i (by omega) h1
          rw [hd, List.getElem?_append_right (by omega)] at e
          obtain ⟨k, hk⟩ : ∃ k, i - J.length = k + 1 := ⟨i - J.length - 1, by omega⟩
          rw [hk, List.getElem?_cons_succ] at e
          exact hx (List.mem_of_getElem? e)
      unfold Lib.lastIndexByte
      rw [h2, hi, hd]
      have e2 : (max (J.length : Int) 0).toNat = J.length := by omega
      rw [e2, List.take_left']
      rfl
end Go.Proofs.YtbpfmlckddhgbaaGreatDoor
/- The document's Path, parent, find. -/
namespace Go.Proofs.YtbpfmlckddhgbaaGreatDoor
set_option linter.unusedVariables false
set_option linter.unusedSimpArgs false
open Go Go.RowKit Go.Maps Go.WideMaps Go.Proofs.YtbpfmlckddhgbaaGreatDoorW.PrintWords
theorem run_catR (w : World) (a b : ByteArray) (h : a.size + b.size ≤ maxLen) : (binOp .add 9 (.string a) (.string b)).run Tryz.prog w = .ok (.string (a ++ b)) w := by
  have h1 : ¬ (((a.size + b.size : Nat) : Int) > IntKind.i64.max) := by
    have e : IntKind.i64.max = (maxLen : Int) := by decide
    rw [e]; omega
  simp only [binOp, Op.stringOp, if_neg h1]
  rfl
theorem pathB_one (x : ByteArray) : pathB [x] = x := ba_ext rfl
theorem pathB_snoc (ps : List ByteArray) (x : ByteArray) (h : ps ≠ []) : pathB (ps ++ [x]) = pathB ps ++ ⟨#[47]⟩ ++ x := by
  unfold pathB
  rw [List.map_append, List.map_cons, List.map_nil, joinL_snoc _ _ (by simpa using h)]
  refine ba_ext ?_
  rw [B_data, ByteArray.data_append, ByteArray.data_append, Array.toList_append, Array.toList_append]
  show _ = (joinL _ ++ [47]) ++ x.data.toList
  simp
theorem pathB_size (ps : List ByteArray) (hl : ∀ p ∈ ps, p.size ≤ 1048576) (hn : ps.length ≤ 1048577) : (pathB ps).size ≤ 1099513724929 := by
  have h := joinL_len (ps.map (·.data.toList)) 1048576 (fun x hx => by obtain ⟨q, hq, rfl⟩ := List.mem_map.1 hx; exact hl q hq)
  rw [List.length_map] at h
  show (joinL _).length ≤ _
  have h2 : ps.length * (1048576 + 1) ≤ 1048577 * (1048576 + 1) := Nat.mul_le_mul_right _ hn
  omega
set_option maxRecDepth 8000 in
set_option maxHeartbeats 400000 in
theorem refPath_calls (ps : List ByteArray) (A : Option Addr) (c hi : Nat) (w : World) (hR : RdS w hi A ps) (hl : ∀ p ∈ ps, p.size ≤ 1048576) (hn : ps.length ≤ 1048577) : Calls Tryz.prog 159 #[.slice A ps.length c] w fun e w' => e = .returned (.string (pathB ps)) ∧ w' = w := by
  have HR := Aside0.mk hR
  have HL := Aside0.mk hl
  have ZE := Aside0.mk (show (⟨#[]⟩ : ByteArray) = pathB (ps.take 0) from rfl)
  clear hR hl
  go_enter Tryz.func159, Tryz.ntmps159
  go_wp2_with fail
  go_loopg [3, 4] ps.length (fun g s3 s4 wr => wr = w ∧ ∃ (k : Nat) (acc : ByteArray), Aside0 (k + g = ps.length) ∧ s4 = .int .i64 k ∧ s3 = .string acc ∧ Aside0 (acc = pathB (ps.take k)))
  case atStart => exact ⟨rfl, 0, _, ⟨by omega⟩, rfl, rfl, ZE⟩
  case round =>
    obtain ⟨rfl, k, acc, HJ, rfl, rfl, HA⟩ := hrel
    have hkn : k ≤ ps.length := by have := HJ.out; omega
    by_cases hlt : k < ps.length
    · obtain ⟨x, hx⟩ : ∃ x, ps[k]? = some x := ⟨_, List.getElem?_eq_getElem hlt⟩
      obtain ⟨g1, o1, hA1, _, q1⟩ := HR.out (by intro h; rw [h] at hlt; simp at hlt)
      subst hA1
      have kx : wr.cell? ⟨g1, o1 + k, none⟩ = some (.string x) := q1 k x hx
      have TK := Aside0.mk (show ps.take (k + 1) = ps.take k ++ [x] by rw [List.take_add_one, hx]; rfl)
      have xs1 : x.size ≤ 1048576 := HL.out x (List.mem_of_getElem? hx)
      have as1 : acc.size ≤ 1099513724929 := by
        rw [HA.out]
        exact pathB_size _ (fun p hp => HL.out p (List.mem_of_mem_take hp)) (by have := List.length_take_le k ps; omega)
      clear q1 hx
      rcases Nat.eq_zero_or_pos k with hk | hk
      · subst hk
        have kx0 : wr.cell? ⟨g1, o1, none⟩ = some (.string x) := kx
        have HE := Aside0.mk (show acc ++ x = pathB (ps.take (0 + 1)) by
          rw [TK.out, HA.out]
          show ⟨#[]⟩ ++ x = pathB [x]
          rw [pathB_one]
          exact ba_ext (by rw [ByteArray.data_append, Array.toList_append]; rfl))
        have hcat : ∀ w, (binOp .add 9 (.string acc) (.string x)).run Tryz.prog w = .ok (.string (acc ++ x)) w := fun w => run_catR w acc x (by unfold maxLen; omega)
        go_wp2_with fail
        go_roundg (ps.length - (0 + 1))
        case measure => have := HJ.out; omega
        case rel => exact ⟨rfl, 0 + 1, _, ⟨by have := HJ.out; omega⟩, by go_num, rfl, HE⟩
      · have HE := Aside0.mk (show acc ++ ⟨#[47]⟩ ++ x = pathB (ps.take (k + 1)) by
          rw [TK.out, HA.out, pathB_snoc _ _ (by
            intro e
            have := congrArg List.length e
            rw [List.length_take, List.length_nil] at this
            omega)])
        have hcat1 : ∀ w, (binOp .add 9 (.string acc) (.string ⟨#[47]⟩)).run Tryz.prog w = .ok (.string (acc ++ ⟨#[47]⟩)) w := fun w => run_catR w acc ⟨#[47]⟩ (by show acc.size + 1 ≤ maxLen; unfold maxLen; omega)
        have hcat2 : ∀ w, (binOp .add 9 (.string (acc ++ ⟨#[47]⟩)) (.string x)).run Tryz.prog w = .ok (.string (acc ++ ⟨#[47]⟩ ++ x)) w := fun w => by
          have hz : (acc ++ (⟨#[47]⟩ : ByteArray)).size = acc.size + 1 := by rw [ByteArray.size_append]; rfl
          exact run_catR w (acc ++ ⟨#[47]⟩) x (by rw [hz]; unfold maxLen; omega)
        have t1 : decide ((k : Int) > 0) = true := decide_eq_true (by omega)
        go_wp2_with fail
        go_roundg (ps.length - (k + 1))
        case measure => have := HJ.out; omega
        case rel => exact ⟨rfl, k + 1, _, ⟨by have := HJ.out; omega⟩, by go_num, rfl, HE⟩
    · obtain rfl : k = ps.length := by omega
      have HE := Aside0.mk (show acc = pathB ps by rw [HA.out, List.take_length])
      go_wp2_with fail
      go_ret
      exact ⟨by rw [← HE.out]; rfl, rfl⟩
theorem Own.rdSc {w : World} {v : Value} {ps : List ByteArray} (h : Own w 9 v (ps.map Value.string)) : ∃ A c, v = .slice A ps.length c ∧ ps.length ≤ c ∧ RdS w w.heap.size A ps := by
  obtain ⟨A, c, hv, hc, _⟩ := h.reads
  obtain ⟨A2, c2, hv2, hr⟩ := h.rdS
  rw [List.length_map] at hv hc
  rw [hv] at hv2
  injection hv2 with e1 _ e3
  subst e1
  exact ⟨A, c, hv, hc, hr⟩
theorem RdS.take {w : World} {hi : Nat} {A : Option Addr} {ps : List ByteArray} (h : RdS w hi A ps) (k : Nat) : RdS w hi A (ps.take k) := fun hne => by
  obtain ⟨g, o, h1, h2, h3⟩ := h (fun e => hne (by rw [e, List.take_nil]))
  exact ⟨g, o, h1, h2, fun j p hp => h3 j p (by rw [List.getElem?_take] at hp; split at hp; exact hp; cases hp)⟩
theorem parts_le (s : ByteArray) : ∀ p ∈ parts s, p.size ≤ s.size := fun p hp => by
  unfold parts partsL at hp
  split at hp
  · simp at hp
  · obtain ⟨q, hq, rfl⟩ := List.mem_map.1 hp
    have hle : ∀ (l : List UInt8), ∀ q ∈ cutL l, q.length ≤ l.length := fun l => by
      induction l with
      | nil => intro q hq; simp [cutL] at hq; subst hq; exact Nat.le_refl _
      | cons c t ih =>
        intro q hq
        by_cases h : c = 47
        · simp only [cutL, if_pos h, List.mem_cons] at hq
          rcases hq with rfl | hq
          · exact Nat.zero_le _
          · exact Nat.le_succ_of_le (ih q hq)
        · obtain ⟨h', r, e1, e2⟩ := cutL_head (t := t) h
          rw [e2] at hq
          rcases List.mem_cons.1 hq with rfl | hq
          · have := ih h' (by rw [e1]; exact List.mem_cons_self)
            simp; omega
          · exact Nat.le_succ_of_le (ih q (by rw [e1]; exact List.mem_cons_of_mem _ hq))
    exact hle _ q hq
set_option maxRecDepth 8000 in
theorem refParent_calls (p : ByteArray) (w : World) (hp : p.size ≤ 1048575) (hne : p.data.toList ≠ []) : Calls Tryz.prog 91 #[.string p] w fun e w' => e = .returned (.string (parentR p)) ∧ Below w.heap.size w w' := by
  have la := parts_len p hp
  have PA := Aside0.mk (refParts_calls p w (by omega))
  obtain ⟨xs, hxs⟩ : ∃ xs, xs = parts p := ⟨_, rfl⟩
  have PE := Aside0.mk (show parentR p = pathB xs.dropLast by rw [hxs]; rfl)
  have XE := Aside0.mk hxs
  have XL := Aside0.mk (show ∀ q ∈ xs, q.size ≤ 1048576 from fun q hq => by rw [hxs] at hq; have := parts_le p q hq; omega)
  have hx0 : xs ≠ [] := fun e => hne (by
    have hj := joinB_parts p
    rw [← hxs, e] at hj
    rw [← hj]; rfl)
  obtain ⟨m, hm⟩ : ∃ m, xs.length = m + 1 := ⟨xs.length - 1, by have := List.length_pos_iff.2 hx0; omega⟩
  have MX := Aside0.mk hm
  have DL := Aside0.mk (show xs.dropLast = xs.take m by rw [List.dropLast_eq_take, hm]; rfl)
  have hmb : m ≤ 1048575 := by rw [← hxs] at la; omega
  clear hxs hne hx0 hm la
  go_enter Tryz.func91, Tryz.ntmps91
  go_wp2_with fail
  refine PA.out.mono ?_
  rintro e w1 ⟨v1, rfl, hO1, _, hB1⟩
  rw [← XE.out] at hO1
  obtain ⟨A1, c1, hv1, hc1, hr1⟩ := hO1.rdSc
  rw [MX.out] at hv1 hc1
  subst hv1
  have R1 := Aside0.mk (hr1.take m)
  have B1 := Aside0.mk hB1
  clear hO1 hB1 hr1
  go_wp2_with (first
    | (go_at_call 159
       have hcall := refPath_calls (xs.take m) A1 c1 _ w1 R1.out (fun q hq => XL.out q (List.mem_of_mem_take hq)) (by have := List.length_take_le m xs; omega)
       rw [show (xs.take m).length = m by rw [List.length_take, MX.out]; omega, ← DL.out, ← PE.out] at hcall
       refine hcall.mono ?_
       rintro e wx ⟨rfl, hw⟩
       rw [hw]
       clear hw hcall)
    | fail)
  go_ret
  exact ⟨rfl, B1.out⟩
structure Bis (its : List Itm) (p : ByteArray) (lo hi : Nat) : Prop where
  le : lo ≤ hi ∧ hi ≤ its.length
  low : ∀ j x, j < lo → its[j]? = some x → less x.path p = true
  high : ∀ j x, hi ≤ j → its[j]? = some x → less x.path p = false
namespace Bis
variable {its : List Itm} {p : ByteArray} {lo hi m : Nat} {x : Itm}
theorem start (its : List Itm) (p : ByteArray) : Bis its p 0 its.length := ⟨⟨Nat.zero_le _, Nat.le_refl _⟩, fun j x h => absurd h (by omega), fun j x h1 h2 => absurd (List.getElem?_eq_some_iff.1 h2).1 (by omega)⟩
theorem up (h : Bis its p lo hi) (hr : Rising its) (h1 : lo ≤ m) (h2 : m < hi) (hx : its[m]? = some x) (hl : less x.path p = true) : Bis its p (m + 1) hi := by
  refine ⟨⟨by omega, h.le.2⟩, fun j y hj hy => ?_, h.high⟩
  rcases Nat.lt_or_ge j m with h3 | h3
  · obtain ⟨q1, e1⟩ := List.getElem?_eq_some_iff.1 hy
    obtain ⟨q2, e2⟩ := List.getElem?_eq_some_iff.1 hx
    have := List.pairwise_iff_getElem.1 hr j m q1 q2 h3
    rw [e1, e2] at this
    exact less_trans this hl
  · obtain rfl : j = m := by omega
    rw [hx] at hy
    injection hy with hy
    rw [← hy]; exact hl
theorem down (h : Bis its p lo hi) (hr : Rising its) (h1 : lo ≤ m) (h2 : m < hi) (hx : its[m]? = some x) (hl : less x.path p = false) : Bis its p lo m := by
  refine ⟨⟨h1, by have := h.le.2; omega⟩, h.low, fun j y hj hy => ?_⟩
  rcases Nat.lt_or_ge m j with h3 | h3
  · obtain ⟨q1, e1⟩ := List.getElem?_eq_some_iff.1 hy
    obtain ⟨q2, e2⟩ := List.getElem?_eq_some_iff.1 hx
    have h4 := List.pairwise_iff_getElem.1 hr m j q2 q1 h3
    rw [e1, e2] at h4
    cases h5 : less y.path p with
    | false => rfl
    | true =>
      rw [less_trans h4 h5] at hl
      cases hl
  · obtain rfl : j = m := by omega
    rw [hx] at hy
    injection hy with hy
    rw [← hy]; exact hl
theorem none_at (h : Bis its p lo lo) (hn : ∀ x, its[lo]? = some x → x.path ≠ p) (hr : Rising its) : findM p its = none := by
  cases hf : findM p its with
  | none => rfl
  | some j =>
    exfalso
    obtain ⟨x, h1, h2⟩ := findM_some hf
    rcases Nat.lt_trichotomy j lo with h3 | h3 | h3
    · have := h.low j x h3 h1
      rw [h2] at this
      exact less_irrefl _ this
    · exact hn x (h3 ▸ h1) h2
    · obtain ⟨q1, e1⟩ := List.getElem?_eq_some_iff.1 h1
      obtain ⟨y, hy⟩ : ∃ y, its[lo]? = some y := ⟨_, List.getElem?_eq_getElem (by omega)⟩
      obtain ⟨q2, e2⟩ := List.getElem?_eq_some_iff.1 hy
      have h4 := List.pairwise_iff_getElem.1 hr lo j q2 q1 h3
      rw [e1, e2, h2] at h4
      have := h.high lo y (Nat.le_refl _) hy
      rw [h4] at this
      cases this
theorem some_at (h : Bis its p lo lo) (hx : its[lo]? = some x) (hp : x.path = p) (hr : Rising its) : findM p its = some lo := by
  obtain ⟨j, h1, h2⟩ := found_item hr (List.mem_of_getElem? hx)
  rw [hp] at h1
  rw [h1]
  rcases Nat.lt_trichotomy j lo with h3 | h3 | h3
  · have := h.low j x h3 h2
    rw [hp] at this
    exact absurd this (less_irrefl _)
  · rw [h3]
  · obtain ⟨q1, e1⟩ := List.getElem?_eq_some_iff.1 h2
    obtain ⟨q2, e2⟩ := List.getElem?_eq_some_iff.1 hx
    have h4 := List.pairwise_iff_getElem.1 hr lo j q2 q1 h3
    rw [e1, e2] at h4
    exact absurd h4 (less_irrefl _)
end Bis
set_option maxRecDepth 8000 in
set_option maxHeartbeats 1000000 in
theorem refFind_calls (w : World) (hi : Nat) (A : Option Addr) (c : Nat) (its : List Itm) (p : ByteArray) (hI : RdI w hi A its) (hhi : hi ≤ w.heap.size) (hlen : its.length ≤ 1048576) (hr : Rising its) (hps : ∀ x ∈ its, x.path.size ≤ 1048575) (hp : p.size ≤ 1048575) :
    Calls Tryz.prog 92 #[.slice A its.length c, .string p] w fun e w' => e = .returned (.int .i64 (findFrom p its 0)) ∧ Below w.heap.size w w' := by
  have HI := Aside0.mk hI
  have HH := Aside0.mk hhi
  have RI := Aside0.mk hr
  have PS := Aside0.mk hps
  obtain ⟨R, hR⟩ : ∃ R, R = findFrom p its 0 := ⟨_, rfl⟩
  rw [← hR]
  have RR := Aside0.mk hR
  clear hI hhi hr hps hR
  go_enter Tryz.func92, Tryz.ntmps92
  go_wp2_with fail
  go_loopg [5, 6] its.length (fun g s5 s6 wr => ∃ lo h : Nat, Aside0 (h - lo = g) ∧ s5 = .int .i64 lo ∧ s6 = .int .i64 h ∧ Aside0 (Bis its p lo h) ∧ Aside0 (Below w.heap.size w wr))
  case atStart => exact ⟨0, its.length, ⟨by omega⟩, rfl, rfl, ⟨Bis.start _ _⟩, ⟨Below.refl _ _⟩⟩
  case round =>
    obtain ⟨lo, h, HJ, rfl, rfl, HS, HB⟩ := hrel
    have hb1 := HS.out.le.1
    have hb2 := HS.out.le.2
    have IT := Aside0.mk (show ∀ j x, its[j]? = some x → ∃ g0 o0, A = some ⟨g0, o0, none⟩ ∧ wr.cell? ⟨g0, o0 + j * 3, none⟩ = some (.string x.path) from fun j x hx => by
      obtain ⟨g0, o0, hA, _, hits⟩ := (HI.out.only (Only.of_below (S := fun _ => False) HB.out) HH.out (fun _ h => h.elim)) (by intro e; rw [e] at hx; simp at hx)
      obtain ⟨A', c', hrow, _⟩ := hits j x hx
      exact ⟨g0, o0, hA, by have e := hrow 0 _ rfl; exact e⟩)
    by_cases hlt : lo < h
    · obtain ⟨m, hm⟩ : ∃ m, m = (lo + h) / 2 := ⟨_, rfl⟩
      have hm1 : lo ≤ m := by omega
      have hm2 : m < h := by omega
      have hq : ((lo : Int) + (h : Int)) / 2 = (m : Int) := by omega
      obtain ⟨x, hx⟩ : ∃ x, its[m]? = some x := ⟨_, List.getElem?_eq_getElem (by omega)⟩
      obtain ⟨g0, o0, hA, kx⟩ := IT.out m x hx
      subst hA
      have XS := Aside0.mk (show x.path.size ≤ 1048575 from PS.out x (List.mem_of_getElem? hx))
      rcases hl : less x.path p with _ | _
      · have NX := Aside0.mk (HS.out.down RI.out hm1 hm2 hx hl)
        have LS := Aside0.mk hl
        clear hx hl hm
        go_wp2_with (first
          | (go_at_call 102
             refine (refLess_calls x.path p wr XS.out hp).mono ?_
             rintro e w9 ⟨rfl, hB⟩
             rw [LS.out]
             have B9 := Aside0.mk (HB.out.trans (hB.mono HB.out.size))
             clear hB)
          | fail)
        go_roundg (m - lo)
        case measure => have := HJ.out; omega
        case rel => exact ⟨lo, m, ⟨rfl⟩, rfl, rfl, NX, B9⟩
      · have NX := Aside0.mk (HS.out.up RI.out hm1 hm2 hx hl)
        have LS := Aside0.mk hl
        clear hx hl hm
        go_wp2_with (first
          | (go_at_call 102
             refine (refLess_calls x.path p wr XS.out hp).mono ?_
             rintro e w9 ⟨rfl, hB⟩
             rw [LS.out]
             have B9 := Aside0.mk (HB.out.trans (hB.mono HB.out.size))
             clear hB)
          | fail)
        go_roundg (h - (m + 1))
        case measure => have := HJ.out; omega
        case rel => exact ⟨m + 1, h, ⟨rfl⟩, by go_num, rfl, NX, B9⟩
    · obtain rfl : lo = h := by omega
      by_cases hln : lo < its.length
      · obtain ⟨x, hx⟩ : ∃ x, its[lo]? = some x := ⟨_, List.getElem?_eq_getElem hln⟩
        obtain ⟨g0, o0, hA, kx⟩ := IT.out lo x hx
        subst hA
        rcases hq : (x.path.toList == p.toList) with _ | _
        · have HRR := Aside0.mk (show R = -1 by
            rw [RR.out]
            unfold findFrom
            rw [HS.out.none_at (fun y hy e => by
              rw [hx] at hy
              injection hy with hy
              rw [← hy] at e
              rw [beq_path.2 e] at hq
              cases hq) RI.out])
          clear hx
          go_wp2_with fail
          go_ret
          exact ⟨by rw [HRR.out]; rfl, HB.out⟩
        · have HRR := Aside0.mk (show R = (lo : Int) by
            rw [RR.out]
            unfold findFrom
            rw [HS.out.some_at hx (beq_path.1 hq) RI.out]
            show ((0 + lo : Nat) : Int) = _
            omega)
          clear hx
          go_wp2_with fail
          go_ret
          exact ⟨by rw [HRR.out]; rfl, HB.out⟩
      · have HRR := Aside0.mk (show R = -1 by
          rw [RR.out]
          unfold findFrom
          rw [HS.out.none_at (fun y hy e => absurd (List.getElem?_eq_some_iff.1 hy).1 (by omega)) RI.out])
        go_wp2_with fail
        go_ret
        exact ⟨by rw [HRR.out]; rfl, HB.out⟩
end Go.Proofs.YtbpfmlckddhgbaaGreatDoor
/- A region that draws its order, whose own operations only read, some of them guarded and not wanted: what is ready is taken, one behind the other, up to the next call or to the end. -/
namespace Go.Proofs.YtbpfmlckddhgbaaGreatDoor
open Go Go.RowKit Go.Maps Go.Proofs.YtbpfmlckddhgbaaGreatDoorW.PrintWords Go.Proofs.YtbpfmlckddhgbaaGreatDoorW.PrintLast
section
variable {P : Program} {ops : Array Oper} {Q : Exit → Act → World → Prop} {md : Region.Mode} {S : World → Prop} {ds : List Nat}
def takesP2 (P : Program) (ops : Array Oper) (S : World → Prop) (R : Act → Prop) : List (Nat × Bool) → Act → Prop
  | [], a => R a
  | (i, p) :: is, a => ∃ oi v, ops[i]? = some oi ∧ ((Region.wanted oi (yielded ops a.tmps) = true ∧ ∀ w, (p = true ∨ S w) → (execOp a.eval oi).run P w = .ok (.value v) w) ∨ (Region.wanted oi (yielded ops a.tmps) = false ∧ v = undef)) ∧ takesP2 P ops S R is (a.put oi.dst v)
theorem takes_first2 {R : Act → Prop} {w : World} {n : Nat} (hQ : ∀ c (a : Act) d v w, Q (.panic c) (a.put d v) w → Q (.panic c) a w) (hS : S w) : ∀ (is : List (Nat × Bool)) (l : Array Bool) (a : Act), takesB md ops ds is l = true → takesP2 P ops S R is a →
    (∀ a', R a' → wpAnyLast P md ops Q S ds n (setAll is l) a' w) → wpAnyLast P md ops Q S ds (n + is.length) l a w
  | [], _, a, _, h, hn => hn a h
  | (i, p) :: is, l, a, hB, ⟨oi, v, hi, hy, h⟩, hn => by
    simp only [takesB, Bool.and_eq_true] at hB
    have ih := takes_first2 hQ hS is (l.setIfInBounds i true) (a.put oi.dst v) hB.2 h hn
    rw [List.length_cons, ← Nat.add_assoc]
    cases p with
    | true => exact pure_ (l.setIfInBounds i true) hi rfl (by simpa using hB.1) (fun c a w => hQ c a _ _ w) (hy.elim (fun hy => .inl ⟨hy.1, fun w => hy.2 w (.inl rfl)⟩) (fun hy => .inr hy)) rfl ih
    | false => exact take_ (l.setIfInBounds i true) hi rfl (by simpa using hB.1) (fun c a w => hQ c a _ _ w) (hy.elim (fun hy => .inl ⟨hy.1, fun w hSw => hy.2 w (.inr hSw)⟩) (fun hy => .inr hy)) hS rfl ih
theorem takes_region2 {id : Nat} {a : Act} {w : World} (is : List (Nat × Bool)) (m : Nat) (hm : P.follows .mixedOrders = true) (hn : ops.size = m + is.length) (hB : takesB .any ops ds is (Array.replicate ops.size false) = true)
    (hQ : ∀ c (a : Act) d v w, Q (.panic c) (a.put d v) w → Q (.panic c) a w) (hS : S w.drew) (l : Array Bool) (hl : setAll is (Array.replicate ops.size false) = l)
    (h : takesP2 P ops S (fun a' => wpAnyLast P .any ops Q S ds m l a' w.drew) is a) : (Code.region id ops true).wp P Q a w := by
  refine wp_region_last (ds := ds) (S := S) hm ?_
  have := takes_first2 (n := m) hQ hS is _ a hB h (fun a' h => by rw [hl]; exact h)
  rw [hn]
  rw [hn] at this
  exact this
theorem takes_more {a : Act} {w : World} {l : Array Bool} (is : List (Nat × Bool)) (m N : Nat) (hn : N = m + is.length) (hB : takesB md ops ds is l = true)
    (hQ : ∀ c (a : Act) d v w, Q (.panic c) (a.put d v) w → Q (.panic c) a w) (hS : S w) (l' : Array Bool) (hl : setAll is l = l')
    (h : takesP2 P ops S (fun a' => wpAnyLast P md ops Q S ds m l' a' w) is a) : wpAnyLast P md ops Q S ds N l a w := by
  subst hn
  exact takes_first2 (n := m) hQ hS is l a hB h (fun a' h => by rw [hl]; exact h)
theorem takes2_done {R : Act → Prop} {a : Act} (h : R a) : takesP2 P ops S R [] a := h
theorem tk2 {R : Act → Prop} {i : Nat} {N : Option Tmp} {p : Bool} {is : List (Nat × Bool)} {a a' : Act} {oi : Oper} {v : Value} (hi : ops[i]? = some oi) (hN : oi.dst = N) (hw : Region.wanted oi (yielded ops a.tmps) = true) (hrun : ∀ w, (p = true ∨ S w) → (execOp a.eval oi).run P w = .ok (.value v) w)
    (ha : a.put N v = a') (h : takesP2 P ops S R is a') : takesP2 P ops S R ((i, p) :: is) a := by subst ha; subst hN; exact ⟨oi, v, hi, .inl ⟨hw, hrun⟩, h⟩
theorem tko {R : Act → Prop} {i : Nat} {N : Option Tmp} {p : Bool} {is : List (Nat × Bool)} {a a' : Act} {oi : Oper} (hi : ops[i]? = some oi) (hN : oi.dst = N) (hw : Region.wanted oi (yielded ops a.tmps) = false)
    (ha : a.put N undef = a') (h : takesP2 P ops S R is a') : takesP2 P ops S R ((i, p) :: is) a := by subst ha; subst hN; exact ⟨oi, undef, hi, .inr ⟨hw, rfl⟩, h⟩
end
end Go.Proofs.YtbpfmlckddhgbaaGreatDoor
/- The plain law of the document's IsTree: what its table tells is what the program's map tells. -/
namespace Go.Proofs.YtbpfmlckddhgbaaGreatDoor
open Go
def posOf (its : List Itm) (i : Nat) (k : List UInt8) : Option Nat := if k = [] then some its.length else match findM (B k) (its.take i) with
  | none => none
  | some j => if (its[j]?.map (·.dir)) = some true then some j else none
def cntOf (its : List Itm) (i : Nat) (bs : List Nat) : Cnt := fun k => (posOf its i k).bind (fun j => bs[j]?)
theorem cntOf_zero (its : List Itm) : cntOf its 0 (List.replicate (its.length + 1) 0) = cnt0 := by
  funext k
  unfold cntOf posOf cnt0
  by_cases hk : k = []
  · rw [if_pos hk, if_pos hk]; simp
  · rw [if_neg hk, if_neg hk]; rfl
theorem posOf_some {its : List Itm} {i : Nat} {k : List UInt8} {j : Nat} (h : posOf its i k = some j) (hk : k ≠ []) : j < i ∧ ∃ y, its[j]? = some y ∧ y.path = B k ∧ y.dir = true := by
  unfold posOf at h
  rw [if_neg hk] at h
  rcases hf : findM (B k) (its.take i) with _ | m
  · rw [hf] at h; simp at h
  · rw [hf] at h
    obtain ⟨y, h1, h2⟩ := findM_some hf
    simp only at h
    split at h
    · rename_i hd
      injection h with h
      subst h
      rw [List.getElem?_take] at h1
      split at h1
      · rename_i hlt
        rw [h1] at hd
        exact ⟨hlt, y, h1, h2, by simpa using hd⟩
      · exact absurd h1 (by simp)
    · simp at h
theorem posOf_inj {its : List Itm} {i : Nat} {k k' : List UInt8} {j : Nat} (h : posOf its i k = some j) (h' : posOf its i k' = some j) : k = k' := by
  by_cases hk : k = []
  · by_cases hk' : k' = []
    · rw [hk, hk']
    · obtain ⟨_, y, h1, _⟩ := posOf_some h' hk'
      unfold posOf at h
      rw [if_pos hk] at h
      injection h with h
      subst h
      simp at h1
  · by_cases hk' : k' = []
    · obtain ⟨_, y, h1, _⟩ := posOf_some h hk
      unfold posOf at h'
      rw [if_pos hk'] at h'
      injection h' with h'
      subst h'
      simp at h1
    · obtain ⟨_, y, h1, h2, _⟩ := posOf_some h hk
      obtain ⟨_, z, h3, h4, _⟩ := posOf_some h' hk'
      rw [h1] at h3
      injection h3 with h3
      subst h3
      exact B_inj (h2.symm.trans h4)
theorem findM_snoc (p : ByteArray) (x : Itm) : ∀ xs : List Itm, findM p (xs ++ [x]) = match findM p xs with | some j => some j | none => if (x.path.toList == p.toList) = true then some xs.length else none
  | [] => by show findM p [x] = if (x.path.toList == p.toList) = true then some 0 else none; rw [findM]; split <;> rfl
  | y :: xs => by
    rw [List.cons_append, findM, findM]
    split
    · rfl
    · rw [findM_snoc p x xs]
      cases findM p xs with
      | some j => rfl
      | none => simp only [Option.map_none]; split <;> simp
theorem findM_none_of {p : ByteArray} {its : List Itm} (h : ∀ x ∈ its, x.path ≠ p) : findM p its = none := by
  rcases hm : findM p its with _ | j
  · rfl
  · obtain ⟨x, h1, h2⟩ := findM_some hm
    exact absurd h2 (h x (List.mem_of_getElem? h1))
theorem posOf_next {its : List Itm} {i : Nat} {x : Itm} (hx : its[i]? = some x) (hnew : ∀ y ∈ its.take i, y.path ≠ x.path) (hne : x.path.data.toList ≠ []) (k : List UInt8) :
    posOf its (i + 1) k = if k = x.path.data.toList then (if x.dir = true then some i else none) else posOf its i k := by
  have hlt : i < its.length := (List.getElem?_eq_some_iff.1 hx).1
  have ht : its.take (i + 1) = its.take i ++ [x] := by rw [List.take_add_one, hx]; rfl
  by_cases hk : k = x.path.data.toList
  · rw [if_pos hk]
    unfold posOf
    rw [if_neg (by rw [hk]; exact hne), ht, findM_snoc, hk, B_of, findM_none_of hnew]
    simp only [beq_self_eq_true, if_true]
    rw [List.length_take, Nat.min_eq_left (Nat.le_of_lt hlt), hx]
    show (if some x.dir = some true then some i else none) = _
    rcases x.dir with _ | _ <;> rfl
  · rw [if_neg hk]
    unfold posOf
    by_cases h0 : k = []
    · rw [if_pos h0, if_pos h0]
    · rw [if_neg h0, if_neg h0, ht, findM_snoc]
      cases findM (B k) (its.take i) with
      | some j => rfl
      | none =>
        have : (x.path.toList == (B k).toList) = false := by
          rw [beq_eq_false_iff_ne]
          intro e
          refine hk ?_
          have h1 : x.path = B k := beq_path.1 (beq_iff_eq.2 e)
          rw [h1, B_data]
        simp only [this]
        rfl
theorem cnt_step {its : List Itm} {i : Nat} {x : Itm} {bs : List Nat} {a b : Nat} (hx : its[i]? = some x) (hnew : ∀ y ∈ its.take i, y.path ≠ x.path) (hne : x.path.data.toList ≠ []) (hz : bs[i]? = some 0)
    (ha : posOf its i (upOf x) = some a) (hb : bs[a]? = some b) (hup : upOf x ≠ x.path.data.toList) : stepC (cntOf its i bs) x = cntOf its (i + 1) (bs.set a (b + 1)) := by
  have hlt : i < its.length := (List.getElem?_eq_some_iff.1 hx).1
  have hcu : cntOf its i bs (upOf x) = some b := by unfold cntOf; rw [ha]; exact hb
  have hai : a ≠ i := by
    by_cases h0 : upOf x = []
    · unfold posOf at ha; rw [if_pos h0] at ha; injection ha with ha; omega
    · have := (posOf_some ha h0).1; omega
  funext k
  rw [stepC_at _ _ hcu k]
  have hR : cntOf its (i + 1) (bs.set a (b + 1)) k = (if k = x.path.data.toList then (if x.dir = true then some i else none) else posOf its i k).bind (fun j => (bs.set a (b + 1))[j]?) := by
    unfold cntOf; rw [posOf_next hx hnew hne k]
  rw [hR]
  by_cases hk : k = x.path.data.toList
  · rw [if_pos hk]
    by_cases hd : x.dir = true
    · rw [if_pos ⟨hd, hk⟩, if_pos hd]
      show some 0 = (bs.set a (b + 1))[i]?
      rw [List.getElem?_set, if_neg hai, hz]
    · rw [if_neg (fun h => hd h.1), if_neg hd, if_neg (fun e => hup (e.symm.trans hk))]
      show cntOf its i bs k = none
      unfold cntOf posOf
      rw [if_neg (by rw [hk]; exact hne), hk, B_of, findM_none_of hnew]
      rfl
  · rw [if_neg (fun h => hk h.2), if_neg hk]
    by_cases hu : k = upOf x
    · rw [if_pos hu, hu, ha]
      show some (b + 1) = (bs.set a (b + 1))[a]?
      rw [List.getElem?_set, if_pos rfl, if_pos (List.getElem?_eq_some_iff.1 hb).1]
    · rw [if_neg hu]
      unfold cntOf
      rcases hp : posOf its i k with _ | j
      · rfl
      · show bs[j]? = (bs.set a (b + 1))[j]?
        rw [List.getElem?_set, if_neg (fun e => hu (posOf_inj (its := its) (i := i) (j := j) hp (by rw [ha, e])))]
def badP (prev : Option ByteArray) (x : Itm) : Bool := x.path.toList.isEmpty || (!isClean x.path || (match prev with | none => false | some q => !less q x.path))
def badS (x : Itm) : Bool := (x.dir && decide (0 < x.data.length)) || decide (1048576 < x.data.length)
theorem badP_ok {prev : Option ByteArray} {x : Itm} (h : badP prev x = false) : isClean x.path = true ∧ x.path.data.toList ≠ [] ∧ ∀ q, prev = some q → less q x.path = true := by
  unfold badP at h
  rw [Bool.or_eq_false_iff, Bool.or_eq_false_iff] at h
  obtain ⟨h1, h2, h3⟩ := h
  refine ⟨by simpa using h2, fun e => ?_, fun q hq => ?_⟩
  · rw [Lib.toList_data, e] at h1; simp at h1
  · subst hq; simpa using h3
theorem split_ok {x : Itm} (h1 : isClean x.path = true) (h2 : x.path.data.toList ≠ []) : (splitP x.path).2.2 = 0 := by
  unfold splitP
  rw [if_pos h1, if_neg (by rw [Lib.toList_data]; exact h2)]
theorem ok_split {x : Itm} (h : (splitP x.path).2.2 = 0) : isClean x.path = true ∧ x.path.data.toList ≠ [] := by
  unfold splitP at h
  split at h
  · rename_i hc
    refine ⟨hc, fun e => ?_⟩
    rw [if_pos (by rw [Lib.toList_data]; exact e)] at h
    exact absurd h (by decide)
  · exact absurd h (by decide)
theorem item_bad {prev : Option ByteArray} {cnt : Cnt} {x : Itm} (h : badP prev x = true) : itemOk prev cnt x = false := by
  rw [Bool.eq_false_iff]
  intro hi
  obtain ⟨h1, _, h3, _⟩ := (itemOk_iff _ _ _).1 hi
  obtain ⟨h4, h5⟩ := ok_split h1
  have : badP prev x = false := by
    unfold badP
    rw [Bool.or_eq_false_iff, Bool.or_eq_false_iff]
    refine ⟨?_, by rw [h4]; rfl, ?_⟩
    · rw [Lib.toList_data]; cases hh : x.path.data.toList with
      | nil => exact absurd hh h5
      | cons => rfl
    · cases prev with
      | none => rfl
      | some q => simp [h3 q rfl]
  rw [this] at h; exact absurd h (by decide)
theorem item_big {prev : Option ByteArray} {cnt : Cnt} {x : Itm} (h : badS x = true) : itemOk prev cnt x = false := by
  rw [Bool.eq_false_iff]
  intro hi
  have h3 := ((itemOk_iff _ _ _).1 hi).2.2.2
  unfold badS at h
  rcases hd : x.dir with _ | _
  · rw [hd] at h h3; simp at h h3; omega
  · rw [hd] at h h3; simp at h h3; rw [h3.1] at h; simp at h
theorem item_up {prev : Option ByteArray} {cnt : Cnt} {x : Itm} (h : cnt (upOf x) = none) : itemOk prev cnt x = false := by
  rw [Bool.eq_false_iff]
  intro hi
  obtain ⟨n, h1, _⟩ := ((itemOk_iff _ _ _).1 hi).2.1
  rw [h] at h1; simp at h1
theorem item_full {prev : Option ByteArray} {cnt : Cnt} {x : Itm} {n : Nat} (h : cnt (upOf x) = some n) (hn : 1024 ≤ n) : itemOk prev cnt x = false := by
  rw [Bool.eq_false_iff]
  intro hi
  obtain ⟨m, h1, h2⟩ := ((itemOk_iff _ _ _).1 hi).2.1
  rw [h] at h1; injection h1 with h1; omega
theorem item_good {prev : Option ByteArray} {cnt : Cnt} {x : Itm} {n : Nat} (h1 : badP prev x = false) (h2 : badS x = false) (h3 : cnt (upOf x) = some n) (hn : n < 1024) : itemOk prev cnt x = true := by
  obtain ⟨g1, g2, g3⟩ := badP_ok h1
  refine (itemOk_iff _ _ _).2 ⟨split_ok g1 g2, ⟨n, h3, hn⟩, g3, ?_⟩
  unfold badS at h2
  rcases hd : x.dir with _ | _
  · rw [hd] at h2; simp at h2 ⊢; omega
  · rw [hd] at h2; simp at h2 ⊢; omega
theorem up_ne {x : Itm} (hc : isClean x.path = true) (hne : x.path.data.toList ≠ []) : upOf x ≠ x.path.data.toList := fun e => by
  have e3 : (splitP x.path).1 = x.path := ba_ext e
  have hz : (splitP x.path).1.size < x.path.size := by
    unfold splitP
    rw [if_pos hc, if_neg (by rw [Lib.toList_data]; exact hne)]
    have := lastIndex_bd x.path 47
    have hsz : 0 < x.path.size := by rw [ba_size]; exact List.length_pos_iff.2 hne
    show (x.path.extract _ _).size < _
    rw [ByteArray.size_extract]
    omega
  rw [e3] at hz
  omega
theorem rising_take {its : List Itm} {i : Nat} {x : Itm} (hx : its[i]? = some x) (hr : Rising (its.take i)) (hp : ∀ q, prevOf its i = some q → less q x.path = true) : Rising (its.take (i + 1)) ∧ ∀ y ∈ its.take i, y.path ≠ x.path := by
  have hlt : i < its.length := (List.getElem?_eq_some_iff.1 hx).1
  have ht : its.take (i + 1) = its.take i ++ [x] := by rw [List.take_add_one, hx]; rfl
  have hall : ∀ y ∈ its.take i, less y.path x.path = true := by
    intro y hy
    cases i with
    | zero => simp at hy
    | succ k =>
      obtain ⟨z, hz⟩ : ∃ z, its[k]? = some z := ⟨_, List.getElem?_eq_getElem (by omega)⟩
      have hzx : less z.path x.path = true := hp z.path (by show (its[k]?).map (·.path) = _; rw [hz]; rfl)
      rw [List.take_add_one, hz] at hy hr
      rcases List.mem_append.1 hy with h | h
      · exact less_trans ((List.pairwise_append.1 hr).2.2 y h z (by simp)) hzx
      · have : y = z := by simpa using h
        rw [this]; exact hzx
  refine ⟨?_, fun y hy e => ?_⟩
  · unfold Rising
    rw [ht, List.pairwise_append]
    exact ⟨hr, List.pairwise_singleton _ _, fun a ha b hb => by rw [List.mem_singleton.1 hb]; exact hall a ha⟩
  · have := hall y hy
    rw [e] at this
    exact less_irrefl _ this
structure ItRel (its : List Itm) (i all : Nat) (bs : List Nat) (R : Bool) : Prop where
  len : bs.length = its.length + 1
  zero : ∀ j, i ≤ j → j < its.length → bs[j]? = some 0
  top : ∀ b ∈ bs, b ≤ 1024
  rise : Rising (its.take i)
  law : R = chkM (its.drop i) (prevOf its i) (cntOf its i bs) all
namespace ItRel
variable {its : List Itm} {i all : Nat} {bs : List Nat} {R : Bool} {x : Itm} {a b : Nat}
theorem start (its : List Itm) : ItRel its 0 0 (List.replicate (its.length + 1) 0) (chkM its none cnt0 0) :=
  ⟨by simp, fun j _ h => by rw [List.getElem?_replicate, if_pos (by omega)], fun b hb => by rw [(List.mem_replicate.1 hb).2]; omega, List.Pairwise.nil, by rw [cntOf_zero]; rfl⟩
theorem done (h : ItRel its i all bs R) (hi : its.length ≤ i) : R = decide (all ≤ 67108864) := by
  rw [h.law, List.drop_eq_nil_of_le hi]; rfl
theorem here (h : ItRel its i all bs R) (hx : its[i]? = some x) : R = (itemOk (prevOf its i) (cntOf its i bs) x && chkM (its.drop (i + 1)) (some x.path) (stepC (cntOf its i bs) x) (all + x.data.length)) := by
  rw [h.law]
  obtain ⟨hlt, e⟩ := List.getElem?_eq_some_iff.1 hx
  rw [List.drop_eq_getElem_cons hlt, e]; rfl
theorem bad (h : ItRel its i all bs R) (hx : its[i]? = some x) (hb : badP (prevOf its i) x = true) : R = false := by rw [h.here hx, item_bad hb]; rfl
theorem big (h : ItRel its i all bs R) (hx : its[i]? = some x) (hb : badS x = true) : R = false := by rw [h.here hx, item_big hb]; rfl
theorem lost (h : ItRel its i all bs R) (hx : its[i]? = some x) (hp : posOf its i (upOf x) = none) : R = false := by rw [h.here hx, item_up (by unfold cntOf; rw [hp]; rfl)]; rfl
theorem full (h : ItRel its i all bs R) (hx : its[i]? = some x) (hp : posOf its i (upOf x) = some a) (hb : bs[a]? = some b) (hn : 1024 ≤ b) : R = false := by rw [h.here hx, item_full (n := b) (by unfold cntOf; rw [hp]; exact hb) hn]; rfl
theorem next (h : ItRel its i all bs R) (hx : its[i]? = some x) (h1 : badP (prevOf its i) x = false) (h2 : badS x = false) (hp : posOf its i (upOf x) = some a) (hb : bs[a]? = some b) (hn : b < 1024) : ItRel its (i + 1) (all + x.data.length) (bs.set a (b + 1)) R := by
  obtain ⟨g1, g2, g3⟩ := badP_ok h1
  obtain ⟨r1, r2⟩ := rising_take hx h.rise g3
  have hlt : i < its.length := (List.getElem?_eq_some_iff.1 hx).1
  have hai : a < i ∨ a = its.length := by
    by_cases h0 : upOf x = []
    · unfold posOf at hp; rw [if_pos h0] at hp; injection hp with hp; exact .inr hp.symm
    · exact .inl (posOf_some hp h0).1
  refine ⟨by rw [List.length_set]; exact h.len, fun j hj1 hj2 => ?_, fun c hc => ?_, r1, ?_⟩
  · rw [List.getElem?_set, if_neg (by omega)]; exact h.zero j (by omega) hj2
  · rcases List.mem_or_eq_of_mem_set hc with hc | hc
    · exact h.top c hc
    · omega
  · rw [h.here hx, item_good h1 h2 (n := b) (by unfold cntOf; rw [hp]; exact hb) hn, Bool.true_and, cnt_step hx r2 g2 (h.zero i (Nat.le_refl _) hlt) hp hb (up_ne g1 g2)]
    show _ = chkM (its.drop (i + 1)) ((its[i]?).map (·.path)) _ _
    rw [hx]; rfl
end ItRel
end Go.Proofs.YtbpfmlckddhgbaaGreatDoor
/- The document's IsTree. -/
namespace Go.Proofs.YtbpfmlckddhgbaaGreatDoor
set_option linter.unusedVariables false
set_option linter.unusedSimpArgs false
open Go Go.RowKit Go.Maps Go.WideMaps Go.Proofs.YtbpfmlckddhgbaaGreatDoorW.PrintWords Go.Proofs.YtbpfmlckddhgbaaGreatDoorW.PrintLast
def bcells (bs : List Nat) : List Value := bs.map (fun (n : Nat) => Value.int .i64 (n : Int))
structure ItSt (w wr : World) (hi : Nat) (A : Option Addr) (its : List Itm) (bb : Nat) (bs : List Nat) : Prop where
  tab : At wr bb 3 (bcells bs)
  below : Below w.heap.size w wr
  own : w.heap.size ≤ bb
  items : RdI wr hi A its
  hi_ : hi ≤ w.heap.size
namespace ItSt
variable {w wr w1 : World} {hi : Nat} {A : Option Addr} {its : List Itm} {bb : Nat} {bs : List Nat}
theorem step (h : ItSt w wr hi A its bb bs) (hb : Below wr.heap.size wr w1) : ItSt w w1 hi A its bb bs :=
  ⟨h.tab.below hb h.tab.lt, h.below.trans (hb.mono h.below.size), h.own, h.items.only (Only.of_below (S := fun _ => False) hb) (Nat.le_trans h.hi_ h.below.size) (fun _ h => h.elim), h.hi_⟩
theorem write {S : Nat → Prop} (h : ItSt w wr hi A its bb bs) (ho : Only S wr.heap.size wr w1) (hS : ∀ b, S b → w.heap.size ≤ b ∧ b ≠ bb) : ItSt w w1 hi A its bb bs := by
  have h1 := h.hi_
  exact ⟨ho.at_ h.tab.lt (fun hs => (hS _ hs).2 rfl) h.tab, h.below.trans (ho.to_below h.below.size (fun b hb => (hS b hb).1)), h.own, h.items.only ho (Nat.le_trans h1 h.below.size) (fun b hb => Nat.le_trans h1 (hS b hb).1), h1⟩
theorem put (h : ItSt w wr hi A its bb bs) (k n : Nat) : ItSt w (wr.setCell ⟨bb, k, none⟩ (.int .i64 (n : Int))) hi A its bb (bs.set k n) := by
  have ho : Only (· = bb) wr.heap.size wr (wr.setCell ⟨bb, k, none⟩ (.int .i64 (n : Int))) := Only.setCell (S := (· = bb)) (a := ⟨bb, k, none⟩) (Only.refl _ _ _) (.inl rfl) _
  have h1 := h.hi_
  have h2 := h.own
  refine ⟨by unfold bcells; rw [List.map_set]; exact h.tab.setCell k _, h.below.trans (ho.to_below h.below.size (fun b hb => by have e : b = bb := hb; omega)), h.own, h.items.only ho (Nat.le_trans h1 h.below.size) (fun b hb => by have e : b = bb := hb; omega), h1⟩
end ItSt
theorem info3m : (Tryz.prog.info? 3).map (fun i => (i.zero, i.size, i.bytes)) = some (some (.int .i64 0), 1, 8) := by kernel_rfl
theorem tu171 : Tryz.prog.underlying 171 = some (.slice 3) := by kernel_rfl
theorem rdI_take {w : World} {hi : Nat} {A : Option Addr} {its : List Itm} (h : RdI w hi A its) (i : Nat) : RdI w hi A (its.take i) := fun hne => by
  obtain ⟨g, o, e, h1, h2⟩ := h (fun e => hne (by rw [e]; simp))
  exact ⟨g, o, e, h1, fun j x hx => h2 j x (by rw [List.getElem?_take] at hx; split at hx; (· exact hx); (· simp at hx))⟩
theorem its_cell {W : World} {hi g0 o0 : Nat} {its : List Itm} (hr : RdI W hi (some ⟨g0, o0, none⟩) its) {j : Nat} {y : Itm} (hy : its[j]? = some y) : W.cell? ⟨g0, o0 + j * 3, none⟩ = some (.string y.path) ∧ W.cell? ⟨g0, o0 + j * 3 + 1, none⟩ = some (.bool y.dir) := by
  obtain ⟨g1, o1, e1, _, hits⟩ := hr (by intro h; rw [h] at hy; simp at hy)
  injection e1 with e1
  injection e1 with e1 e2 _
  subst e1 e2
  obtain ⟨A', c2, hrow, _⟩ := hits j y hy
  exact ⟨by have e := hrow 0 _ rfl; exact e, by have e := hrow 1 _ rfl; exact e⟩
set_option maxRecDepth 8000 in
set_option maxHeartbeats 8000000 in
theorem refIsTree_calls (w : World) (hi : Nat) (A : Option Addr) (c : Nat) (its : List Itm) (hI : RdI w hi A its) (hhi : hi ≤ w.heap.size) (hps : ∀ x ∈ its, x.path.size ≤ 1048575 ∧ x.data.length ≤ 1099511627776) (hlen : its.length ≤ 1099511627776) (hc : its.length ≤ c) :
    Calls Tryz.prog 51 #[.slice A its.length c] w fun e w' => e = .returned (.bool (isTreeM its)) ∧ Below w.heap.size w w' := by
  have HI := Aside0.mk hI
  have HH := Aside0.mk hhi
  have PS := Aside0.mk hps
  obtain ⟨n, hn⟩ : ∃ n, n = its.length := ⟨_, rfl⟩
  have NN := Aside0.mk hn
  by_cases hl : its.length < 65536
  · have hres : isTreeM its = chkM its none cnt0 0 := by unfold isTreeM; rw [decide_eq_true hl]; rfl
    rw [hres]
    obtain ⟨R, hR⟩ : ∃ R, R = chkM its none cnt0 0 := ⟨_, rfl⟩
    rw [← hR, ← hn]
    rw [← hn] at hl hc
    have RR := Aside0.mk (show ItRel its 0 0 (List.replicate (its.length + 1) 0) R by rw [hR]; exact ItRel.start its)
    have t1 : decide ((n : Int) ≥ 65536) = false := decide_eq_false (by omega)
    have t1b : decide (65536 ≤ (n : Int)) = false := decide_eq_false (by omega)
    clear hI hhi hps hres hR hlen hn
    go_enter Tryz.func51, Tryz.ntmps51
    go_wp2_with (first
      | (refine arm_make rfl _ _ 171 3 rfl (.int .i64 0) rfl (n + 1) 8 tu171 info3m rfl rfl (by omega) (by omega) ?_
         intro W3 bb hb hA hB
         have S3 := Aside0.mk (show ItSt w W3 hi A its bb (List.replicate (its.length + 1) 0) from ⟨by unfold bcells; rw [List.map_replicate, ← NN.out]; exact hA, hB, by omega, HI.out.only (Only.of_below (S := fun _ => False) hB) HH.out (fun _ h => h.elim), HH.out⟩)
         clear hb hA hB)
      | fail)
    go_loopg [3, 5] n (fun g s3 s5 wr => ∃ (i all : Nat) (bs : List Nat), Aside0 (i + g = n) ∧ s5 = .int .i64 i ∧ s3 = .int .i64 (all : Int) ∧ Aside0 (ItSt w wr hi A its bb bs) ∧ Aside0 (ItRel its i all bs R) ∧ all ≤ i * 1099511627776)
    case atStart => exact ⟨0, 0, _, ⟨by omega⟩, rfl, rfl, S3, RR, by omega⟩
    case round =>
      obtain ⟨i, all, bs, HJ, rfl, rfl, HS, HR, hall⟩ := hrel
      by_cases hlt : i < n
      · obtain ⟨x, hx⟩ : ∃ x, its[i]? = some x := ⟨_, List.getElem?_eq_getElem (by have := NN.out; omega)⟩
        obtain ⟨g0, o0, hA, hg0, hits⟩ := HS.out.items (by intro h; rw [h] at hx; simp at hx)
        obtain ⟨A', c', hrow, _, _⟩ := hits i x hx
        subst hA
        have ROW := Aside0.mk hrow
        have HX := Aside0.mk hx
        obtain ⟨XS0, XD0⟩ := PS.out x (List.mem_of_getElem? hx)
        have XS := Aside0.mk XS0
        obtain ⟨m, hm⟩ : ∃ m, m = x.data.length := ⟨_, rfl⟩
        rw [← hm] at XD0
        have MX := Aside0.mk hm
        obtain ⟨BP, hBP⟩ : ∃ BP, BP = badP (prevOf its i) x := ⟨_, rfl⟩
        have BPE := Aside0.mk hBP
        obtain ⟨BS, hBS⟩ : ∃ BS, BS = badS x := ⟨_, rfl⟩
        have BSE := Aside0.mk hBS
        clear hits hrow hx XS0 hm hBP hBS hg0
        go_upto_region 9 with (first
            | (refine arm_load_row rfl 50 _ rfl g0 (o0 + i * 3) rfl (icells x A' c') ROW.out row50 size50 ?_
               intro v25 hv
               have V25 := Aside0.mk hv
               clear hv)
            | (refine arm_alloc rfl 50 rfl _ _ info50 ?_; intro W6 b6 hb hW
               have G := V25.out
               have hB : Below wr.heap.size wr W6 := by subst hW; exact (Below.refl _ _).alloc (Nat.le_refl _) _
               have N6 := Aside0.mk (show At W6 b6 50 (icells noItm none 0) by subst hW hb; exact At.new _ _ _)
               have S6 := Aside0.mk (HS.out.step hB)
               have L6 := Aside0.mk (show b6 = wr.heap.size from hb)
               clear hb hW hB G)
            | (refine arm_store_row rfl 50 _ _ rfl b6 50 _ (icells x A' c') rfl V25.out N6.out rfl size50 (one_icells _ _ _) ?_
               intro W7 hW
               have hO : Only (· = b6) W6.heap.size W6 W7 := by subst hW; exact Only.setRow (S := (· = b6)) (Only.refl _ _ _) (.inl rfl) _
               have l6 := L6.out
               have l1 := HS.out.below.size
               have l2 := HS.out.tab.lt
               have N7 := Aside0.mk (show At W7 b6 50 (icells x A' c') by subst hW; exact N6.out.setRow _)
               have S7 := Aside0.mk (S6.out.write hO (fun b hb => by have e : b = b6 := hb; omega))
               have kp : W7.cell? ⟨b6, 0, none⟩ = some (.string x.path) := by rw [N7.out.cell]; rfl
               have kd : W7.cell? ⟨b6, 1, none⟩ = some (.bool x.dir) := by rw [N7.out.cell]; rfl
               have km : W7.cell? ⟨b6, 2, none⟩ = some (.slice A' m c') := by rw [N7.out.cell, MX.out]; rfl
               clear hW hO l6 l1 l2)
            | fail)
        simp only [Act.put, List.setIfInBounds_toArray, List.set_cons_zero, List.set_cons_succ]
        go_cut [50] from 16 to 102 (fun s50 wc => s50 = .bool BP ∧ Aside0 (ItSt w wc hi (some ⟨g0, o0, none⟩) its bb bs) ∧ Aside0 (At wc b6 50 (icells x A' c')))
        case first =>
          rcases h0 : x.path.toList.isEmpty with _ | _
          · rcases hcl : isClean x.path with _ | _
            · have CL := Aside0.mk hcl
              have EM := Aside0.mk h0
              clear hcl
              have HALL : Aside0 (∀ w' : World, w'.cell? ⟨b6, 0, none⟩ = some (.string x.path) → w'.cell? ⟨b6, 0, none⟩ = some (.string x.path)) := ⟨fun _ h => h⟩
              refine takes_region2 (S := fun w' => w'.cell? ⟨b6, 0, none⟩ = some (.string x.path)) (ds := []) [(0, true), (1, false), (2, true), (3, true), (4, true), (5, false)] 19 (by kernel_rfl) rfl (by kernel_rfl) (fun _ _ dd _ _ h => by cases dd <;> exact h) kp
                #[true, true, true, true, true, true, false, false, false, false, false, false, false, false, false, false, false, false, false, false, false, false, false, false, false] (by kernel_rfl) ?_
              refine tk2 (N := some 26) (v := ?vv1) (a' := ?aa1) rfl rfl rfl ?hr1 ?ha1 ?nx1
              case hr1 => (intro w' hS; first | (go_simp; with_reducible rfl) | (obtain hS | hS := hS; (· cases hS); have hF := HALL.out w' hS; go_simp; with_reducible rfl))
              case ha1 => (simp only [Act.put, List.setIfInBounds_toArray, List.set_cons_zero, List.set_cons_succ]; rfl)
              refine tk2 (N := some 27) (v := ?vv2) (a' := ?aa2) rfl rfl rfl ?hr2 ?ha2 ?nx2
              case hr2 => (intro w' hS; first | (go_simp; with_reducible rfl) | (obtain hS | hS := hS; (· cases hS); have hF := HALL.out w' hS; go_simp; with_reducible rfl))
              case ha2 => (simp only [Act.put, List.setIfInBounds_toArray, List.set_cons_zero, List.set_cons_succ]; rfl)
              refine tk2 (N := some 28) (v := ?vv3) (a' := ?aa3) rfl rfl rfl ?hr3 ?ha3 ?nx3
              case hr3 => (intro w' hS; first | (go_simp; with_reducible rfl) | (obtain hS | hS := hS; (· cases hS); have hF := HALL.out w' hS; go_simp; with_reducible rfl))
              case ha3 => (simp only [Act.put, List.setIfInBounds_toArray, List.set_cons_zero, List.set_cons_succ]; rfl)
              refine tk2 (N := some 29) (v := ?vv4) (a' := ?aa4) rfl rfl rfl ?hr4 ?ha4 ?nx4
              case hr4 => (intro w' hS; first | (go_simp; with_reducible rfl) | (obtain hS | hS := hS; (· cases hS); have hF := HALL.out w' hS; go_simp; with_reducible rfl))
              case ha4 => (simp only [Act.put, List.setIfInBounds_toArray, List.set_cons_zero, List.set_cons_succ]; rfl)
              refine tk2 (N := some 30) (v := ?vv5) (a' := ?aa5) rfl rfl rfl ?hr5 ?ha5 ?nx5
              case hr5 => (intro w' hS; first | (go_simp; with_reducible rfl) | (obtain hS | hS := hS; (· cases hS); have hF := HALL.out w' hS; go_simp; with_reducible rfl))
              case ha5 => (simp only [Act.put, List.setIfInBounds_toArray, List.set_cons_zero, List.set_cons_succ]; rfl)
              refine tk2 (N := some 31) (v := ?vv6) (a' := ?aa6) rfl rfl rfl ?hr6 ?ha6 ?nx6
              case hr6 => (intro w' hS; first | (go_simp; with_reducible rfl) | (obtain hS | hS := hS; (· cases hS); have hF := HALL.out w' hS; go_simp; with_reducible rfl))
              case ha6 => (simp only [Act.put, List.setIfInBounds_toArray, List.set_cons_zero, List.set_cons_succ]; rfl)
              refine takes2_done ?_
              refine one_ (i := 6) (N := some 32) #[true, true, true, true, true, true, true, false, false, false, false, false, false, false, false, false, false, false, false, false, false, false, false, false, false] rfl rfl (by kernel_rfl) (by decide) (fun K hK => ?_)
              refine goes_ Tryz.func101 (by kernel_rfl) rfl #[.string x.path] (by rfl) rfl rfl (by simp only [List.map_toArray, List.map_cons, List.map_nil]; rfl) ?_
              have D7 := S7.out.step (show Below W7.heap.size W7 W7.drew from ⟨rfl, rfl, rfl, Nat.le_refl _, fun _ _ => rfl⟩)
              have M7 : At W7.drew b6 50 (icells x A' c') := N7.out
              refine (refIsClean_calls x.path W7.drew XS.out).mono ?_
              rintro e w8 ⟨rfl, hB⟩
              rw [CL.out]
              have S8 := Aside0.mk (D7.step hB)
              have N8 := Aside0.mk (M7.below hB M7.lt)
              have K8 := Aside0.mk (show w8.cell? ⟨b6, 0, none⟩ = some (.string x.path) from by rw [N8.out.cell]; rfl)
              clear hB D7 M7
              refine ⟨_, rfl, ?_⟩
              refine hK _ _ K8.out (fun _ => ?_)
              clear hK K
              refine frame_ (a' := ?aa49) ?ha49 ?nx49
              case ha49 =>
                simp only [Go.Proofs.YtbpfmlckddhgbaaGreatDoorW.PrintLast.putAll, Act.put, List.setIfInBounds_toArray, List.set_cons_zero, List.set_cons_succ]
                rfl
              refine takes_more (S := fun w' => w'.cell? ⟨b6, 0, none⟩ = some (.string x.path)) (ds := []) [(7, true), (8, true), (9, true), (10, true), (11, true), (12, true), (13, true), (14, true), (15, true), (16, true), (17, true), (18, true), (19, true), (20, true), (21, true), (22, true), (23, true), (24, true)] 0 18 rfl (by kernel_rfl) (fun _ _ dd _ _ h => by cases dd <;> exact h) K8.out
                #[true, true, true, true, true, true, true, true, true, true, true, true, true, true, true, true, true, true, true, true, true, true, true, true, true] (by kernel_rfl) ?_
              refine tk2 (N := some 33) (v := ?vv7) (a' := ?aa7) rfl rfl rfl ?hr7 ?ha7 ?nx7
              case hr7 => (intro w' hS; first | (go_simp; with_reducible rfl) | (obtain hS | hS := hS; (· cases hS); have hF := HALL.out w' hS; go_simp; with_reducible rfl))
              case ha7 => (simp only [Act.put, List.setIfInBounds_toArray, List.set_cons_zero, List.set_cons_succ]; rfl)
              refine tk2 (N := some 34) (v := ?vv8) (a' := ?aa8) rfl rfl rfl ?hr8 ?ha8 ?nx8
              case hr8 => (intro w' hS; first | (go_simp; with_reducible rfl) | (obtain hS | hS := hS; (· cases hS); have hF := HALL.out w' hS; go_simp; with_reducible rfl))
              case ha8 => (simp only [Act.put, List.setIfInBounds_toArray, List.set_cons_zero, List.set_cons_succ]; rfl)
              refine tk2 (N := some 35) (v := ?vv9) (a' := ?aa9) rfl rfl rfl ?hr9 ?ha9 ?nx9
              case hr9 => (intro w' hS; first | (go_simp; with_reducible rfl) | (obtain hS | hS := hS; (· cases hS); have hF := HALL.out w' hS; go_simp; with_reducible rfl))
              case ha9 => (simp only [Act.put, List.setIfInBounds_toArray, List.set_cons_zero, List.set_cons_succ]; rfl)
              refine tko (N := some 36) (a' := ?aa10) rfl rfl rfl ?ha10 ?nx10
              case ha10 => (simp only [Act.put, List.setIfInBounds_toArray, List.set_cons_zero, List.set_cons_succ]; rfl)
              refine tko (N := some 37) (a' := ?aa11) rfl rfl rfl ?ha11 ?nx11
              case ha11 => (simp only [Act.put, List.setIfInBounds_toArray, List.set_cons_zero, List.set_cons_succ]; rfl)
              refine tko (N := some 38) (a' := ?aa12) rfl rfl rfl ?ha12 ?nx12
              case ha12 => (simp only [Act.put, List.setIfInBounds_toArray, List.set_cons_zero, List.set_cons_succ]; rfl)
              refine tko (N := some 39) (a' := ?aa13) rfl rfl rfl ?ha13 ?nx13
              case ha13 => (simp only [Act.put, List.setIfInBounds_toArray, List.set_cons_zero, List.set_cons_succ]; rfl)
              refine tko (N := some 40) (a' := ?aa14) rfl rfl rfl ?ha14 ?nx14
              case ha14 => (simp only [Act.put, List.setIfInBounds_toArray, List.set_cons_zero, List.set_cons_succ]; rfl)
              refine tko (N := some 41) (a' := ?aa15) rfl rfl rfl ?ha15 ?nx15
              case ha15 => (simp only [Act.put, List.setIfInBounds_toArray, List.set_cons_zero, List.set_cons_succ]; rfl)
              refine tko (N := some 42) (a' := ?aa16) rfl rfl rfl ?ha16 ?nx16
              case ha16 => (simp only [Act.put, List.setIfInBounds_toArray, List.set_cons_zero, List.set_cons_succ]; rfl)
              refine tko (N := some 43) (a' := ?aa17) rfl rfl rfl ?ha17 ?nx17
              case ha17 => (simp only [Act.put, List.setIfInBounds_toArray, List.set_cons_zero, List.set_cons_succ]; rfl)
              refine tko (N := some 44) (a' := ?aa18) rfl rfl rfl ?ha18 ?nx18
              case ha18 => (simp only [Act.put, List.setIfInBounds_toArray, List.set_cons_zero, List.set_cons_succ]; rfl)
              refine tko (N := some 45) (a' := ?aa19) rfl rfl rfl ?ha19 ?nx19
              case ha19 => (simp only [Act.put, List.setIfInBounds_toArray, List.set_cons_zero, List.set_cons_succ]; rfl)
              refine tko (N := some 46) (a' := ?aa20) rfl rfl rfl ?ha20 ?nx20
              case ha20 => (simp only [Act.put, List.setIfInBounds_toArray, List.set_cons_zero, List.set_cons_succ]; rfl)
              refine tko (N := some 47) (a' := ?aa21) rfl rfl rfl ?ha21 ?nx21
              case ha21 => (simp only [Act.put, List.setIfInBounds_toArray, List.set_cons_zero, List.set_cons_succ]; rfl)
              refine tko (N := some 48) (a' := ?aa22) rfl rfl rfl ?ha22 ?nx22
              case ha22 => (simp only [Act.put, List.setIfInBounds_toArray, List.set_cons_zero, List.set_cons_succ]; rfl)
              refine tko (N := some 49) (a' := ?aa23) rfl rfl rfl ?ha23 ?nx23
              case ha23 => (simp only [Act.put, List.setIfInBounds_toArray, List.set_cons_zero, List.set_cons_succ]; rfl)
              refine tk2 (N := some 50) (v := ?vv24) (a' := ?aa24) rfl rfl rfl ?hr24 ?ha24 ?nx24
              case hr24 => (intro w' hS; first | (go_simp; with_reducible rfl) | (obtain hS | hS := hS; (· cases hS); have hF := HALL.out w' hS; go_simp; with_reducible rfl))
              case ha24 => (simp only [Act.put, List.setIfInBounds_toArray, List.set_cons_zero, List.set_cons_succ]; rfl)
              refine takes2_done ?_
              refine done_ (by kernel_rfl) ?_
              go_wp2_with fail
              go_meet
              refine ⟨congrArg Value.bool ?_, S8, N8⟩
              rw [BPE.out]; unfold badP; rw [EM.out, CL.out]; rfl
            · rcases Nat.eq_zero_or_pos i with hi0 | hi0
              · have CL := Aside0.mk hcl
                have EM := Aside0.mk h0
                subst hi0
                have PJ := Aside0.mk (show prevOf its 0 = none from rfl)
                clear hcl
                have HALL : Aside0 (∀ w' : World, w'.cell? ⟨b6, 0, none⟩ = some (.string x.path) → w'.cell? ⟨b6, 0, none⟩ = some (.string x.path)) := ⟨fun _ h => h⟩
                refine takes_region2 (S := fun w' => w'.cell? ⟨b6, 0, none⟩ = some (.string x.path)) (ds := []) [(0, true), (1, false), (2, true), (3, true), (4, true), (5, false)] 19 (by kernel_rfl) rfl (by kernel_rfl) (fun _ _ dd _ _ h => by cases dd <;> exact h) kp
                  #[true, true, true, true, true, true, false, false, false, false, false, false, false, false, false, false, false, false, false, false, false, false, false, false, false] (by kernel_rfl) ?_
                refine tk2 (N := some 26) (v := ?vv25) (a' := ?aa25) rfl rfl rfl ?hr25 ?ha25 ?nx25
                case hr25 => (intro w' hS; first | (go_simp; with_reducible rfl) | (obtain hS | hS := hS; (· cases hS); have hF := HALL.out w' hS; go_simp; with_reducible rfl))
                case ha25 => (simp only [Act.put, List.setIfInBounds_toArray, List.set_cons_zero, List.set_cons_succ]; rfl)
                refine tk2 (N := some 27) (v := ?vv26) (a' := ?aa26) rfl rfl rfl ?hr26 ?ha26 ?nx26
                case hr26 => (intro w' hS; first | (go_simp; with_reducible rfl) | (obtain hS | hS := hS; (· cases hS); have hF := HALL.out w' hS; go_simp; with_reducible rfl))
                case ha26 => (simp only [Act.put, List.setIfInBounds_toArray, List.set_cons_zero, List.set_cons_succ]; rfl)
                refine tk2 (N := some 28) (v := ?vv27) (a' := ?aa27) rfl rfl rfl ?hr27 ?ha27 ?nx27
                case hr27 => (intro w' hS; first | (go_simp; with_reducible rfl) | (obtain hS | hS := hS; (· cases hS); have hF := HALL.out w' hS; go_simp; with_reducible rfl))
                case ha27 => (simp only [Act.put, List.setIfInBounds_toArray, List.set_cons_zero, List.set_cons_succ]; rfl)
                refine tk2 (N := some 29) (v := ?vv28) (a' := ?aa28) rfl rfl rfl ?hr28 ?ha28 ?nx28
                case hr28 => (intro w' hS; first | (go_simp; with_reducible rfl) | (obtain hS | hS := hS; (· cases hS); have hF := HALL.out w' hS; go_simp; with_reducible rfl))
                case ha28 => (simp only [Act.put, List.setIfInBounds_toArray, List.set_cons_zero, List.set_cons_succ]; rfl)
                refine tk2 (N := some 30) (v := ?vv29) (a' := ?aa29) rfl rfl rfl ?hr29 ?ha29 ?nx29
                case hr29 => (intro w' hS; first | (go_simp; with_reducible rfl) | (obtain hS | hS := hS; (· cases hS); have hF := HALL.out w' hS; go_simp; with_reducible rfl))
                case ha29 => (simp only [Act.put, List.setIfInBounds_toArray, List.set_cons_zero, List.set_cons_succ]; rfl)
                refine tk2 (N := some 31) (v := ?vv30) (a' := ?aa30) rfl rfl rfl ?hr30 ?ha30 ?nx30
                case hr30 => (intro w' hS; first | (go_simp; with_reducible rfl) | (obtain hS | hS := hS; (· cases hS); have hF := HALL.out w' hS; go_simp; with_reducible rfl))
                case ha30 => (simp only [Act.put, List.setIfInBounds_toArray, List.set_cons_zero, List.set_cons_succ]; rfl)
                refine takes2_done ?_
                refine one_ (i := 6) (N := some 32) #[true, true, true, true, true, true, true, false, false, false, false, false, false, false, false, false, false, false, false, false, false, false, false, false, false] rfl rfl (by kernel_rfl) (by decide) (fun K hK => ?_)
                refine goes_ Tryz.func101 (by kernel_rfl) rfl #[.string x.path] (by rfl) rfl rfl (by simp only [List.map_toArray, List.map_cons, List.map_nil]; rfl) ?_
                have D7 := S7.out.step (show Below W7.heap.size W7 W7.drew from ⟨rfl, rfl, rfl, Nat.le_refl _, fun _ _ => rfl⟩)
                have M7 : At W7.drew b6 50 (icells x A' c') := N7.out
                refine (refIsClean_calls x.path W7.drew XS.out).mono ?_
                rintro e w8 ⟨rfl, hB⟩
                rw [CL.out]
                have S8 := Aside0.mk (D7.step hB)
                have N8 := Aside0.mk (M7.below hB M7.lt)
                have K8 := Aside0.mk (show w8.cell? ⟨b6, 0, none⟩ = some (.string x.path) from by rw [N8.out.cell]; rfl)
                clear hB D7 M7
                refine ⟨_, rfl, ?_⟩
                refine hK _ _ K8.out (fun _ => ?_)
                clear hK K
                refine frame_ (a' := ?aa50) ?ha50 ?nx50
                case ha50 =>
                  simp only [Go.Proofs.YtbpfmlckddhgbaaGreatDoorW.PrintLast.putAll, Act.put, List.setIfInBounds_toArray, List.set_cons_zero, List.set_cons_succ]
                  rfl
                refine takes_more (S := fun w' => w'.cell? ⟨b6, 0, none⟩ = some (.string x.path)) (ds := []) [(7, true), (8, true), (9, true), (10, true), (11, true), (12, true), (13, true), (14, true), (15, true), (16, true), (17, true), (18, true), (19, true), (20, true), (21, true), (22, true), (23, true), (24, true)] 0 18 rfl (by kernel_rfl) (fun _ _ dd _ _ h => by cases dd <;> exact h) K8.out
                  #[true, true, true, true, true, true, true, true, true, true, true, true, true, true, true, true, true, true, true, true, true, true, true, true, true] (by kernel_rfl) ?_
                refine tk2 (N := some 33) (v := ?vv31) (a' := ?aa31) rfl rfl rfl ?hr31 ?ha31 ?nx31
                case hr31 => (intro w' hS; first | (go_simp; with_reducible rfl) | (obtain hS | hS := hS; (· cases hS); have hF := HALL.out w' hS; go_simp; with_reducible rfl))
                case ha31 => (simp only [Act.put, List.setIfInBounds_toArray, List.set_cons_zero, List.set_cons_succ]; rfl)
                refine tk2 (N := some 34) (v := ?vv32) (a' := ?aa32) rfl rfl rfl ?hr32 ?ha32 ?nx32
                case hr32 => (intro w' hS; first | (go_simp; with_reducible rfl) | (obtain hS | hS := hS; (· cases hS); have hF := HALL.out w' hS; go_simp; with_reducible rfl))
                case ha32 => (simp only [Act.put, List.setIfInBounds_toArray, List.set_cons_zero, List.set_cons_succ]; rfl)
                refine tk2 (N := some 35) (v := ?vv33) (a' := ?aa33) rfl rfl rfl ?hr33 ?ha33 ?nx33
                case hr33 => (intro w' hS; first | (go_simp; with_reducible rfl) | (obtain hS | hS := hS; (· cases hS); have hF := HALL.out w' hS; go_simp; with_reducible rfl))
                case ha33 => (simp only [Act.put, List.setIfInBounds_toArray, List.set_cons_zero, List.set_cons_succ]; rfl)
                refine tk2 (N := some 36) (v := ?vv34) (a' := ?aa34) rfl rfl rfl ?hr34 ?ha34 ?nx34
                case hr34 => (intro w' hS; first | (go_simp; with_reducible rfl) | (obtain hS | hS := hS; (· cases hS); have hF := HALL.out w' hS; go_simp; with_reducible rfl))
                case ha34 => (simp only [Act.put, List.setIfInBounds_toArray, List.set_cons_zero, List.set_cons_succ]; rfl)
                refine tk2 (N := some 37) (v := ?vv35) (a' := ?aa35) rfl rfl rfl ?hr35 ?ha35 ?nx35
                case hr35 => (intro w' hS; first | (go_simp; with_reducible rfl) | (obtain hS | hS := hS; (· cases hS); have hF := HALL.out w' hS; go_simp; with_reducible rfl))
                case ha35 => (simp only [Act.put, List.setIfInBounds_toArray, List.set_cons_zero, List.set_cons_succ]; rfl)
                refine tk2 (N := some 38) (v := ?vv36) (a' := ?aa36) rfl rfl rfl ?hr36 ?ha36 ?nx36
                case hr36 => (intro w' hS; first | (go_simp; with_reducible rfl) | (obtain hS | hS := hS; (· cases hS); have hF := HALL.out w' hS; go_simp; with_reducible rfl))
                case ha36 => (simp only [Act.put, List.setIfInBounds_toArray, List.set_cons_zero, List.set_cons_succ]; rfl)
                refine tko (N := some 39) (a' := ?aa37) rfl rfl rfl ?ha37 ?nx37
                case ha37 => (simp only [Act.put, List.setIfInBounds_toArray, List.set_cons_zero, List.set_cons_succ]; rfl)
                refine tko (N := some 40) (a' := ?aa38) rfl rfl rfl ?ha38 ?nx38
                case ha38 => (simp only [Act.put, List.setIfInBounds_toArray, List.set_cons_zero, List.set_cons_succ]; rfl)
                refine tko (N := some 41) (a' := ?aa39) rfl rfl rfl ?ha39 ?nx39
                case ha39 => (simp only [Act.put, List.setIfInBounds_toArray, List.set_cons_zero, List.set_cons_succ]; rfl)
                refine tko (N := some 42) (a' := ?aa40) rfl rfl rfl ?ha40 ?nx40
                case ha40 => (simp only [Act.put, List.setIfInBounds_toArray, List.set_cons_zero, List.set_cons_succ]; rfl)
                refine tko (N := some 43) (a' := ?aa41) rfl rfl rfl ?ha41 ?nx41
                case ha41 => (simp only [Act.put, List.setIfInBounds_toArray, List.set_cons_zero, List.set_cons_succ]; rfl)
                refine tko (N := some 44) (a' := ?aa42) rfl rfl rfl ?ha42 ?nx42
                case ha42 => (simp only [Act.put, List.setIfInBounds_toArray, List.set_cons_zero, List.set_cons_succ]; rfl)
                refine tko (N := some 45) (a' := ?aa43) rfl rfl rfl ?ha43 ?nx43
                case ha43 => (simp only [Act.put, List.setIfInBounds_toArray, List.set_cons_zero, List.set_cons_succ]; rfl)
                refine tko (N := some 46) (a' := ?aa44) rfl rfl rfl ?ha44 ?nx44
                case ha44 => (simp only [Act.put, List.setIfInBounds_toArray, List.set_cons_zero, List.set_cons_succ]; rfl)
                refine tko (N := some 47) (a' := ?aa45) rfl rfl rfl ?ha45 ?nx45
                case ha45 => (simp only [Act.put, List.setIfInBounds_toArray, List.set_cons_zero, List.set_cons_succ]; rfl)
                refine tko (N := some 48) (a' := ?aa46) rfl rfl rfl ?ha46 ?nx46
                case ha46 => (simp only [Act.put, List.setIfInBounds_toArray, List.set_cons_zero, List.set_cons_succ]; rfl)
                refine tk2 (N := some 49) (v := ?vv47) (a' := ?aa47) rfl rfl rfl ?hr47 ?ha47 ?nx47
                case hr47 => (intro w' hS; first | (go_simp; with_reducible rfl) | (obtain hS | hS := hS; (· cases hS); have hF := HALL.out w' hS; go_simp; with_reducible rfl))
                case ha47 => (simp only [Act.put, List.setIfInBounds_toArray, List.set_cons_zero, List.set_cons_succ]; rfl)
                refine tk2 (N := some 50) (v := ?vv48) (a' := ?aa48) rfl rfl rfl ?hr48 ?ha48 ?nx48
                case hr48 => (intro w' hS; first | (go_simp; with_reducible rfl) | (obtain hS | hS := hS; (· cases hS); have hF := HALL.out w' hS; go_simp; with_reducible rfl))
                case ha48 => (simp only [Act.put, List.setIfInBounds_toArray, List.set_cons_zero, List.set_cons_succ]; rfl)
                refine takes2_done ?_
                refine done_ (by kernel_rfl) ?_
                go_wp2_with fail
                go_meet
                refine ⟨congrArg Value.bool ?_, S8, N8⟩
                rw [BPE.out]; unfold badP; rw [EM.out, CL.out, PJ.out]; rfl
              · obtain ⟨k, rfl⟩ : ∃ k, i = k + 1 := ⟨i - 1, by omega⟩
                obtain ⟨y, hy⟩ : ∃ y, its[k]? = some y := ⟨_, List.getElem?_eq_getElem (by have := NN.out; omega)⟩
                have YS := Aside0.mk (PS.out y (List.mem_of_getElem? hy)).1
                have HY := Aside0.mk hy
                have PJ := Aside0.mk (show prevOf its (k + 1) = some y.path by show (its[k]?).map (·.path) = _; rw [hy]; rfl)
                have ky : W7.cell? ⟨g0, o0 + k * 3, none⟩ = some (.string y.path) := (its_cell S7.out.items hy).1
                have CL := Aside0.mk hcl
                have EM := Aside0.mk h0
                clear hcl hy
                have hw1 : IntKind.i64.wrap ((k : Int) + 1 - 1) = (k : Int) := by rw [IntWalk.i64_in _ (by omega)]; omega
                have hw2 : IntKind.i64.wrap (k : Int) = (k : Int) := IntWalk.i64_in _ (by omega)
                have hb1 : (0 : Int) ≤ (k : Int) := Int.natCast_nonneg _
                have hb2 : (k : Int) < (n : Int) := by omega
                have hb3 : (0 : Int) < (k : Int) + 1 := by omega
                rw [show ((k + 1 : Nat) : Int) = (k : Int) + 1 from rfl]
                go_region_held3 (fun w' => w'.cell? ⟨b6, 0, none⟩ = some (.string x.path) ∧ w'.cell? ⟨g0, o0 + k * 3, none⟩ = some (.string y.path))
                  (first | exact K9.out | exact K8.out | go_keep)
                  (first
                    | (go_at_call 101
                       have D7 := S7.out.step (show Below W7.heap.size W7 W7.drew from ⟨rfl, rfl, rfl, Nat.le_refl _, fun _ _ => rfl⟩)
                       have M7 : At W7.drew b6 50 (icells x A' c') := N7.out
                       refine (refIsClean_calls x.path W7.drew XS.out).mono ?_
                       rintro e w8 ⟨rfl, hB⟩
                       rw [CL.out]
                       have S8 := Aside0.mk (D7.step hB)
                       have N8 := Aside0.mk (M7.below hB M7.lt)
                       have K8 := Aside0.mk (show w8.cell? ⟨b6, 0, none⟩ = some (.string x.path) ∧ w8.cell? ⟨g0, o0 + k * 3, none⟩ = some (.string y.path) from ⟨by rw [N8.out.cell]; rfl, (its_cell S8.out.items HY.out).1⟩)
                       clear hB D7 M7)
                    | (go_at_call 102
                       refine (refLess_calls y.path x.path w8 YS.out XS.out).mono ?_
                       rintro e w9 ⟨rfl, hB⟩
                       have S9 := Aside0.mk (S8.out.step hB)
                       have N9 := Aside0.mk (N8.out.below hB N8.out.lt)
                       have K9 := Aside0.mk (show w9.cell? ⟨b6, 0, none⟩ = some (.string x.path) ∧ w9.cell? ⟨g0, o0 + k * 3, none⟩ = some (.string y.path) from ⟨by rw [N9.out.cell]; rfl, (its_cell S9.out.items HY.out).1⟩)
                       clear hB))
                go_wp2_with fail
                go_meet
                refine ⟨congrArg Value.bool ?_, S9, N9⟩
                rw [BPE.out]; unfold badP; rw [EM.out, CL.out, PJ.out]; simp
          · have EM := Aside0.mk h0
            go_quiet (fail)
            go_wp2_with fail
            go_meet
            refine ⟨congrArg Value.bool ?_, ⟨S7.out.step (pw_below_drewN (Below.refl _ _) _)⟩, ⟨N7.out.below (pw_below_drewN (Below.refl _ _) _) N7.out.lt⟩⟩
            rw [BPE.out]; unfold badP; rw [EM.out]; rfl
        case rest =>
          obtain ⟨rfl, SC, NC⟩ := hcut
          clear S7 N7 S6 N6 L6 kp kd km V25 ROW
          rcases BP with _ | _
          · have kp : wc.cell? ⟨b6, 0, none⟩ = some (.string x.path) := by rw [NC.out.cell]; rfl
            have kd : wc.cell? ⟨b6, 1, none⟩ = some (.bool x.dir) := by rw [NC.out.cell]; rfl
            have km : wc.cell? ⟨b6, 2, none⟩ = some (.slice A' m c') := by rw [NC.out.cell, MX.out]; rfl
            go_upto_region 11 with fail
            go_cut [64] from 16 to 102 (fun s64 wd => s64 = .bool BS ∧ wd = wc)
            case first =>
              have BSQ := BSE.out
              unfold badS at BSQ
              rw [← MX.out] at BSQ
              have BSF := Aside0.mk BSQ
              clear BSQ
              by_cases hbig : m ≤ 1048576
              · have t4 : decide ((m : Int) > 1048576) = false := decide_eq_false (by omega)
                have t4b : decide (1048576 < (m : Int)) = false := decide_eq_false (by omega)
                rcases hd : x.dir with _ | _
                · rw [hd] at kd
                  have HD := Aside0.mk hd
                  clear hd
                  go_wp2_with fail
                  go_meet
                  refine ⟨congrArg Value.bool ?_, rfl⟩
                  rw [BSF.out, HD.out]; simp; omega
                · rw [hd] at kd
                  have HD := Aside0.mk hd
                  clear hd
                  by_cases hm0 : 0 < m
                  · have t5 : decide ((m : Int) > 0) = true := decide_eq_true (by omega)
                    have t5b : decide (0 < (m : Int)) = true := decide_eq_true (by omega)
                    go_wp2_with fail
                    go_meet
                    refine ⟨congrArg Value.bool ?_, rfl⟩
                    rw [BSF.out, HD.out]; simp; omega
                  · have t5 : decide ((m : Int) > 0) = false := decide_eq_false (by omega)
                    have t5b : decide (0 < (m : Int)) = false := decide_eq_false (by omega)
                    go_wp2_with fail
                    go_meet
                    refine ⟨congrArg Value.bool ?_, rfl⟩
                    rw [BSF.out, HD.out]; simp; omega
              · have t4 : decide ((m : Int) > 1048576) = true := decide_eq_true (by omega)
                have t4b : decide (1048576 < (m : Int)) = true := decide_eq_true (by omega)
                have t5 : decide ((m : Int) > 0) = true := decide_eq_true (by omega)
                have t5b : decide (0 < (m : Int)) = true := decide_eq_true (by omega)
                rcases hd : x.dir with _ | _
                · rw [hd] at kd
                  have HD := Aside0.mk hd
                  clear hd
                  go_wp2_with fail
                  go_meet
                  refine ⟨congrArg Value.bool ?_, rfl⟩
                  rw [BSF.out, HD.out]; simp; omega
                · rw [hd] at kd
                  have HD := Aside0.mk hd
                  clear hd
                  go_wp2_with fail
                  go_meet
                  refine ⟨congrArg Value.bool ?_, rfl⟩
                  rw [BSF.out, HD.out]; simp; omega
            case rest =>
              obtain ⟨rfl, rfl⟩ := hcut
              rcases BS with _ | _
              · obtain ⟨up, hup⟩ : ∃ up, up = parentR x.path := ⟨_, rfl⟩
                have UPE := Aside0.mk hup
                obtain ⟨GC, GN, GL⟩ := badP_ok BPE.out.symm
                have UPO := Aside0.mk (show up.data.toList = upOf x by rw [hup, parent_eq GC GN]; rfl)
                have UPS := Aside0.mk (show up.size ≤ 1048575 by rw [hup, parent_eq GC GN]; exact Nat.le_trans (splitP_up _) (by decide))
                have GG := Aside0.mk (And.intro GC (And.intro GN GL))
                clear hup GC GN GL
                go_upto_if 76 with (first
                  | (go_at_call 91
                     refine (refParent_calls x.path wc XS.out GG.out.2.1).mono ?_
                     rintro e wp ⟨rfl, hB⟩
                     rw [← UPE.out]
                     have SP := Aside0.mk (SC.out.step hB)
                     clear hB)
                  | fail)
                go_cut [7] from 16 to 102 (fun s7 we => ∃ a : Nat, s7 = .int .i64 a ∧ Aside0 (posOf its i (upOf x) = some a) ∧ Aside0 (ItSt w we hi (some ⟨g0, o0, none⟩) its bb bs))
                case first =>
                  rcases hu : up.toList.isEmpty with _ | _
                  · have UN := Aside0.mk (show upOf x ≠ [] by rw [← UPO.out]; intro e; rw [toList_empty, e] at hu; simp at hu)
                    have RT := Aside0.mk (show RdI wp hi (some ⟨g0, o0, none⟩) (its.take i) from rdI_take SP.out.items i)
                    have LT : (its.take i).length = i := by rw [List.length_take]; have := NN.out; omega
                    have LE := Aside0.mk LT
                    have hic : i ≤ c := by omega
                    rcases hf : findM up (its.take i) with _ | j
                    · have FF := Aside0.mk (show findFrom up (its.take i) 0 = -1 by unfold findFrom; rw [hf])
                      have PN := Aside0.mk (show posOf its i (upOf x) = none by unfold posOf; rw [if_neg UN.out, ← UPO.out, B_of, hf])
                      clear hf LT
                      go_wp2_with (first
                        | (go_at_call 92
                           have hk := refFind_calls wp hi (some ⟨g0, o0, none⟩) c (its.take i) up RT.out (Nat.le_trans HH.out SP.out.below.size) (by rw [LE.out]; omega) HR.out.rise (fun y hy => (PS.out y (List.mem_of_mem_take hy)).1) UPS.out
                           rw [LE.out, FF.out] at hk
                           refine hk.mono ?_
                           rintro e wq ⟨rfl, hB⟩
                           have SQ := Aside0.mk (SP.out.step hB)
                           clear hB hk)
                        | fail)
                      go_ret
                      exact ⟨by rw [HR.out.lost HX.out PN.out]; rfl, SQ.out.below⟩
                    · obtain ⟨y, hy1, hy2⟩ := findM_some hf
                      have hji : j < i := by have := (List.getElem?_eq_some_iff.1 hy1).1; omega
                      have hy : its[j]? = some y := by rw [List.getElem?_take, if_pos hji] at hy1; exact hy1
                      have HY := Aside0.mk hy
                      have FF := Aside0.mk (show findFrom up (its.take i) 0 = (j : Int) by unfold findFrom; rw [hf]; show ((0 + j : Nat) : Int) = _; omega)
                      rcases hd : y.dir with _ | _
                      · have PN := Aside0.mk (show posOf its i (upOf x) = none by unfold posOf; rw [if_neg UN.out, ← UPO.out, B_of, hf]; simp only [hy, Option.map_some, hd]; rfl)
                        have YD := Aside0.mk hd
                        clear hf LT hy1 hy2 hy hd
                        go_wp2_with (first
                          | (go_at_call 92
                             have hk := refFind_calls wp hi (some ⟨g0, o0, none⟩) c (its.take i) up RT.out (Nat.le_trans HH.out SP.out.below.size) (by rw [LE.out]; omega) HR.out.rise (fun y hy => (PS.out y (List.mem_of_mem_take hy)).1) UPS.out
                             rw [LE.out, FF.out] at hk
                             refine hk.mono ?_
                             rintro e wq ⟨rfl, hB⟩
                             have SQ := Aside0.mk (SP.out.step hB)
                             have kj : wq.cell? ⟨g0, o0 + j * 3 + 1, none⟩ = some (.bool false) := by rw [← YD.out]; exact (its_cell SQ.out.items HY.out).2
                             clear hB hk)
                          | fail)
                        go_ret
                        exact ⟨by rw [HR.out.lost HX.out PN.out]; rfl, SQ.out.below⟩
                      · have PO := Aside0.mk (show posOf its i (upOf x) = some j by unfold posOf; rw [if_neg UN.out, ← UPO.out, B_of, hf]; simp only [hy, Option.map_some, hd]; rfl)
                        have YD := Aside0.mk hd
                        clear hf LT hy1 hy2 hy hd
                        go_wp2_with (first
                          | (go_at_call 92
                             have hk := refFind_calls wp hi (some ⟨g0, o0, none⟩) c (its.take i) up RT.out (Nat.le_trans HH.out SP.out.below.size) (by rw [LE.out]; omega) HR.out.rise (fun y hy => (PS.out y (List.mem_of_mem_take hy)).1) UPS.out
                             rw [LE.out, FF.out] at hk
                             refine hk.mono ?_
                             rintro e wq ⟨rfl, hB⟩
                             have SQ := Aside0.mk (SP.out.step hB)
                             have kj : wq.cell? ⟨g0, o0 + j * 3 + 1, none⟩ = some (.bool true) := by rw [← YD.out]; exact (its_cell SQ.out.items HY.out).2
                             clear hB hk)
                          | fail)
                        go_meet
                        exact ⟨j, rfl, PO, SQ⟩
                  · have PO := Aside0.mk (show posOf its i (upOf x) = some n by
                      have e : upOf x = [] := by rw [← UPO.out]; rw [toList_empty] at hu; simpa using hu
                      unfold posOf; rw [if_pos e, NN.out])
                    go_wp2_with fail
                    go_meet
                    exact ⟨n, rfl, PO, SP⟩
                case rest =>
                  obtain ⟨a, rfl, PO, SE⟩ := hcut
                  have hal : a < n + 1 := by
                    by_cases h0 : upOf x = []
                    · have hp := PO.out; unfold posOf at hp; rw [if_pos h0] at hp; injection hp with hp; have := NN.out; omega
                    · have := (posOf_some PO.out h0).1; omega
                  obtain ⟨b, hb⟩ : ∃ b, bs[a]? = some b := ⟨_, List.getElem?_eq_getElem (by rw [HR.out.len, ← NN.out]; exact hal)⟩
                  have hbt : b ≤ 1024 := HR.out.top b (List.mem_of_getElem? hb)
                  have BB := Aside0.mk hb
                  have ka : wc.cell? ⟨bb, a, none⟩ = some (.int .i64 (b : Int)) := by rw [SE.out.tab.cell]; unfold bcells; rw [List.getElem?_map, hb]; rfl
                  have fa : wc.frozen? ⟨bb, a, none⟩ = false := SE.out.tab.frozen a
                  have PT := Aside0.mk (SE.out.put a (b + 1))
                  clear hb SC
                  by_cases hf : b < 1024
                  · have t6 : decide ((b : Int) + 1 > 1024) = false := decide_eq_false (by omega)
                    have t6b : decide (1024 < (b : Int) + 1) = false := decide_eq_false (by omega)
                    go_wp2_with fail
                    go_roundg (n - (i + 1))
                    case measure => have := HJ.out; omega
                    case rel =>
                      have hm := MX.out
                      exact ⟨i + 1, all + m, bs.set a (b + 1), ⟨by have := HJ.out; omega⟩, by go_num, by go_num, PT, ⟨by rw [hm]; exact HR.out.next HX.out BPE.out.symm BSE.out.symm PO.out BB.out hf⟩, by omega⟩
                  · have t6 : decide ((b : Int) + 1 > 1024) = true := decide_eq_true (by omega)
                    have t6b : decide (1024 < (b : Int) + 1) = true := decide_eq_true (by omega)
                    go_wp2_with fail
                    go_ret
                    exact ⟨by rw [HR.out.full HX.out PO.out BB.out (by omega)]; rfl, PT.out.below⟩
              · go_wp2_with fail
                go_ret
                exact ⟨by rw [HR.out.big HX.out BSE.out.symm]; rfl, SC.out.below⟩
          · go_wp2_with fail
            go_ret
            exact ⟨by rw [HR.out.bad HX.out BPE.out.symm]; rfl, SC.out.below⟩
      · have hR := HR.out.done (by have := NN.out; omega)
        have RE := Aside0.mk hR
        clear hR
        by_cases ha : all ≤ 67108864
        · have t7 : decide ((all : Int) ≤ 67108864) = true := decide_eq_true (by omega)
          go_wp2_with fail
          go_ret
          exact ⟨by rw [RE.out, decide_eq_true ha]; rfl, HS.out.below⟩
        · have t7 : decide ((all : Int) ≤ 67108864) = false := decide_eq_false (by omega)
          go_wp2_with fail
          go_ret
          exact ⟨by rw [RE.out, decide_eq_false ha]; rfl, HS.out.below⟩
  · have hres : isTreeM its = false := by unfold isTreeM; rw [decide_eq_false hl]; rfl
    rw [hres, ← hn]
    rw [← hn] at hl
    have t1 : decide ((n : Int) ≥ 65536) = true := decide_eq_true (by omega)
    have t1b : decide (65536 ≤ (n : Int)) = true := decide_eq_true (by omega)
    clear hI hhi hps hres hlen hn
    go_enter Tryz.func51, Tryz.ntmps51
    go_wp2_with fail
    go_ret
    exact ⟨rfl, Below.refl _ _⟩
end Go.Proofs.YtbpfmlckddhgbaaGreatDoor
/- The document's IsKeep. -/
namespace Go.Proofs.YtbpfmlckddhgbaaGreatDoor
set_option linter.unusedVariables false
set_option linter.unusedSimpArgs false
open Go Go.RowKit Go.Maps Go.WideMaps Go.Proofs.YtbpfmlckddhgbaaGreatDoorW.PrintWords Go.Proofs.YtbpfmlckddhgbaaGreatDoorW.PrintLast
def badK (prev : Option ByteArray) (p : ByteArray) : Bool := !isClean p || (match prev with | none => false | some q => !less q p)
structure KRel (ps : List ByteArray) (k : Nat) (R : Bool) : Prop where
  law : R = keepOk (prevS ps k) (ps.drop k)
  rise : ∀ i j a b, i < j → j < k → ps[i]? = some a → ps[j]? = some b → less a b = true
  free : ∀ i j a b, i < j → j < k → ps[i]? = some a → ps[j]? = some b → under a b = false
namespace KRel
variable {ps : List ByteArray} {k : Nat} {R : Bool} {p : ByteArray}
theorem start (ps : List ByteArray) : KRel ps 0 (keepOk none ps) := ⟨rfl, fun _ _ _ _ _ h => by omega, fun _ _ _ _ _ h => by omega⟩
theorem done (h : KRel ps k R) (hk : ps.length ≤ k) : R = true := by rw [h.law, List.drop_eq_nil_of_le hk]; cases prevS ps k <;> rfl
theorem here (h : KRel ps k R) (hp : ps[k]? = some p) : R = (isClean p && ((match prevS ps k with | none => true | some q => less q p && !under q p) && keepOk (some p) (ps.drop (k + 1)))) := by
  rw [h.law]
  obtain ⟨hlt, e⟩ := List.getElem?_eq_some_iff.1 hp
  rw [List.drop_eq_getElem_cons hlt, e, keepOk_cons]
  cases prevS ps k <;> rfl
theorem bad (h : KRel ps k R) (hp : ps[k]? = some p) (hb : badK (prevS ps k) p = true) : R = false := by
  rw [h.here hp]
  unfold badK at hb
  rcases hc : isClean p with _ | _
  · rfl
  · rw [hc] at hb
    cases hv : prevS ps k with
    | none => rw [hv] at hb; simp at hb
    | some q => rw [hv] at hb; simp at hb; simp [hb]
theorem less_last (h : KRel ps k R) (hp : ps[k]? = some p) (hb : badK (prevS ps k) p = false) {i : Nat} {a : ByteArray} (hi : i < k) (ha : ps[i]? = some a) : less a p = true := by
  unfold badK at hb
  rw [Bool.or_eq_false_iff] at hb
  cases k with
  | zero => omega
  | succ m =>
    have hv : prevS ps (m + 1) = ps[m]? := rfl
    obtain ⟨q, hq⟩ : ∃ q, ps[m]? = some q := ⟨_, List.getElem?_eq_getElem (by have := (List.getElem?_eq_some_iff.1 hp).1; omega)⟩
    rw [hv, hq] at hb
    have h2 : less q p = true := by simpa using hb.2
    by_cases he : i = m
    · subst he; rw [hq] at ha; injection ha with ha; rw [← ha]; exact h2
    · exact less_trans (h.rise i m a q (by omega) (by omega) ha hq) h2
theorem lies (h : KRel ps k R) (hp : ps[k]? = some p) (hb : badK (prevS ps k) p = false) {i : Nat} {a : ByteArray} (hi : i < k) (ha : ps[i]? = some a) (hu : under a p = true) : R = false := by
  rw [h.here hp]
  cases k with
  | zero => omega
  | succ m =>
    obtain ⟨q, hq⟩ : ∃ q, ps[m]? = some q := ⟨_, List.getElem?_eq_getElem (by have := (List.getElem?_eq_some_iff.1 hp).1; omega)⟩
    have hv : prevS ps (m + 1) = some q := hq
    have hqp := h.less_last hp hb (i := m) (by omega) hq
    have hup : under q p = true := by
      by_cases he : i = m
      · subst he; rw [hq] at ha; injection ha with ha; rw [ha]; exact hu
      · have h1 := h.rise i m a q (by omega) (by omega) ha hq
        have h2 := under_between h1 hqp hu
        rw [h.free i m a q (by omega) (by omega) ha hq] at h2
        exact absurd h2 (by decide)
    rw [hv]
    simp [hup]
theorem next (h : KRel ps k R) (hp : ps[k]? = some p) (hb : badK (prevS ps k) p = false) (hf : ∀ i a, i < k → ps[i]? = some a → under a p = false) : KRel ps (k + 1) R := by
  refine ⟨?_, fun i j a b h1 h2 ha hbb => ?_, fun i j a b h1 h2 ha hbb => ?_⟩
  · rw [h.here hp]
    have hb2 := hb
    unfold badK at hb2
    rw [Bool.or_eq_false_iff] at hb2
    have hc : isClean p = true := by simpa using hb2.1
    rw [hc, Bool.true_and, show prevS ps (k + 1) = some p from hp]
    cases k with
    | zero => rfl
    | succ m =>
      obtain ⟨q, hq⟩ : ∃ q, ps[m]? = some q := ⟨_, List.getElem?_eq_getElem (by have := (List.getElem?_eq_some_iff.1 hp).1; omega)⟩
      rw [show prevS ps (m + 1) = some q from hq]
      simp [h.less_last hp hb (i := m) (by omega) hq, hf m q (by omega) hq]
  · by_cases hj : j = k
    · subst hj; rw [hp] at hbb; injection hbb with hbb; rw [← hbb]; exact h.less_last hp hb h1 ha
    · exact h.rise i j a b h1 (by omega) ha hbb
  · by_cases hj : j = k
    · subst hj; rw [hp] at hbb; injection hbb with hbb; rw [← hbb]; exact hf i a h1 ha
    · exact h.free i j a b h1 (by omega) ha hbb
end KRel
theorem rdS_cell {W : World} {hi g o : Nat} {ps : List ByteArray} (hr : RdS W hi (some ⟨g, o, none⟩) ps) {j : Nat} {p : ByteArray} (hp : ps[j]? = some p) : W.cell? ⟨g, o + j, none⟩ = some (.string p) := by
  obtain ⟨g1, o1, e1, _, hits⟩ := hr (by intro h; rw [h] at hp; simp at hp)
  injection e1 with e1
  injection e1 with e1 e2 _
  subst e1 e2
  exact hits j p hp
set_option maxRecDepth 8000 in
set_option maxHeartbeats 8000000 in
theorem refIsKeep_calls (w : World) (hi : Nat) (A : Option Addr) (c : Nat) (ps : List ByteArray) (hS : RdS w hi A ps) (hhi : hi ≤ w.heap.size) (hps : ∀ p ∈ ps, p.size ≤ 1048575) (hlen : ps.length ≤ 1099511627776) :
    Calls Tryz.prog 89 #[.slice A ps.length c] w fun e w' => e = .returned (.bool (isKeepM ps)) ∧ Below w.heap.size w w' := by
  have HS := Aside0.mk hS
  have HH := Aside0.mk hhi
  have PS := Aside0.mk hps
  obtain ⟨n, hn⟩ : ∃ n, n = ps.length := ⟨_, rfl⟩
  have NN := Aside0.mk hn
  by_cases hl : ps.length ≤ 64
  · have hres : isKeepM ps = keepOk none ps := by unfold isKeepM; rw [decide_eq_true hl]; rfl
    rw [hres]
    obtain ⟨R, hR⟩ : ∃ R, R = keepOk none ps := ⟨_, rfl⟩
    rw [← hR, ← hn]
    rw [← hn] at hl
    have RR := Aside0.mk (show KRel ps 0 R by rw [hR]; exact KRel.start ps)
    have t1 : decide ((n : Int) > 64) = false := decide_eq_false (by omega)
    have t1b : decide (64 < (n : Int)) = false := decide_eq_false (by omega)
    clear hS hhi hps hres hR hlen hn
    go_enter Tryz.func89, Tryz.ntmps89
    go_wp2_with fail
    go_loopg [3] n (fun g s3 wr => ∃ k : Nat, Aside0 (k + g = n) ∧ s3 = .int .i64 k ∧ Aside0 (KRel ps k R) ∧ Aside0 (Below w.heap.size w wr))
    case atStart => exact ⟨0, ⟨by omega⟩, rfl, RR, ⟨Below.refl _ _⟩⟩
    case round =>
      obtain ⟨i, HJ, rfl, HR, HB⟩ := hrel
      by_cases hlt : i < n
      · obtain ⟨p, hp⟩ : ∃ p, ps[i]? = some p := ⟨_, List.getElem?_eq_getElem (by have := NN.out; omega)⟩
        obtain ⟨g0, o0, hA, hg0, _⟩ := HS.out (by intro h; rw [h] at hp; simp at hp)
        subst hA
        have HP := Aside0.mk hp
        have XS := Aside0.mk (PS.out p (List.mem_of_getElem? hp))
        have RD := Aside0.mk (HS.out.below HB.out HH.out)
        have kp : wr.cell? ⟨g0, o0 + i, none⟩ = some (.string p) := rdS_cell RD.out hp
        obtain ⟨BP, hBP⟩ : ∃ BP, BP = badK (prevS ps i) p := ⟨_, rfl⟩
        have BPE := Aside0.mk hBP
        clear hp hBP hg0
        go_upto_region 6 with fail
        go_cut [36] from 8 to 50 (fun s36 wc => s36 = .bool BP ∧ Aside0 (Below w.heap.size w wc))
        case first =>
          rcases hcl : isClean p with _ | _
          · have CL := Aside0.mk hcl
            clear hcl
            have HALL : Aside0 (∀ w' : World, w'.cell? ⟨g0, o0 + i, none⟩ = some (.string p) → w'.cell? ⟨g0, o0 + i, none⟩ = some (.string p)) := ⟨fun _ h => h⟩
            have D7 : Below w.heap.size w wr.drew := HB.out.drew
            refine takes_region2 (S := fun w' => w'.cell? ⟨g0, o0 + i, none⟩ = some (.string p)) (ds := []) [(0, true), (1, true), (2, true), (3, false)] 19 (by kernel_rfl) rfl (by kernel_rfl) (fun _ _ dd _ _ h => by cases dd <;> exact h) kp
              #[true, true, true, true, false, false, false, false, false, false, false, false, false, false, false, false, false, false, false, false, false, false, false] (by kernel_rfl) ?_
            refine tk2 (N := some 14) (v := ?vv1) (a' := ?aa1) rfl rfl rfl ?hr1 ?ha1 ?nx1
            case hr1 => (intro w' hS; first | (go_simp; with_reducible rfl) | (obtain hS | hS := hS; (· cases hS); have hF := HALL.out w' hS; go_simp; with_reducible rfl))
            case ha1 => (simp only [Act.put, List.setIfInBounds_toArray, List.set_cons_zero, List.set_cons_succ]; rfl)
            refine tk2 (N := some 15) (v := ?vv2) (a' := ?aa2) rfl rfl rfl ?hr2 ?ha2 ?nx2
            case hr2 => (intro w' hS; first | (go_simp; with_reducible rfl) | (obtain hS | hS := hS; (· cases hS); have hF := HALL.out w' hS; go_simp; with_reducible rfl))
            case ha2 => (simp only [Act.put, List.setIfInBounds_toArray, List.set_cons_zero, List.set_cons_succ]; rfl)
            refine tk2 (N := some 16) (v := ?vv3) (a' := ?aa3) rfl rfl rfl ?hr3 ?ha3 ?nx3
            case hr3 => (intro w' hS; first | (go_simp; with_reducible rfl) | (obtain hS | hS := hS; (· cases hS); have hF := HALL.out w' hS; go_simp; with_reducible rfl))
            case ha3 => (simp only [Act.put, List.setIfInBounds_toArray, List.set_cons_zero, List.set_cons_succ]; rfl)
            refine tk2 (N := some 17) (v := ?vv4) (a' := ?aa4) rfl rfl rfl ?hr4 ?ha4 ?nx4
            case hr4 => (intro w' hS; first | (go_simp; with_reducible rfl) | (obtain hS | hS := hS; (· cases hS); have hF := HALL.out w' hS; go_simp; with_reducible rfl))
            case ha4 => (simp only [Act.put, List.setIfInBounds_toArray, List.set_cons_zero, List.set_cons_succ]; rfl)
            refine takes2_done ?_
            refine one_ (i := 4) (N := some 18) #[true, true, true, true, true, false, false, false, false, false, false, false, false, false, false, false, false, false, false, false, false, false, false] rfl rfl (by kernel_rfl) (by decide) (fun K hK => ?_)
            refine goes_ Tryz.func101 (by kernel_rfl) rfl #[.string p] (by rfl) rfl rfl (by simp only [List.map_toArray, List.map_cons, List.map_nil]; rfl) ?_
            refine (refIsClean_calls p wr.drew XS.out).mono ?_
            rintro e w8 ⟨rfl, hB⟩
            rw [CL.out]
            have S8 := Aside0.mk (D7.trans (hB.mono D7.size))
            have K8 := Aside0.mk (rdS_cell (HS.out.below S8.out HH.out) HP.out)
            clear hB D7
            refine ⟨_, rfl, ?_⟩
            refine hK _ _ K8.out (fun _ => ?_)
            clear hK K
            refine frame_ (a' := ?aa45) ?ha45 ?nx45
            case ha45 =>
              simp only [Go.Proofs.YtbpfmlckddhgbaaGreatDoorW.PrintLast.putAll, Act.put, List.setIfInBounds_toArray, List.set_cons_zero, List.set_cons_succ]
              rfl
            refine takes_more (S := fun w' => w'.cell? ⟨g0, o0 + i, none⟩ = some (.string p)) (ds := []) [(5, true), (6, true), (7, true), (8, true), (9, true), (10, true), (11, true), (12, true), (13, true), (14, true), (15, true), (16, true), (17, true), (18, true), (19, true), (20, true), (21, true), (22, true)] 0 18 rfl (by kernel_rfl) (fun _ _ dd _ _ h => by cases dd <;> exact h) K8.out
              #[true, true, true, true, true, true, true, true, true, true, true, true, true, true, true, true, true, true, true, true, true, true, true] (by kernel_rfl) ?_
            refine tk2 (N := some 19) (v := ?vv5) (a' := ?aa5) rfl rfl rfl ?hr5 ?ha5 ?nx5
            case hr5 => (intro w' hS; first | (go_simp; with_reducible rfl) | (obtain hS | hS := hS; (· cases hS); have hF := HALL.out w' hS; go_simp; with_reducible rfl))
            case ha5 => (simp only [Act.put, List.setIfInBounds_toArray, List.set_cons_zero, List.set_cons_succ]; rfl)
            refine tk2 (N := some 20) (v := ?vv6) (a' := ?aa6) rfl rfl rfl ?hr6 ?ha6 ?nx6
            case hr6 => (intro w' hS; first | (go_simp; with_reducible rfl) | (obtain hS | hS := hS; (· cases hS); have hF := HALL.out w' hS; go_simp; with_reducible rfl))
            case ha6 => (simp only [Act.put, List.setIfInBounds_toArray, List.set_cons_zero, List.set_cons_succ]; rfl)
            refine tko (N := some 21) (a' := ?aa7) rfl rfl rfl ?ha7 ?nx7
            case ha7 => (simp only [Act.put, List.setIfInBounds_toArray, List.set_cons_zero, List.set_cons_succ]; rfl)
            refine tko (N := some 22) (a' := ?aa8) rfl rfl rfl ?ha8 ?nx8
            case ha8 => (simp only [Act.put, List.setIfInBounds_toArray, List.set_cons_zero, List.set_cons_succ]; rfl)
            refine tko (N := some 23) (a' := ?aa9) rfl rfl rfl ?ha9 ?nx9
            case ha9 => (simp only [Act.put, List.setIfInBounds_toArray, List.set_cons_zero, List.set_cons_succ]; rfl)
            refine tko (N := some 24) (a' := ?aa10) rfl rfl rfl ?ha10 ?nx10
            case ha10 => (simp only [Act.put, List.setIfInBounds_toArray, List.set_cons_zero, List.set_cons_succ]; rfl)
            refine tko (N := some 25) (a' := ?aa11) rfl rfl rfl ?ha11 ?nx11
            case ha11 => (simp only [Act.put, List.setIfInBounds_toArray, List.set_cons_zero, List.set_cons_succ]; rfl)
            refine tko (N := some 26) (a' := ?aa12) rfl rfl rfl ?ha12 ?nx12
            case ha12 => (simp only [Act.put, List.setIfInBounds_toArray, List.set_cons_zero, List.set_cons_succ]; rfl)
            refine tko (N := some 27) (a' := ?aa13) rfl rfl rfl ?ha13 ?nx13
            case ha13 => (simp only [Act.put, List.setIfInBounds_toArray, List.set_cons_zero, List.set_cons_succ]; rfl)
            refine tko (N := some 28) (a' := ?aa14) rfl rfl rfl ?ha14 ?nx14
            case ha14 => (simp only [Act.put, List.setIfInBounds_toArray, List.set_cons_zero, List.set_cons_succ]; rfl)
            refine tko (N := some 29) (a' := ?aa15) rfl rfl rfl ?ha15 ?nx15
            case ha15 => (simp only [Act.put, List.setIfInBounds_toArray, List.set_cons_zero, List.set_cons_succ]; rfl)
            refine tko (N := some 30) (a' := ?aa16) rfl rfl rfl ?ha16 ?nx16
            case ha16 => (simp only [Act.put, List.setIfInBounds_toArray, List.set_cons_zero, List.set_cons_succ]; rfl)
            refine tko (N := some 31) (a' := ?aa17) rfl rfl rfl ?ha17 ?nx17
            case ha17 => (simp only [Act.put, List.setIfInBounds_toArray, List.set_cons_zero, List.set_cons_succ]; rfl)
            refine tko (N := some 32) (a' := ?aa18) rfl rfl rfl ?ha18 ?nx18
            case ha18 => (simp only [Act.put, List.setIfInBounds_toArray, List.set_cons_zero, List.set_cons_succ]; rfl)
            refine tko (N := some 33) (a' := ?aa19) rfl rfl rfl ?ha19 ?nx19
            case ha19 => (simp only [Act.put, List.setIfInBounds_toArray, List.set_cons_zero, List.set_cons_succ]; rfl)
            refine tko (N := some 34) (a' := ?aa20) rfl rfl rfl ?ha20 ?nx20
            case ha20 => (simp only [Act.put, List.setIfInBounds_toArray, List.set_cons_zero, List.set_cons_succ]; rfl)
            refine tko (N := some 35) (a' := ?aa21) rfl rfl rfl ?ha21 ?nx21
            case ha21 => (simp only [Act.put, List.setIfInBounds_toArray, List.set_cons_zero, List.set_cons_succ]; rfl)
            refine tk2 (N := some 36) (v := ?vv22) (a' := ?aa22) rfl rfl rfl ?hr22 ?ha22 ?nx22
            case hr22 => (intro w' hS; first | (go_simp; with_reducible rfl) | (obtain hS | hS := hS; (· cases hS); have hF := HALL.out w' hS; go_simp; with_reducible rfl))
            case ha22 => (simp only [Act.put, List.setIfInBounds_toArray, List.set_cons_zero, List.set_cons_succ]; rfl)
            refine takes2_done ?_
            refine done_ (by kernel_rfl) ?_
            go_wp2_with fail
            go_meet
            refine ⟨congrArg Value.bool ?_, S8⟩
            rw [BPE.out]; unfold badK; rw [CL.out]; rfl
          · rcases Nat.eq_zero_or_pos i with hi0 | hi0
            · subst hi0
              have CL := Aside0.mk hcl
              clear hcl
              have HALL : Aside0 (∀ w' : World, w'.cell? ⟨g0, o0 + 0, none⟩ = some (.string p) → w'.cell? ⟨g0, o0, none⟩ = some (.string p)) := ⟨fun _ h => h⟩
              have D7 : Below w.heap.size w wr.drew := HB.out.drew
              refine takes_region2 (S := fun w' => w'.cell? ⟨g0, o0 + 0, none⟩ = some (.string p)) (ds := []) [(0, true), (1, true), (2, true), (3, false)] 19 (by kernel_rfl) rfl (by kernel_rfl) (fun _ _ dd _ _ h => by cases dd <;> exact h) kp
                #[true, true, true, true, false, false, false, false, false, false, false, false, false, false, false, false, false, false, false, false, false, false, false] (by kernel_rfl) ?_
              refine tk2 (N := some 14) (v := ?vv23) (a' := ?aa23) rfl rfl rfl ?hr23 ?ha23 ?nx23
              case hr23 => (intro w' hS; first | (go_simp; with_reducible rfl) | (obtain hS | hS := hS; (· cases hS); have hF := HALL.out w' hS; go_simp; with_reducible rfl))
              case ha23 => (simp only [Act.put, List.setIfInBounds_toArray, List.set_cons_zero, List.set_cons_succ]; rfl)
              refine tk2 (N := some 15) (v := ?vv24) (a' := ?aa24) rfl rfl rfl ?hr24 ?ha24 ?nx24
              case hr24 => (intro w' hS; first | (go_simp; with_reducible rfl) | (obtain hS | hS := hS; (· cases hS); have hF := HALL.out w' hS; go_simp; with_reducible rfl))
              case ha24 => (simp only [Act.put, List.setIfInBounds_toArray, List.set_cons_zero, List.set_cons_succ]; rfl)
              refine tk2 (N := some 16) (v := ?vv25) (a' := ?aa25) rfl rfl rfl ?hr25 ?ha25 ?nx25
              case hr25 => (intro w' hS; first | (go_simp; with_reducible rfl) | (obtain hS | hS := hS; (· cases hS); have hF := HALL.out w' hS; go_simp; with_reducible rfl))
              case ha25 => (simp only [Act.put, List.setIfInBounds_toArray, List.set_cons_zero, List.set_cons_succ]; rfl)
              refine tk2 (N := some 17) (v := ?vv26) (a' := ?aa26) rfl rfl rfl ?hr26 ?ha26 ?nx26
              case hr26 => (intro w' hS; first | (go_simp; with_reducible rfl) | (obtain hS | hS := hS; (· cases hS); have hF := HALL.out w' hS; go_simp; with_reducible rfl))
              case ha26 => (simp only [Act.put, List.setIfInBounds_toArray, List.set_cons_zero, List.set_cons_succ]; rfl)
              refine takes2_done ?_
              refine one_ (i := 4) (N := some 18) #[true, true, true, true, true, false, false, false, false, false, false, false, false, false, false, false, false, false, false, false, false, false, false] rfl rfl (by kernel_rfl) (by decide) (fun K hK => ?_)
              refine goes_ Tryz.func101 (by kernel_rfl) rfl #[.string p] (by rfl) rfl rfl (by simp only [List.map_toArray, List.map_cons, List.map_nil]; rfl) ?_
              refine (refIsClean_calls p wr.drew XS.out).mono ?_
              rintro e w8 ⟨rfl, hB⟩
              rw [CL.out]
              have S8 := Aside0.mk (D7.trans (hB.mono D7.size))
              have K8 := Aside0.mk (rdS_cell (HS.out.below S8.out HH.out) HP.out)
              clear hB D7
              refine ⟨_, rfl, ?_⟩
              refine hK _ _ K8.out (fun _ => ?_)
              clear hK K
              refine frame_ (a' := ?aa46) ?ha46 ?nx46
              case ha46 =>
                simp only [Go.Proofs.YtbpfmlckddhgbaaGreatDoorW.PrintLast.putAll, Act.put, List.setIfInBounds_toArray, List.set_cons_zero, List.set_cons_succ]
                rfl
              refine takes_more (S := fun w' => w'.cell? ⟨g0, o0 + 0, none⟩ = some (.string p)) (ds := []) [(5, true), (6, true), (7, true), (8, true), (9, true), (10, true), (11, true), (12, true), (13, true), (14, true), (15, true), (16, true), (17, true), (18, true), (19, true), (20, true), (21, true), (22, true)] 0 18 rfl (by kernel_rfl) (fun _ _ dd _ _ h => by cases dd <;> exact h) K8.out
                #[true, true, true, true, true, true, true, true, true, true, true, true, true, true, true, true, true, true, true, true, true, true, true] (by kernel_rfl) ?_
              refine tk2 (N := some 19) (v := ?vv27) (a' := ?aa27) rfl rfl rfl ?hr27 ?ha27 ?nx27
              case hr27 => (intro w' hS; first | (go_simp; with_reducible rfl) | (obtain hS | hS := hS; (· cases hS); have hF := HALL.out w' hS; go_simp; with_reducible rfl))
              case ha27 => (simp only [Act.put, List.setIfInBounds_toArray, List.set_cons_zero, List.set_cons_succ]; rfl)
              refine tk2 (N := some 20) (v := ?vv28) (a' := ?aa28) rfl rfl rfl ?hr28 ?ha28 ?nx28
              case hr28 => (intro w' hS; first | (go_simp; with_reducible rfl) | (obtain hS | hS := hS; (· cases hS); have hF := HALL.out w' hS; go_simp; with_reducible rfl))
              case ha28 => (simp only [Act.put, List.setIfInBounds_toArray, List.set_cons_zero, List.set_cons_succ]; rfl)
              refine tk2 (N := some 21) (v := ?vv29) (a' := ?aa29) rfl rfl rfl ?hr29 ?ha29 ?nx29
              case hr29 => (intro w' hS; first | (go_simp; with_reducible rfl) | (obtain hS | hS := hS; (· cases hS); have hF := HALL.out w' hS; go_simp; with_reducible rfl))
              case ha29 => (simp only [Act.put, List.setIfInBounds_toArray, List.set_cons_zero, List.set_cons_succ]; rfl)
              refine tk2 (N := some 22) (v := ?vv30) (a' := ?aa30) rfl rfl rfl ?hr30 ?ha30 ?nx30
              case hr30 => (intro w' hS; first | (go_simp; with_reducible rfl) | (obtain hS | hS := hS; (· cases hS); have hF := HALL.out w' hS; go_simp; with_reducible rfl))
              case ha30 => (simp only [Act.put, List.setIfInBounds_toArray, List.set_cons_zero, List.set_cons_succ]; rfl)
              refine tk2 (N := some 23) (v := ?vv31) (a' := ?aa31) rfl rfl rfl ?hr31 ?ha31 ?nx31
              case hr31 => (intro w' hS; first | (go_simp; with_reducible rfl) | (obtain hS | hS := hS; (· cases hS); have hF := HALL.out w' hS; go_simp; with_reducible rfl))
              case ha31 => (simp only [Act.put, List.setIfInBounds_toArray, List.set_cons_zero, List.set_cons_succ]; rfl)
              refine tko (N := some 24) (a' := ?aa32) rfl rfl rfl ?ha32 ?nx32
              case ha32 => (simp only [Act.put, List.setIfInBounds_toArray, List.set_cons_zero, List.set_cons_succ]; rfl)
              refine tko (N := some 25) (a' := ?aa33) rfl rfl rfl ?ha33 ?nx33
              case ha33 => (simp only [Act.put, List.setIfInBounds_toArray, List.set_cons_zero, List.set_cons_succ]; rfl)
              refine tko (N := some 26) (a' := ?aa34) rfl rfl rfl ?ha34 ?nx34
              case ha34 => (simp only [Act.put, List.setIfInBounds_toArray, List.set_cons_zero, List.set_cons_succ]; rfl)
              refine tko (N := some 27) (a' := ?aa35) rfl rfl rfl ?ha35 ?nx35
              case ha35 => (simp only [Act.put, List.setIfInBounds_toArray, List.set_cons_zero, List.set_cons_succ]; rfl)
              refine tko (N := some 28) (a' := ?aa36) rfl rfl rfl ?ha36 ?nx36
              case ha36 => (simp only [Act.put, List.setIfInBounds_toArray, List.set_cons_zero, List.set_cons_succ]; rfl)
              refine tko (N := some 29) (a' := ?aa37) rfl rfl rfl ?ha37 ?nx37
              case ha37 => (simp only [Act.put, List.setIfInBounds_toArray, List.set_cons_zero, List.set_cons_succ]; rfl)
              refine tko (N := some 30) (a' := ?aa38) rfl rfl rfl ?ha38 ?nx38
              case ha38 => (simp only [Act.put, List.setIfInBounds_toArray, List.set_cons_zero, List.set_cons_succ]; rfl)
              refine tko (N := some 31) (a' := ?aa39) rfl rfl rfl ?ha39 ?nx39
              case ha39 => (simp only [Act.put, List.setIfInBounds_toArray, List.set_cons_zero, List.set_cons_succ]; rfl)
              refine tko (N := some 32) (a' := ?aa40) rfl rfl rfl ?ha40 ?nx40
              case ha40 => (simp only [Act.put, List.setIfInBounds_toArray, List.set_cons_zero, List.set_cons_succ]; rfl)
              refine tko (N := some 33) (a' := ?aa41) rfl rfl rfl ?ha41 ?nx41
              case ha41 => (simp only [Act.put, List.setIfInBounds_toArray, List.set_cons_zero, List.set_cons_succ]; rfl)
              refine tko (N := some 34) (a' := ?aa42) rfl rfl rfl ?ha42 ?nx42
              case ha42 => (simp only [Act.put, List.setIfInBounds_toArray, List.set_cons_zero, List.set_cons_succ]; rfl)
              refine tk2 (N := some 35) (v := ?vv43) (a' := ?aa43) rfl rfl rfl ?hr43 ?ha43 ?nx43
              case hr43 => (intro w' hS; first | (go_simp; with_reducible rfl) | (obtain hS | hS := hS; (· cases hS); have hF := HALL.out w' hS; go_simp; with_reducible rfl))
              case ha43 => (simp only [Act.put, List.setIfInBounds_toArray, List.set_cons_zero, List.set_cons_succ]; rfl)
              refine tk2 (N := some 36) (v := ?vv44) (a' := ?aa44) rfl rfl rfl ?hr44 ?ha44 ?nx44
              case hr44 => (intro w' hS; first | (go_simp; with_reducible rfl) | (obtain hS | hS := hS; (· cases hS); have hF := HALL.out w' hS; go_simp; with_reducible rfl))
              case ha44 => (simp only [Act.put, List.setIfInBounds_toArray, List.set_cons_zero, List.set_cons_succ]; rfl)
              refine takes2_done ?_
              refine done_ (by kernel_rfl) ?_
              go_wp2_with fail
              go_meet
              refine ⟨congrArg Value.bool ?_, S8⟩
              rw [BPE.out]; unfold badK; rw [CL.out]; rfl
            · obtain ⟨k, rfl⟩ : ∃ k, i = k + 1 := ⟨i - 1, by omega⟩
              obtain ⟨y, hy⟩ : ∃ y, ps[k]? = some y := ⟨_, List.getElem?_eq_getElem (by have := NN.out; omega)⟩
              have YS := Aside0.mk (PS.out y (List.mem_of_getElem? hy))
              have HY := Aside0.mk hy
              have PJ := Aside0.mk (show prevS ps (k + 1) = some y from hy)
              have ky : wr.cell? ⟨g0, o0 + k, none⟩ = some (.string y) := rdS_cell RD.out hy
              have CL := Aside0.mk hcl
              clear hcl hy
              have hw1 : IntKind.i64.wrap ((k : Int) + 1 - 1) = (k : Int) := by rw [IntWalk.i64_in _ (by omega)]; omega
              have hw2 : IntKind.i64.wrap (k : Int) = (k : Int) := IntWalk.i64_in _ (by omega)
              have hb1 : (0 : Int) ≤ (k : Int) := Int.natCast_nonneg _
              have hb2 : (k : Int) < (n : Int) := by omega
              have hb3 : (0 : Int) < (k : Int) + 1 := by omega
              have hb4 : (0 : Int) ≤ (k : Int) + 1 := by omega
              have hb5 : (k : Int) + 1 < (n : Int) := by omega
              rw [show ((k + 1 : Nat) : Int) = (k : Int) + 1 from rfl]
              go_region_held3 (fun w' => w'.cell? ⟨g0, o0 + (k + 1), none⟩ = some (.string p) ∧ w'.cell? ⟨g0, o0 + k, none⟩ = some (.string y))
                (first | exact K9.out | exact K8.out | go_keep)
                (first
                  | (go_at_call 101
                     have D7 : Below w.heap.size w wr.drew := HB.out.drew
                     refine (refIsClean_calls p wr.drew XS.out).mono ?_
                     rintro e w8 ⟨rfl, hB⟩
                     rw [CL.out]
                     have S8 := Aside0.mk (D7.trans (hB.mono D7.size))
                     have K8 := Aside0.mk (show w8.cell? ⟨g0, o0 + (k + 1), none⟩ = some (.string p) ∧ w8.cell? ⟨g0, o0 + k, none⟩ = some (.string y) from ⟨rdS_cell (HS.out.below S8.out HH.out) HP.out, rdS_cell (HS.out.below S8.out HH.out) HY.out⟩)
                     clear hB D7)
                  | (go_at_call 102
                     refine (refLess_calls y p w8 YS.out XS.out).mono ?_
                     rintro e w9 ⟨rfl, hB⟩
                     have S9 := Aside0.mk (S8.out.trans (hB.mono S8.out.size))
                     have K9 := Aside0.mk (show w9.cell? ⟨g0, o0 + (k + 1), none⟩ = some (.string p) ∧ w9.cell? ⟨g0, o0 + k, none⟩ = some (.string y) from ⟨rdS_cell (HS.out.below S9.out HH.out) HP.out, rdS_cell (HS.out.below S9.out HH.out) HY.out⟩)
                     clear hB))
              go_wp2_with fail
              go_meet
              refine ⟨congrArg Value.bool ?_, S9⟩
              rw [BPE.out]; unfold badK; rw [CL.out, PJ.out]; simp
        case rest =>
          obtain ⟨rfl, SC⟩ := hcut
          clear kp
          rcases BP with _ | _
          · go_wp2_with fail
            go_loopg [4] i (fun g s4 wr => ∃ j : Nat, Aside0 (j + g = i) ∧ s4 = .int .i64 j ∧ Aside0 (∀ m a, m < j → ps[m]? = some a → under a p = false) ∧ Aside0 (Below w.heap.size w wr))
            case atStart => exact ⟨0, ⟨by omega⟩, rfl, ⟨fun m a h => by omega⟩, SC⟩
            case round =>
              obtain ⟨j, HJ2, rfl, HF, HB2⟩ := hrel
              by_cases hjt : j < i
              · obtain ⟨y, hy⟩ : ∃ y, ps[j]? = some y := ⟨_, List.getElem?_eq_getElem (by have := NN.out; omega)⟩
                have YS := Aside0.mk (PS.out y (List.mem_of_getElem? hy))
                have HY := Aside0.mk hy
                have kp : wr.cell? ⟨g0, o0 + i, none⟩ = some (.string p) := rdS_cell (HS.out.below HB2.out HH.out) HP.out
                have ky : wr.cell? ⟨g0, o0 + j, none⟩ = some (.string y) := rdS_cell (HS.out.below HB2.out HH.out) hy
                have hb1 : (0 : Int) ≤ (j : Int) := Int.natCast_nonneg _
                have hb2 : (j : Int) < (n : Int) := by omega
                have hb3 : (j : Int) < (i : Int) := by omega
                clear hy
                rcases hu : under y p with _ | _
                · have UU := Aside0.mk hu
                  clear hu
                  go_upto_region 11 with fail
                  go_region_held3 (fun w' => w'.cell? ⟨g0, o0 + i, none⟩ = some (.string p) ∧ w'.cell? ⟨g0, o0 + j, none⟩ = some (.string y))
                    (first | exact K9.out | go_keep)
                    (first
                      | (go_at_call 90
                         have D7 : Below w.heap.size w wr.drew := HB2.out.drew
                         refine (refUnder_calls y p wr.drew YS.out XS.out).mono ?_
                         rintro e w9 ⟨rfl, hB⟩
                         rw [UU.out]
                         have S9 := Aside0.mk (D7.trans (hB.mono D7.size))
                         have K9 := Aside0.mk (show w9.cell? ⟨g0, o0 + i, none⟩ = some (.string p) ∧ w9.cell? ⟨g0, o0 + j, none⟩ = some (.string y) from ⟨rdS_cell (HS.out.below S9.out HH.out) HP.out, rdS_cell (HS.out.below S9.out HH.out) HY.out⟩)
                         clear hB D7)
                      | fail)
                  go_wp2_with fail
                  go_roundg (i - (j + 1))
                  case measure => have := HJ2.out; omega
                  case rel =>
                    refine ⟨j + 1, ⟨by have := HJ2.out; omega⟩, by go_num, ⟨fun m a hm ha => ?_⟩, S9⟩
                    by_cases he : m = j
                    · subst he; have h1 := HY.out; rw [ha] at h1; injection h1 with h1; rw [h1]; exact UU.out
                    · exact HF.out m a (by omega) ha
                · have UU := Aside0.mk hu
                  clear hu
                  go_upto_region 11 with fail
                  go_region_held3 (fun w' => w'.cell? ⟨g0, o0 + i, none⟩ = some (.string p) ∧ w'.cell? ⟨g0, o0 + j, none⟩ = some (.string y))
                    (first | exact K9.out | go_keep)
                    (first
                      | (go_at_call 90
                         have D7 : Below w.heap.size w wr.drew := HB2.out.drew
                         refine (refUnder_calls y p wr.drew YS.out XS.out).mono ?_
                         rintro e w9 ⟨rfl, hB⟩
                         rw [UU.out]
                         have S9 := Aside0.mk (D7.trans (hB.mono D7.size))
                         have K9 := Aside0.mk (show w9.cell? ⟨g0, o0 + i, none⟩ = some (.string p) ∧ w9.cell? ⟨g0, o0 + j, none⟩ = some (.string y) from ⟨rdS_cell (HS.out.below S9.out HH.out) HP.out, rdS_cell (HS.out.below S9.out HH.out) HY.out⟩)
                         clear hB D7)
                      | fail)
                  go_wp2_with fail
                  go_ret
                  exact ⟨by rw [HR.out.lies HP.out BPE.out.symm hjt HY.out UU.out]; rfl, S9.out⟩
              · obtain rfl : j = i := by have := HJ2.out; omega
                go_wp2_with fail
                go_roundg (n - (j + 1))
                case measure => have := HJ.out; omega
                case rel => exact ⟨j + 1, ⟨by have := HJ.out; omega⟩, by go_num, ⟨HR.out.next HP.out BPE.out.symm (fun m a hm ha => HF.out m a hm ha)⟩, HB2⟩
          · go_wp2_with fail
            go_ret
            exact ⟨by rw [HR.out.bad HP.out BPE.out.symm]; rfl, SC.out⟩
      · have RE := Aside0.mk (HR.out.done (by have := NN.out; omega))
        go_wp2_with fail
        go_ret
        exact ⟨by rw [RE.out]; rfl, HB.out⟩
  · have hres : isKeepM ps = false := by unfold isKeepM; rw [decide_eq_false hl]; rfl
    rw [hres, ← hn]
    rw [← hn] at hl
    have t1 : decide ((n : Int) > 64) = true := decide_eq_true (by omega)
    have t1b : decide (64 < (n : Int)) = true := decide_eq_true (by omega)
    clear hS hhi hps hres hlen hn
    go_enter Tryz.func89, Tryz.ntmps89
    go_wp2_with fail
    go_ret
    exact ⟨rfl, Below.refl _ _⟩
end Go.Proofs.YtbpfmlckddhgbaaGreatDoor
/- The plain law of the document's Cut: what it marks is what the program marks. -/
namespace Go.Proofs.YtbpfmlckddhgbaaGreatDoor
open Go
theorem up_parts {p : ByteArray} (hc : isClean p = true) (hne : p.data.toList ≠ []) : parts (splitP p).1 = (parts p).dropLast := by
  rw [← parent_eq hc hne]
  have hr := hc
  rw [isClean_eq] at hr
  unfold isCleanR at hr
  rw [Bool.and_eq_true] at hr
  have e : parentR p = joinB (parts p).dropLast := by unfold parentR pathB joinB; rw [join_eq]
  rw [e]
  exact parts_joinB (List.all_eq_true.2 fun x hx => List.all_eq_true.1 hr.1 x (List.dropLast_subset _ hx))
theorem under_trans {a b c : ByteArray} (h1 : under a b = true) (h2 : under b c = true) : under a c = true := by
  obtain ⟨R, h1⟩ := (under_iff _ _).1 h1
  obtain ⟨S, h2⟩ := (under_iff _ _).1 h2
  exact (under_iff _ _).2 ⟨R ++ S, by rw [h2, h1, List.append_assoc]⟩
theorem under_up2 {x z : ByteArray} (hc : isClean z = true) (hz : z.data.toList ≠ []) (hx : x.data.toList ≠ []) (hne : x ≠ z) (h : under x z = true) : under x (splitP z).1 = true ∧ (splitP z).1.data.toList ≠ [] := by
  obtain ⟨R, hR⟩ := (under_iff _ _).1 h
  have hRn : R ≠ [] := fun e => hne (by rw [← joinB_parts x, ← joinB_parts z, hR, e, List.append_nil])
  have hu : parts (splitP z).1 = parts x ++ R.dropLast := by rw [up_parts hc hz, hR, List.dropLast_append_of_ne_nil hRn]
  refine ⟨(under_iff _ _).2 ⟨_, hu⟩, fun e => hx ?_⟩
  have h0 : parts (splitP z).1 = [] := by
    have e2 : (splitP z).1 = B [] := by rw [← B_of (splitP z).1, e]
    rw [e2]; rfl
  rw [h0] at hu
  have hxn : parts x = [] := (List.append_eq_nil_iff.1 hu.symm).1
  rw [← joinB_parts x, hxn]; rfl
theorem tree_rel {its : List Itm} (hT : isTreeM its = true) : ∀ i, i ≤ its.length → ∃ all bs, ItRel its i all bs true
  | 0, _ => ⟨0, _, by
    have h := ItRel.start its
    unfold isTreeM at hT
    rw [Bool.and_eq_true] at hT
    rw [hT.2] at h
    exact h⟩
  | i + 1, hi => by
    obtain ⟨all, bs, h⟩ := tree_rel hT i (by omega)
    obtain ⟨x, hx⟩ : ∃ x, its[i]? = some x := ⟨_, List.getElem?_eq_getElem hi⟩
    have h1 : badP (prevOf its i) x = false := by
      cases e : badP (prevOf its i) x with
      | false => rfl
      | true => exact absurd (h.bad hx e) (by decide)
    have h2 : badS x = false := by
      cases e : badS x with
      | false => rfl
      | true => exact absurd (h.big hx e) (by decide)
    obtain ⟨a, ha⟩ : ∃ a, posOf its i (upOf x) = some a := by
      cases e : posOf its i (upOf x) with
      | none => exact absurd (h.lost hx e) (by decide)
      | some a => exact ⟨a, rfl⟩
    have hal : a < bs.length := by
      rw [h.len]
      by_cases h0 : upOf x = []
      · unfold posOf at ha; rw [if_pos h0] at ha; injection ha with ha; omega
      · have := (posOf_some ha h0).1; omega
    have hb : bs[a]? = some bs[a] := List.getElem?_eq_getElem hal
    have hn : bs[a] < 1024 := by
      rcases Nat.lt_or_ge bs[a] 1024 with hn | hn
      · exact hn
      · exact absurd (h.full hx ha hb hn) (by decide)
    exact ⟨_, _, h.next hx h1 h2 ha hb hn⟩
theorem tree_at {its : List Itm} (hT : isTreeM its = true) {c : Nat} {z : Itm} (hz : its[c]? = some z) : isClean z.path = true ∧ z.path.data.toList ≠ [] ∧ (upOf z ≠ [] → ∃ (d : Nat) (y : Itm), d < c ∧ its[d]? = some y ∧ y.path = (splitP z.path).1 ∧ y.dir = true) := by
  have hlt : c < its.length := (List.getElem?_eq_some_iff.1 hz).1
  obtain ⟨all, bs, h⟩ := tree_rel hT c (by omega)
  have h1 : badP (prevOf its c) z = false := by
    cases e : badP (prevOf its c) z with
    | false => rfl
    | true => exact absurd (h.bad hz e) (by decide)
  obtain ⟨g1, g2, _⟩ := badP_ok h1
  refine ⟨g1, g2, fun hu => ?_⟩
  obtain ⟨a, ha⟩ : ∃ a, posOf its c (upOf z) = some a := by
    cases e : posOf its c (upOf z) with
    | none => exact absurd (h.lost hz e) (by decide)
    | some a => exact ⟨a, rfl⟩
  obtain ⟨q1, y, q2, q3, q4⟩ := posOf_some ha hu
  exact ⟨a, y, q1, q2, by rw [q3]; exact B_of _, q4⟩
theorem rising_uniq {its : List Itm} (hr : Rising its) {i j : Nat} {x y : Itm} (hx : its[i]? = some x) (hy : its[j]? = some y) (he : x.path = y.path) : i = j := by
  obtain ⟨h1, e1⟩ := List.getElem?_eq_some_iff.1 hx
  obtain ⟨h2, e2⟩ := List.getElem?_eq_some_iff.1 hy
  have hp := List.pairwise_iff_getElem.1 hr
  rcases Nat.lt_trichotomy i j with h | h | h
  · have := hp i j h1 h2 h; rw [e1, e2, he] at this; exact absurd this (less_irrefl _)
  · exact h
  · have := hp j i h2 h1 h; rw [e1, e2, he] at this; exact absurd this (less_irrefl _)
theorem rising_at {its : List Itm} (hr : Rising its) {i j : Nat} {x y : Itm} (hx : its[i]? = some x) (hy : its[j]? = some y) (h : i < j) : less x.path y.path = true := by
  obtain ⟨h1, e1⟩ := List.getElem?_eq_some_iff.1 hx
  obtain ⟨h2, e2⟩ := List.getElem?_eq_some_iff.1 hy
  have := List.pairwise_iff_getElem.1 hr i j h1 h2 h
  rw [e1, e2] at this
  exact this
theorem child_of {its : List Itm} (hT : isTreeM its = true) {i : Nat} {x : Itm} (hx : its[i]? = some x) : ∀ (d : Nat) (z : Itm), its[d]? = some z → under x.path z.path = true → x.path ≠ z.path → ∃ (c : Nat) (y : Itm), its[c]? = some y ∧ (splitP y.path).1 = x.path ∧ under y.path z.path = true := fun d => by
  induction d using Nat.strongRecOn with
  | ind d ih =>
    intro z hz hu hne
    obtain ⟨h1, h2, h3⟩ := tree_at hT hz
    obtain ⟨g1, g2⟩ := under_up2 h1 h2 (tree_at hT hx).2.1 hne hu
    by_cases he : (splitP z.path).1 = x.path
    · exact ⟨d, z, hz, he, under_refl _⟩
    · obtain ⟨d2, y, q1, q2, q3, _⟩ := h3 g2
      obtain ⟨c, v, r1, r2, r3⟩ := ih d2 q1 y q2 (by rw [q3]; exact g1) (fun e => he (by rw [← q3]; exact e.symm))
      exact ⟨c, v, r1, r2, under_trans r3 (by rw [q3]; exact under_up (split_ok h1 h2) g2)⟩
theorem runM_mem (p : ByteArray) : ∀ (xs : List Itm) (ks : List Bool), runM p xs ks = true → ∃ (j : Nat) (y : Itm), xs[j]? = some y ∧ ks[j]? = some true ∧ under p y.path = true
  | [], _, h => by simp [runM] at h
  | _ :: _, [], h => by simp [runM] at h
  | x :: xs, k :: ks, h => by
    rw [runM, Bool.and_eq_true, Bool.or_eq_true] at h
    obtain ⟨h1, h2 | h2⟩ := h
    · exact ⟨0, x, rfl, by simp [h2], h1⟩
    · obtain ⟨j, y, q1, q2, q3⟩ := runM_mem p xs ks h2
      exact ⟨j + 1, y, by simpa using q1, by simpa using q2, q3⟩
theorem noK_at (p : ByteArray) : ∀ (xs : List Itm) (ks : List Bool), noK p xs ks → ∀ (j : Nat) (y : Itm), xs[j]? = some y → ks[j]? = some true → under p y.path = false
  | [], _, _, j, y, h, _ => by simp at h
  | _ :: _, [], _, j, y, _, h => by simp at h
  | x :: xs, k :: ks, h, 0, y, h1, h2 => by
    have e1 : x = y := by simpa using h1
    have e2 : k = true := by simpa using h2
    rw [← e1]; exact h.1 e2
  | x :: xs, k :: ks, h, j + 1, y, h1, h2 => noK_at p xs ks h.2 j y (by simpa using h1) (by simpa using h2)
theorem kept_fwd (keep : List ByteArray) : ∀ (its : List Itm) (i : Nat) (x : Itm), its[i]? = some x → (keptM keep its)[i]? = some true → ∃ (j : Nat) (y : Itm), its[j]? = some y ∧ under x.path y.path = true ∧ keepAny keep y.path = true
  | [], i, x, h, _ => by simp at h
  | x0 :: xs, 0, x, h, hk => by
    have e1 : x0 = x := by simpa using h
    subst e1
    rw [keptM] at hk
    have hk : (keepAny keep x0.path || (x0.dir && runM x0.path xs (keptM keep xs))) = true := by simpa using hk
    rw [Bool.or_eq_true, Bool.and_eq_true] at hk
    rcases hk with hk | ⟨_, hk⟩
    · exact ⟨0, x0, rfl, under_refl _, hk⟩
    · obtain ⟨j, y, q1, q2, q3⟩ := runM_mem _ _ _ hk
      obtain ⟨m, v, r1, r2, r3⟩ := kept_fwd keep xs j y q1 q2
      exact ⟨m + 1, v, by simpa using r1, under_trans q3 r2, r3⟩
  | x0 :: xs, i + 1, x, h, hk => by
    rw [keptM] at hk
    obtain ⟨m, v, r1, r2, r3⟩ := kept_fwd keep xs i x (by simpa using h) (by simpa using hk)
    exact ⟨m + 1, v, by simpa using r1, r2, r3⟩
theorem kept_here (keep : List ByteArray) : ∀ (its : List Itm) (i : Nat) (x : Itm), its[i]? = some x → (keptM keep its)[i]? = some (keepAny keep x.path || (x.dir && runM x.path (its.drop (i + 1)) ((keptM keep its).drop (i + 1))))
  | [], i, x, h => by simp at h
  | x0 :: xs, 0, x, h => by
    have e1 : x0 = x := by simpa using h
    subst e1
    rw [keptM]; rfl
  | x0 :: xs, i + 1, x, h => by
    rw [keptM]
    have := kept_here keep xs i x (by simpa using h)
    simpa using this
theorem kept_back (keep : List ByteArray) {its : List Itm} (hT : isTreeM its = true) : ∀ (g i : Nat) (x : Itm), i + g = its.length → its[i]? = some x → ∀ (j : Nat) (y : Itm), its[j]? = some y → under x.path y.path = true → keepAny keep y.path = true → (keptM keep its)[i]? = some true := fun g => by
  induction g using Nat.strongRecOn with
  | ind g ih =>
    intro i x hg hx j y hy hu hk
    have hr := tree_rising hT
    rw [kept_here keep its i x hx]
    by_cases he : x.path = y.path
    · rw [he, hk]; rfl
    · obtain ⟨c, z, h1, h2, h3⟩ := child_of hT hx j y hy hu he
      obtain ⟨t1, t2, t3⟩ := tree_at hT h1
      have hxn := (tree_at hT hx).2.1
      obtain ⟨d, v, q1, q2, q3, q4⟩ := t3 (show (splitP z.path).1.data.toList ≠ [] by rw [h2]; exact hxn)
      have hdi : d = i := rising_uniq hr q2 hx (q3.trans h2)
      subst hdi
      rw [hx] at q2
      injection q2 with q2
      have hlt : c < its.length := (List.getElem?_eq_some_iff.1 h1).1
      have hK := ih (its.length - c) (by omega) c z (by omega) h1 j y hy h3 hk
      have hrun : runM x.path (its.drop (d + 1)) ((keptM keep its).drop (d + 1)) = true := by
        cases e : runM x.path (its.drop (d + 1)) ((keptM keep its).drop (d + 1)) with
        | true => rfl
        | false =>
          have hn := run_no x.path _ _ (fun w hw => by
            obtain ⟨m, hm⟩ := List.mem_iff_getElem?.1 hw
            rw [List.getElem?_drop] at hm
            exact rising_at hr hx hm (by omega)) (List.Pairwise.sublist (List.drop_sublist _ _) hr) e
          have h5 := noK_at _ _ _ hn (c - (d + 1)) z (by rw [List.getElem?_drop, show d + 1 + (c - (d + 1)) = c by omega]; exact h1) (by rw [List.getElem?_drop, show d + 1 + (c - (d + 1)) = c by omega]; exact hK)
          have h6 : under x.path z.path = true := by rw [← h2]; exact under_up (split_ok t1 t2) (by rw [h2]; exact hxn)
          rw [h6] at h5
          exact absurd h5 (by decide)
      rw [hrun, q2, q4]
      simp
theorem kept_step (keep : List ByteArray) {its : List Itm} (hT : isTreeM its = true) {i : Nat} {x : Itm} (hx : its[i]? = some x) :
    (keptM keep its)[i]? = some true ↔ keepAny keep x.path = true ∨ ∃ (c : Nat) (z : Itm), i + 1 ≤ c ∧ its[c]? = some z ∧ (keptM keep its)[c]? = some true ∧ (splitP z.path).1 = x.path := by
  have hlt : i < its.length := (List.getElem?_eq_some_iff.1 hx).1
  have hr := tree_rising hT
  constructor
  · intro h
    obtain ⟨j, y, h1, h2, h3⟩ := kept_fwd keep its i x hx h
    by_cases he : x.path = y.path
    · exact .inl (by rw [he]; exact h3)
    · obtain ⟨c, z, g1, g2, g3⟩ := child_of hT hx j y h1 h2 he
      obtain ⟨t1, t2, t3⟩ := tree_at hT g1
      obtain ⟨d, v, q1, q2, q3, q4⟩ := t3 (show (splitP z.path).1.data.toList ≠ [] by rw [g2]; exact (tree_at hT hx).2.1)
      have hdi : d = i := rising_uniq hr q2 hx (q3.trans g2)
      have hcl : c < its.length := (List.getElem?_eq_some_iff.1 g1).1
      exact .inr ⟨c, z, by omega, g1, kept_back keep hT (its.length - c) c z (by omega) g1 j y h1 g3 h3, g2⟩
  · rintro (h | ⟨c, z, h1, h2, h3, h4⟩)
    · exact kept_back keep hT (its.length - i) i x (by omega) hx i x hx (under_refl _) h
    · obtain ⟨j, y, g1, g2, g3⟩ := kept_fwd keep its c z h2 h3
      obtain ⟨t1, t2, t3⟩ := tree_at hT h2
      exact kept_back keep hT (its.length - i) i x (by omega) hx j y g1 (under_trans (by rw [← h4]; exact under_up (split_ok t1 t2) (by rw [h4]; exact (tree_at hT hx).2.1)) g2) g3
structure DM (keep : List ByteArray) (its : List Itm) (r : Nat) (bs : List Bool) : Prop where
  len : bs.length = its.length
  marks : ∀ (j : Nat) (y : Itm), its[j]? = some y → (bs[j]? = some true ↔ keepAny keep y.path = true ∨ ∃ (c : Nat) (z : Itm), r ≤ c ∧ its[c]? = some z ∧ (keptM keep its)[c]? = some true ∧ (splitP z.path).1 = y.path)
namespace DM
variable {keep : List ByteArray} {its : List Itm} {r : Nat} {bs : List Bool} {x : Itm}
theorem start (keep : List ByteArray) (its : List Itm) : DM keep its its.length (its.map (fun x => keepAny keep x.path)) := by
  refine ⟨by simp, fun j y hy => ?_⟩
  rw [List.getElem?_map, hy]
  constructor
  · intro h; exact .inl (by simpa using h)
  · rintro (h | ⟨c, z, h1, h2, _⟩)
    · simp [h]
    · have := (List.getElem?_eq_some_iff.1 h2).1; omega
theorem here (h : DM keep its (r + 1) bs) (hT : isTreeM its = true) (hx : its[r]? = some x) : bs[r]? = (keptM keep its)[r]? := by
  have hlt : r < its.length := (List.getElem?_eq_some_iff.1 hx).1
  have h1 := (h.marks r x hx).trans (kept_step keep hT hx).symm
  obtain ⟨a, ha⟩ : ∃ a, bs[r]? = some a := ⟨_, List.getElem?_eq_getElem (by rw [h.len]; exact hlt)⟩
  obtain ⟨b, hb⟩ : ∃ b, (keptM keep its)[r]? = some b := ⟨_, List.getElem?_eq_getElem (by rw [keptM_len]; exact hlt)⟩
  rw [ha, hb] at h1 ⊢
  cases a <;> cases b <;> simp_all
theorem no (h : DM keep its (r + 1) bs) (hT : isTreeM its = true) (hx : its[r]? = some x) (hn : (keptM keep its)[r]? ≠ some true ∨ (splitP x.path).1.data.toList = []) : DM keep its r bs := by
  refine ⟨h.len, fun j y hy => (h.marks j y hy).trans ⟨?_, ?_⟩⟩
  · rintro (g | ⟨c, z, h1, h2, h3, h4⟩)
    · exact .inl g
    · exact .inr ⟨c, z, by omega, h2, h3, h4⟩
  · rintro (g | ⟨c, z, h1, h2, h3, h4⟩)
    · exact .inl g
    · refine .inr ⟨c, z, ?_, h2, h3, h4⟩
      rcases Nat.lt_or_ge r c with hc | hc
      · omega
      · have : c = r := by omega
        subst this
        rw [hx] at h2
        injection h2 with h2
        subst h2
        rcases hn with hn | hn
        · exact absurd h3 hn
        · exact absurd (by rw [h4] at hn; exact hn) (tree_at hT hy).2.1
theorem yes (h : DM keep its (r + 1) bs) (hT : isTreeM its = true) (hx : its[r]? = some x) (hk : (keptM keep its)[r]? = some true) {a : Nat} {v : Itm} (ha : its[a]? = some v) (hv : v.path = (splitP x.path).1) : DM keep its r (bs.set a true) := by
  refine ⟨by rw [List.length_set]; exact h.len, fun j y hy => ?_⟩
  have hal : a < bs.length := by rw [h.len]; exact (List.getElem?_eq_some_iff.1 ha).1
  rw [List.getElem?_set]
  by_cases he : a = j
  · subst he
    rw [ha] at hy
    injection hy with hy
    rw [if_pos rfl, if_pos hal]
    exact ⟨fun _ => .inr ⟨r, x, Nat.le_refl _, hx, hk, by rw [← hy]; exact hv.symm⟩, fun _ => rfl⟩
  · rw [if_neg he]
    refine (h.marks j y hy).trans ⟨?_, ?_⟩
    · rintro (g | ⟨c, z, h1, h2, h3, h4⟩)
      · exact .inl g
      · exact .inr ⟨c, z, by omega, h2, h3, h4⟩
    · rintro (g | ⟨c, z, h1, h2, h3, h4⟩)
      · exact .inl g
      · refine .inr ⟨c, z, ?_, h2, h3, h4⟩
        rcases Nat.lt_or_ge r c with hc | hc
        · omega
        · have : c = r := by omega
          subst this
          rw [hx] at h2
          injection h2 with h2
          subst h2
          exact absurd (rising_uniq (tree_rising hT) ha hy (hv.trans h4)) he
theorem done (h : DM keep its 0 bs) (hT : isTreeM its = true) : bs = keptM keep its := by
  refine List.ext_getElem? fun j => ?_
  rcases Nat.lt_or_ge j its.length with hj | hj
  · obtain ⟨y, hy⟩ : ∃ y, its[j]? = some y := ⟨_, List.getElem?_eq_getElem hj⟩
    have h2 : bs[j]? = some true ↔ (keptM keep its)[j]? = some true := by
      rw [h.marks j y hy, kept_step keep hT hy]
      refine or_congr Iff.rfl ⟨?_, ?_⟩
      · rintro ⟨c, z, _, h2, h3, h4⟩
        refine ⟨c, z, ?_, h2, h3, h4⟩
        obtain ⟨t1, t2, t3⟩ := tree_at hT h2
        obtain ⟨d, v, q1, q2, q3, _⟩ := t3 (show (splitP z.path).1.data.toList ≠ [] by rw [h4]; exact (tree_at hT hy).2.1)
        have := rising_uniq (tree_rising hT) q2 hy (q3.trans h4)
        omega
      · rintro ⟨c, z, _, h2, h3, h4⟩
        exact ⟨c, z, Nat.zero_le _, h2, h3, h4⟩
    obtain ⟨a, ha⟩ : ∃ a, bs[j]? = some a := ⟨_, List.getElem?_eq_getElem (by rw [h.len]; exact hj)⟩
    obtain ⟨b, hb⟩ : ∃ b, (keptM keep its)[j]? = some b := ⟨_, List.getElem?_eq_getElem (by rw [keptM_len]; exact hj)⟩
    rw [ha, hb] at h2 ⊢
    cases a <;> cases b <;> simp_all
  · rw [List.getElem?_eq_none (by rw [h.len]; exact hj), List.getElem?_eq_none (by rw [keptM_len]; exact hj)]
end DM
end Go.Proofs.YtbpfmlckddhgbaaGreatDoor
/- The document's Cut. -/
namespace Go.Proofs.YtbpfmlckddhgbaaGreatDoor
set_option linter.unusedVariables false
set_option linter.unusedSimpArgs false
open Go Go.RowKit Go.Maps Go.WideMaps Go.Proofs.YtbpfmlckddhgbaaGreatDoorW.PrintWords Go.Proofs.YtbpfmlckddhgbaaGreatDoorW.PrintLast
theorem CutSt.put {w wr : World} {hi : Nat} {A B : Option Addr} {its : List Itm} {keep : List ByteArray} {bk : Nat} {bs : List Bool} (h : CutSt w wr hi A B its keep bk bs) (i : Nat) (b : Bool) : CutSt w (wr.setCell ⟨bk, i, none⟩ (.bool b)) hi A B its keep bk (bs.set i b) := by
  have ho : Only (· = bk) wr.heap.size wr (wr.setCell ⟨bk, i, none⟩ (.bool b)) := Only.setCell (S := (· = bk)) (a := ⟨bk, i, none⟩) (Only.refl _ _ _) (.inl rfl) _
  have h1 := h.hi_
  have h2 := h.own
  refine ⟨by rw [List.map_set]; exact h.kept.setCell i _, h.below.trans (ho.to_below h.below.size (fun b hb => by have e : b = bk := hb; omega)), h.own, h.items.only ho (Nat.le_trans h1 h.below.size) (fun b hb => by have e : b = bk := hb; omega), fun hne => ?_, WSt.globOnly h.glob ho (fun hs => by have e : 0 = bk := hs; have := h.gl; omega), h1, h.gl⟩
  obtain ⟨g, o, g1, g2, g3⟩ := h.keeps hne
  exact ⟨g, o, g1, g2, fun j p hp => by rw [ho.cell (a := ⟨g, o + j, none⟩) (by show g < _; have := h.below.size; omega) (fun hs => by have e : g = bk := hs; omega)]; exact g3 j p hp⟩
def marksA (keep : List ByteArray) (its : List Itm) (i : Nat) : List Bool := (its.take i).map (fun x => keepAny keep x.path) ++ List.replicate (its.length - i) false
theorem marksA_zero (keep : List ByteArray) (its : List Itm) : marksA keep its 0 = List.replicate its.length false := by unfold marksA; simp
theorem marksA_end (keep : List ByteArray) (its : List Itm) : marksA keep its its.length = its.map (fun x => keepAny keep x.path) := by unfold marksA; simp
theorem marksA_len (keep : List ByteArray) (its : List Itm) {i : Nat} (h : i ≤ its.length) : (marksA keep its i).length = its.length := by unfold marksA; simp; omega
theorem marksA_at (keep : List ByteArray) (its : List Itm) {i : Nat} (h : i < its.length) : (marksA keep its i)[i]? = some false := by
  unfold marksA
  rw [List.getElem?_append_right (by simp; omega), List.getElem?_replicate, if_pos (by simp; omega)]
theorem marksA_next (keep : List ByteArray) {its : List Itm} {i : Nat} {x : Itm} (hx : its[i]? = some x) : (marksA keep its i).set i (keepAny keep x.path) = marksA keep its (i + 1) := by
  have hlt : i < its.length := (List.getElem?_eq_some_iff.1 hx).1
  have hl : ((its.take i).map (fun x => keepAny keep x.path)).length = i := by simp; omega
  unfold marksA
  rw [List.set_append_right _ _ (by omega), hl, Nat.sub_self, show its.length - i = (its.length - (i + 1)) + 1 by omega, List.replicate_succ, List.set_cons_zero, List.take_add_one, hx]
  simp
theorem keepAny_snoc {keep : List ByteArray} {k : Nat} {q : ByteArray} (hq : keep[k]? = some q) (p : ByteArray) : keepAny (keep.take (k + 1)) p = (keepAny (keep.take k) p || under q p) := by
  unfold keepAny
  rw [List.take_add_one, hq, List.any_append]
  simp
set_option maxRecDepth 8000 in
theorem refCut_bad (w : World) (hi : Nat) (A B : Option Addr) (c c' : Nat) (its : List Itm) (keep : List ByteArray) (hI : RdI w hi A its) (hhi : hi ≤ w.heap.size) (hps : ∀ x ∈ its, x.path.size ≤ 1048575 ∧ x.data.length ≤ 1099511627776) (hlen : its.length ≤ 1099511627776) (hc : its.length ≤ c) (hT : isTreeM its = false) :
    Calls Tryz.prog 36 #[.slice A its.length c, .slice B keep.length c'] w fun e w' => e = .returned (.tuple #[.slice none 0 0, .slice none 0 0, .int .i64 64]) ∧ Below w.heap.size w w' := by
  have hcc := refIsTree_calls w hi A c its hI hhi hps hlen hc
  rw [hT] at hcc
  have HC := Aside0.mk hcc
  clear hcc hI hhi hps hlen hc hT
  go_enter Tryz.func36, Tryz.ntmps36
  go_wp2_with (first
    | (go_at_call 51
       refine HC.out.mono ?_
       rintro e w1 ⟨rfl, hB⟩
       have B1 := Aside0.mk hB
       clear hB)
    | fail)
  go_ret3
  exact ⟨rfl, B1.out⟩
set_option maxRecDepth 8000 in
theorem refCut_bad2 (w : World) (hi : Nat) (A B : Option Addr) (c c' : Nat) (its : List Itm) (keep : List ByteArray) (hI : RdI w hi A its) (hS : RdS w hi B keep) (hhi : hi ≤ w.heap.size) (hc : its.length ≤ c) (hT : isTreeM its = true) (hK : isKeepM keep = false) (hkl : keep.length ≤ 1099511627776) (hks : ∀ p ∈ keep, p.size ≤ 1048575) :
    Calls Tryz.prog 36 #[.slice A its.length c, .slice B keep.length c'] w fun e w' => e = .returned (.tuple #[.slice none 0 0, .slice none 0 0, .int .i64 65]) ∧ Below w.heap.size w w' := by
  have ht := tree_paths hT
  have hcc := refIsTree_calls w hi A c its hI hhi (fun x hx => by have := ht.2 x hx; omega) (by omega) hc
  rw [hT] at hcc
  have HC := Aside0.mk hcc
  have HS := Aside0.mk (And.intro hS hhi)
  have HK := Aside0.mk hK
  have KS := Aside0.mk hks
  clear hcc hI hhi ht hT hS hK hks hc
  go_enter Tryz.func36, Tryz.ntmps36
  go_wp2_with (first
    | (go_at_call 51
       refine HC.out.mono ?_
       rintro e w1 ⟨rfl, hB⟩
       have B1 := Aside0.mk hB
       clear hB)
    | (go_at_call 89
       have hcall := refIsKeep_calls w1 hi B c' keep (HS.out.1.below B1.out HS.out.2) (Nat.le_trans HS.out.2 B1.out.size) KS.out hkl
       rw [HK.out] at hcall
       refine hcall.mono ?_
       rintro e w2 ⟨rfl, hB⟩
       have B2 := Aside0.mk (B1.out.trans (hB.mono B1.out.size))
       clear hB hcall)
    | fail)
  go_ret3
  exact ⟨rfl, B2.out⟩
set_option maxRecDepth 100000 in
set_option maxHeartbeats 8000000 in
theorem refCut_ok (w : World) (hi : Nat) (A B : Option Addr) (c c' : Nat) (its : List Itm) (keep : List ByteArray) (hI : RdI w hi A its) (hS : RdS w hi B keep) (hhi : hi ≤ w.heap.size) (hG : Glob w) (hc : its.length ≤ c) (hT : isTreeM its = true) (hK : isKeepM keep = true) :
    Calls Tryz.prog 36 #[.slice A its.length c, .slice B keep.length c'] w fun e w' => ∃ v1 v2, e = .returned (.tuple #[v1, v2, .int .i64 0]) ∧ ItRow w' (fun b => v2.ownBlock ≠ some b) v1 (cutM keep its) ∧ Own w' 9 v2 ((missM keep its).map Value.string) ∧ Below w.heap.size w w' := by
  have ht := tree_paths hT
  have hk := keep_paths hK
  have hcc := refIsTree_calls w hi A c its hI hhi (fun x hx => by have := ht.2 x hx; omega) (by omega) hc
  rw [hT] at hcc
  have HC := Aside0.mk hcc
  have HI := Aside0.mk hI
  have HS := Aside0.mk (And.intro hS (And.intro hhi hG))
  have HK := Aside0.mk hK
  have HT := Aside0.mk hT
  have TP := Aside0.mk ht.2
  have KP := Aside0.mk hk.2
  have hn := ht.1
  have hm := hk.1
  obtain ⟨n, hnn⟩ : ∃ n, n = its.length := ⟨_, rfl⟩
  obtain ⟨m, hmm⟩ : ∃ m, m = keep.length := ⟨_, rfl⟩
  rw [← hnn] at hn hc ⊢
  rw [← hmm] at hm ⊢
  have NN := Aside0.mk hnn
  have MM := Aside0.mk hmm
  rw [← hnn] at HC
  clear hcc hI hhi hG ht hT hS hK hk hnn hmm
  go_enter Tryz.func36, Tryz.ntmps36
  go_wp2_with (first
    | (go_at_call 51
       refine HC.out.mono ?_
       rintro e w1 ⟨rfl, hB⟩
       have B1 := Aside0.mk hB
       clear hB)
    | (go_at_call 89
       have hcall := refIsKeep_calls w1 hi B c' keep (HS.out.1.below B1.out HS.out.2.1) (Nat.le_trans HS.out.2.1 B1.out.size) (fun p hp => by have := KP.out p hp; omega) (by have := MM.out; omega)
       rw [HK.out, ← MM.out] at hcall
       refine hcall.mono ?_
       rintro e w2 ⟨rfl, hB⟩
       have B2 := Aside0.mk (B1.out.trans (hB.mono B1.out.size))
       clear hB hcall)
    | (refine arm_make rfl _ _ 154 4 rfl (.bool false) rfl n 1 tu154 info4 rfl rfl (by omega) (by omega) ?_
       intro W3 bk hb hA hB
       have B3 := B2.out.trans (hB.mono B2.out.size)
       have S3 := Aside0.mk (show CutSt w W3 hi A B its keep bk (marksA keep its 0) from ⟨by rw [marksA_zero, List.map_replicate, ← NN.out]; exact hA, B3, by have := B2.out.size; omega, HI.out.only (Only.of_below (S := fun _ => False) B3) HS.out.2.1 (fun _ h => h.elim), HS.out.1.below B3 HS.out.2.1, HS.out.2.2.below B3, HS.out.2.1, HS.out.2.2.lt⟩)
       clear hb hA hB B3)
    | fail)
  go_loopg [8] n (fun g s8 wr => ∃ i : Nat, Aside0 (i + g = n) ∧ s8 = .int .i64 i ∧ Aside0 (CutSt w wr hi A B its keep bk (marksA keep its i)))
  case atStart => exact ⟨0, ⟨by omega⟩, rfl, S3⟩
  case round =>
    obtain ⟨i, HJ, rfl, S1⟩ := hrel
    by_cases hlt : i < n
    · obtain ⟨x, hx⟩ : ∃ x, its[i]? = some x := ⟨_, List.getElem?_eq_getElem (by have := NN.out; omega)⟩
      have HX := Aside0.mk hx
      have XS := Aside0.mk (show x.path.size ≤ 1048575 by have := (TP.out x (List.mem_of_getElem? hx)).1; omega)
      obtain ⟨g0, o0, hA, hg0, _⟩ := S1.out.items (by intro h; rw [h] at hx; simp at hx)
      subst hA
      have hnl : i < its.length := by have := NN.out; omega
      have S1b := Aside0.mk (show CutSt w wr hi (some ⟨g0, o0, none⟩) B its keep bk ((marksA keep its i).set i (keepAny (keep.take 0) x.path)) from by
        have e : (marksA keep its i).set i (keepAny (keep.take 0) x.path) = marksA keep its i := by
          refine List.ext_getElem? fun j => ?_
          rw [List.getElem?_set]
          split
          · rename_i hj
            subst hj
            rw [marksA_at keep its hnl, if_pos (by rw [marksA_len keep its (by omega)]; exact hnl)]
            rfl
          · rfl
        rw [e]; exact S1.out)
      clear hx hg0 S1
      obtain ⟨wo, rfl⟩ : ∃ wo : World, wo = wr := ⟨_, rfl⟩
      go_wp2_with fail
      go_loopg [9] m (fun g2 s9 wr => ∃ k : Nat, Aside0 (k + g2 = m) ∧ s9 = .int .i64 k ∧ Aside0 (CutSt w wr hi (some ⟨g0, o0, none⟩) B its keep bk ((marksA keep its i).set i (keepAny (keep.take k) x.path))))
      case atStart => exact ⟨0, ⟨by omega⟩, rfl, S1b⟩
      case round =>
        obtain ⟨k, HK2, rfl, S2⟩ := hrel
        by_cases hkt : k < m
        · obtain ⟨q, hq⟩ : ∃ q, keep[k]? = some q := ⟨_, List.getElem?_eq_getElem (by have := MM.out; omega)⟩
          have QS := Aside0.mk (show q.size ≤ 1048575 by have := KP.out q (List.mem_of_getElem? hq); omega)
          obtain ⟨g1, o1, hB1, hg1, _⟩ := S2.out.keeps (by intro h; rw [h] at hq; simp at hq)
          subst hB1
          have HQ := Aside0.mk hq
          have KN := Aside0.mk (keepAny_snoc hq x.path)
          obtain ⟨bq, hbq⟩ : ∃ bq, bq = keepAny (keep.take k) x.path := ⟨_, rfl⟩
          rw [← hbq] at KN S2
          have kb : wr.cell? ⟨bk, i, none⟩ = some (.bool bq) := by rw [S2.out.kept.cell, List.getElem?_map, List.getElem?_set, if_pos rfl, if_pos (by rw [marksA_len keep its (by omega)]; exact hnl)]; rfl
          have kx : wr.cell? ⟨g0, o0 + i * 3, none⟩ = some (.string x.path) := (its_cell S2.out.items HX.out).1
          have kp : wr.cell? ⟨g1, o1 + k, none⟩ = some (.string q) := rdS_cell S2.out.keeps hq
          have BX := Aside0.mk (show bk < wr.heap.size from S2.out.kept.lt)
          clear hq hg1 hbq
          cases bq with
          | true =>
            have HALL : Aside0 (∀ w' : World, w'.cell? ⟨bk, i, none⟩ = some (.bool true) → w'.cell? ⟨bk, i, none⟩ = some (.bool true)) := ⟨fun _ h => h⟩
            go_upto_region 12 with fail
            refine takes_region2 (S := fun w' => w'.cell? ⟨bk, i, none⟩ = some (.bool true)) (ds := [19]) [(0, true), (1, true), (2, true), (3, true), (4, true), (5, false), (6, true), (7, true), (8, true), (9, true), (10, true), (11, true), (12, true), (13, true), (14, true), (15, true), (16, true), (17, true), (18, true)] 1 (by kernel_rfl) rfl (by kernel_rfl) (fun _ _ dd _ _ h => by cases dd <;> exact h) kb
              #[true, true, true, true, true, true, true, true, true, true, true, true, true, true, true, true, true, true, true, false] (by kernel_rfl) ?_
            refine tk2 (N := some 37) (v := ?vv1) (a' := ?aa1) rfl rfl rfl ?hr1 ?ha1 ?nx1
            case hr1 => (intro w' hS; first | (go_simp; with_reducible rfl) | (obtain hS | hS := hS; (· cases hS); have hF := HALL.out w' hS; go_simp; with_reducible rfl))
            case ha1 => (simp only [Act.put, List.setIfInBounds_toArray, List.set_cons_zero, List.set_cons_succ]; rfl)
            refine tk2 (N := some 38) (v := ?vv2) (a' := ?aa2) rfl rfl rfl ?hr2 ?ha2 ?nx2
            case hr2 => (intro w' hS; first | (go_simp; with_reducible rfl) | (obtain hS | hS := hS; (· cases hS); have hF := HALL.out w' hS; go_simp; with_reducible rfl))
            case ha2 => (simp only [Act.put, List.setIfInBounds_toArray, List.set_cons_zero, List.set_cons_succ]; rfl)
            refine tk2 (N := some 39) (v := ?vv3) (a' := ?aa3) rfl rfl rfl ?hr3 ?ha3 ?nx3
            case hr3 => (intro w' hS; first | (go_simp; with_reducible rfl) | (obtain hS | hS := hS; (· cases hS); have hF := HALL.out w' hS; go_simp; with_reducible rfl))
            case ha3 => (simp only [Act.put, List.setIfInBounds_toArray, List.set_cons_zero, List.set_cons_succ]; rfl)
            refine tk2 (N := some 40) (v := ?vv4) (a' := ?aa4) rfl rfl rfl ?hr4 ?ha4 ?nx4
            case hr4 => (intro w' hS; first | (go_simp; with_reducible rfl) | (obtain hS | hS := hS; (· cases hS); have hF := HALL.out w' hS; go_simp; with_reducible rfl))
            case ha4 => (simp only [Act.put, List.setIfInBounds_toArray, List.set_cons_zero, List.set_cons_succ]; rfl)
            refine tk2 (N := some 41) (v := ?vv5) (a' := ?aa5) rfl rfl rfl ?hr5 ?ha5 ?nx5
            case hr5 => (intro w' hS; first | (go_simp; with_reducible rfl) | (obtain hS | hS := hS; (· cases hS); have hF := HALL.out w' hS; go_simp; with_reducible rfl))
            case ha5 => (simp only [Act.put, List.setIfInBounds_toArray, List.set_cons_zero, List.set_cons_succ]; rfl)
            refine tk2 (N := some 42) (v := ?vv6) (a' := ?aa6) rfl rfl rfl ?hr6 ?ha6 ?nx6
            case hr6 => (intro w' hS; first | (go_simp; with_reducible rfl) | (obtain hS | hS := hS; (· cases hS); have hF := HALL.out w' hS; go_simp; with_reducible rfl))
            case ha6 => (simp only [Act.put, List.setIfInBounds_toArray, List.set_cons_zero, List.set_cons_succ]; rfl)
            refine tk2 (N := some 43) (v := ?vv7) (a' := ?aa7) rfl rfl rfl ?hr7 ?ha7 ?nx7
            case hr7 => (intro w' hS; first | (go_simp; with_reducible rfl) | (obtain hS | hS := hS; (· cases hS); have hF := HALL.out w' hS; go_simp; with_reducible rfl))
            case ha7 => (simp only [Act.put, List.setIfInBounds_toArray, List.set_cons_zero, List.set_cons_succ]; rfl)
            refine tko (N := some 44) (a' := ?aa8) rfl rfl rfl ?ha8 ?nx8
            case ha8 => (simp only [Act.put, List.setIfInBounds_toArray, List.set_cons_zero, List.set_cons_succ]; rfl)
            refine tko (N := some 45) (a' := ?aa9) rfl rfl rfl ?ha9 ?nx9
            case ha9 => (simp only [Act.put, List.setIfInBounds_toArray, List.set_cons_zero, List.set_cons_succ]; rfl)
            refine tko (N := some 46) (a' := ?aa10) rfl rfl rfl ?ha10 ?nx10
            case ha10 => (simp only [Act.put, List.setIfInBounds_toArray, List.set_cons_zero, List.set_cons_succ]; rfl)
            refine tko (N := some 47) (a' := ?aa11) rfl rfl rfl ?ha11 ?nx11
            case ha11 => (simp only [Act.put, List.setIfInBounds_toArray, List.set_cons_zero, List.set_cons_succ]; rfl)
            refine tko (N := some 48) (a' := ?aa12) rfl rfl rfl ?ha12 ?nx12
            case ha12 => (simp only [Act.put, List.setIfInBounds_toArray, List.set_cons_zero, List.set_cons_succ]; rfl)
            refine tko (N := some 49) (a' := ?aa13) rfl rfl rfl ?ha13 ?nx13
            case ha13 => (simp only [Act.put, List.setIfInBounds_toArray, List.set_cons_zero, List.set_cons_succ]; rfl)
            refine tko (N := some 50) (a' := ?aa14) rfl rfl rfl ?ha14 ?nx14
            case ha14 => (simp only [Act.put, List.setIfInBounds_toArray, List.set_cons_zero, List.set_cons_succ]; rfl)
            refine tko (N := some 51) (a' := ?aa15) rfl rfl rfl ?ha15 ?nx15
            case ha15 => (simp only [Act.put, List.setIfInBounds_toArray, List.set_cons_zero, List.set_cons_succ]; rfl)
            refine tko (N := some 52) (a' := ?aa16) rfl rfl rfl ?ha16 ?nx16
            case ha16 => (simp only [Act.put, List.setIfInBounds_toArray, List.set_cons_zero, List.set_cons_succ]; rfl)
            refine tko (N := some 53) (a' := ?aa17) rfl rfl rfl ?ha17 ?nx17
            case ha17 => (simp only [Act.put, List.setIfInBounds_toArray, List.set_cons_zero, List.set_cons_succ]; rfl)
            refine tk2 (N := some 54) (v := ?vv18) (a' := ?aa18) rfl rfl rfl ?hr18 ?ha18 ?nx18
            case hr18 => (intro w' hS; first | (go_simp; with_reducible rfl) | (obtain hS | hS := hS; (· cases hS); have hF := HALL.out w' hS; go_simp; with_reducible rfl))
            case ha18 => (simp only [Act.put, List.setIfInBounds_toArray, List.set_cons_zero, List.set_cons_succ]; rfl)
            refine tk2 (N := some 55) (v := ?vv19) (a' := ?aa19) rfl rfl rfl ?hr19 ?ha19 ?nx19
            case hr19 => (intro w' hS; first | (go_simp; with_reducible rfl) | (obtain hS | hS := hS; (· cases hS); have hF := HALL.out w' hS; go_simp; with_reducible rfl))
            case ha19 => (simp only [Act.put, List.setIfInBounds_toArray, List.set_cons_zero, List.set_cons_succ]; rfl)
            refine takes2_done ?_
            refine last_ (i := 19) (N := none) #[true, true, true, true, true, true, true, true, true, true, true, true, true, true, true, true, true, true, true, true] rfl rfl (by kernel_rfl) (by decide) (fun K hK => ?_)
            rw [if_pos (by rfl)]
            refine wpo_store1 none rfl 4 (.tmp 55) (.tmp 54) rfl ⟨bk, i, none⟩ rfl (.bool true) rfl (run_store1 4 ⟨bk, i, none⟩ (.bool true) _ kb (S2.out.kept.frozen i) size4 rfl rfl) ?_
            intro W9 hW
            have S9 := Aside0.mk (show CutSt w W9 hi (some ⟨g0, o0, none⟩) (some ⟨g1, o1, none⟩) its keep bk ((marksA keep its i).set i (keepAny (keep.take (k + 1)) x.path)) by
              rw [KN.out]
              have e := (S2.out.step (show Below wr.heap.size wr wr.drew from ⟨rfl, rfl, rfl, Nat.le_refl _, fun _ _ => rfl⟩)).put i true
              rw [← hW, List.set_set] at e
              simpa using e)
            clear hW
            refine hK _ _ ?_
            clear hK K
            refine frame_ (a' := ?aa38) ?ha38 ?nx38
            case ha38 =>
              simp only [Go.Proofs.YtbpfmlckddhgbaaGreatDoorW.PrintLast.putAll, Act.put, List.setIfInBounds_toArray, List.set_cons_zero, List.set_cons_succ]
              rfl
            refine done_ (by kernel_rfl) ?_
            go_wp2_with fail
            go_roundg (m - (k + 1))
            case measure => have := HK2.out; omega
            case rel => exact ⟨k + 1, ⟨by have := HK2.out; omega⟩, by go_num, S9⟩
          | false =>
            have HALL : Aside0 (∀ w' : World, (w'.cell? ⟨bk, i, none⟩ = some (.bool false) ∧ w'.cell? ⟨g0, o0 + i * 3, none⟩ = some (.string x.path) ∧ w'.cell? ⟨g1, o1 + k, none⟩ = some (.string q)) → (w'.cell? ⟨bk, i, none⟩ = some (.bool false) ∧ w'.cell? ⟨g0, o0 + i * 3, none⟩ = some (.string x.path) ∧ w'.cell? ⟨g1, o1 + k, none⟩ = some (.string q))) := ⟨fun _ h => h⟩
            go_upto_region 12 with fail
            refine takes_region2 (S := fun w' => w'.cell? ⟨bk, i, none⟩ = some (.bool false) ∧ w'.cell? ⟨g0, o0 + i * 3, none⟩ = some (.string x.path) ∧ w'.cell? ⟨g1, o1 + k, none⟩ = some (.string q)) (ds := [19]) [(0, true), (1, true), (2, true), (3, true), (4, true), (5, false), (6, true), (7, true), (8, true), (9, true), (10, false), (11, true), (12, true), (13, true), (14, true), (15, false)] 4 (by kernel_rfl) rfl (by kernel_rfl) (fun _ _ dd _ _ h => by cases dd <;> exact h) ⟨kb, kx, kp⟩
              #[true, true, true, true, true, true, true, true, true, true, true, true, true, true, true, true, false, false, false, false] (by kernel_rfl) ?_
            refine tk2 (N := some 37) (v := ?vv20) (a' := ?aa20) rfl rfl rfl ?hr20 ?ha20 ?nx20
            case hr20 => (intro w' hS; first | (go_simp; with_reducible rfl) | (obtain hS | hS := hS; (· cases hS); have hF := HALL.out w' hS; go_simp; with_reducible rfl))
            case ha20 => (simp only [Act.put, List.setIfInBounds_toArray, List.set_cons_zero, List.set_cons_succ]; rfl)
            refine tk2 (N := some 38) (v := ?vv21) (a' := ?aa21) rfl rfl rfl ?hr21 ?ha21 ?nx21
            case hr21 => (intro w' hS; first | (go_simp; with_reducible rfl) | (obtain hS | hS := hS; (· cases hS); have hF := HALL.out w' hS; go_simp; with_reducible rfl))
            case ha21 => (simp only [Act.put, List.setIfInBounds_toArray, List.set_cons_zero, List.set_cons_succ]; rfl)
            refine tk2 (N := some 39) (v := ?vv22) (a' := ?aa22) rfl rfl rfl ?hr22 ?ha22 ?nx22
            case hr22 => (intro w' hS; first | (go_simp; with_reducible rfl) | (obtain hS | hS := hS; (· cases hS); have hF := HALL.out w' hS; go_simp; with_reducible rfl))
            case ha22 => (simp only [Act.put, List.setIfInBounds_toArray, List.set_cons_zero, List.set_cons_succ]; rfl)
            refine tk2 (N := some 40) (v := ?vv23) (a' := ?aa23) rfl rfl rfl ?hr23 ?ha23 ?nx23
            case hr23 => (intro w' hS; first | (go_simp; with_reducible rfl) | (obtain hS | hS := hS; (· cases hS); have hF := HALL.out w' hS; go_simp; with_reducible rfl))
            case ha23 => (simp only [Act.put, List.setIfInBounds_toArray, List.set_cons_zero, List.set_cons_succ]; rfl)
            refine tk2 (N := some 41) (v := ?vv24) (a' := ?aa24) rfl rfl rfl ?hr24 ?ha24 ?nx24
            case hr24 => (intro w' hS; first | (go_simp; with_reducible rfl) | (obtain hS | hS := hS; (· cases hS); have hF := HALL.out w' hS; go_simp; with_reducible rfl))
            case ha24 => (simp only [Act.put, List.setIfInBounds_toArray, List.set_cons_zero, List.set_cons_succ]; rfl)
            refine tk2 (N := some 42) (v := ?vv25) (a' := ?aa25) rfl rfl rfl ?hr25 ?ha25 ?nx25
            case hr25 => (intro w' hS; first | (go_simp; with_reducible rfl) | (obtain hS | hS := hS; (· cases hS); have hF := HALL.out w' hS; go_simp; with_reducible rfl))
            case ha25 => (simp only [Act.put, List.setIfInBounds_toArray, List.set_cons_zero, List.set_cons_succ]; rfl)
            refine tk2 (N := some 43) (v := ?vv26) (a' := ?aa26) rfl rfl rfl ?hr26 ?ha26 ?nx26
            case hr26 => (intro w' hS; first | (go_simp; with_reducible rfl) | (obtain hS | hS := hS; (· cases hS); have hF := HALL.out w' hS; go_simp; with_reducible rfl))
            case ha26 => (simp only [Act.put, List.setIfInBounds_toArray, List.set_cons_zero, List.set_cons_succ]; rfl)
            refine tk2 (N := some 44) (v := ?vv27) (a' := ?aa27) rfl rfl rfl ?hr27 ?ha27 ?nx27
            case hr27 => (intro w' hS; first | (go_simp; with_reducible rfl) | (obtain hS | hS := hS; (· cases hS); have hF := HALL.out w' hS; go_simp; with_reducible rfl))
            case ha27 => (simp only [Act.put, List.setIfInBounds_toArray, List.set_cons_zero, List.set_cons_succ]; rfl)
            refine tk2 (N := some 45) (v := ?vv28) (a' := ?aa28) rfl rfl rfl ?hr28 ?ha28 ?nx28
            case hr28 => (intro w' hS; first | (go_simp; with_reducible rfl) | (obtain hS | hS := hS; (· cases hS); have hF := HALL.out w' hS; go_simp; with_reducible rfl))
            case ha28 => (simp only [Act.put, List.setIfInBounds_toArray, List.set_cons_zero, List.set_cons_succ]; rfl)
            refine tk2 (N := some 46) (v := ?vv29) (a' := ?aa29) rfl rfl rfl ?hr29 ?ha29 ?nx29
            case hr29 => (intro w' hS; first | (go_simp; with_reducible rfl) | (obtain hS | hS := hS; (· cases hS); have hF := HALL.out w' hS; go_simp; with_reducible rfl))
            case ha29 => (simp only [Act.put, List.setIfInBounds_toArray, List.set_cons_zero, List.set_cons_succ]; rfl)
            refine tk2 (N := some 47) (v := ?vv30) (a' := ?aa30) rfl rfl rfl ?hr30 ?ha30 ?nx30
            case hr30 => (intro w' hS; first | (go_simp; with_reducible rfl) | (obtain hS | hS := hS; (· cases hS); have hF := HALL.out w' hS; go_simp; with_reducible rfl))
            case ha30 => (simp only [Act.put, List.setIfInBounds_toArray, List.set_cons_zero, List.set_cons_succ]; rfl)
            refine tk2 (N := some 48) (v := ?vv31) (a' := ?aa31) rfl rfl rfl ?hr31 ?ha31 ?nx31
            case hr31 => (intro w' hS; first | (go_simp; with_reducible rfl) | (obtain hS | hS := hS; (· cases hS); have hF := HALL.out w' hS; go_simp; with_reducible rfl))
            case ha31 => (simp only [Act.put, List.setIfInBounds_toArray, List.set_cons_zero, List.set_cons_succ]; rfl)
            refine tk2 (N := some 49) (v := ?vv32) (a' := ?aa32) rfl rfl rfl ?hr32 ?ha32 ?nx32
            case hr32 => (intro w' hS; first | (go_simp; with_reducible rfl) | (obtain hS | hS := hS; (· cases hS); have hF := HALL.out w' hS; go_simp; with_reducible rfl))
            case ha32 => (simp only [Act.put, List.setIfInBounds_toArray, List.set_cons_zero, List.set_cons_succ]; rfl)
            refine tk2 (N := some 50) (v := ?vv33) (a' := ?aa33) rfl rfl rfl ?hr33 ?ha33 ?nx33
            case hr33 => (intro w' hS; first | (go_simp; with_reducible rfl) | (obtain hS | hS := hS; (· cases hS); have hF := HALL.out w' hS; go_simp; with_reducible rfl))
            case ha33 => (simp only [Act.put, List.setIfInBounds_toArray, List.set_cons_zero, List.set_cons_succ]; rfl)
            refine tk2 (N := some 51) (v := ?vv34) (a' := ?aa34) rfl rfl rfl ?hr34 ?ha34 ?nx34
            case hr34 => (intro w' hS; first | (go_simp; with_reducible rfl) | (obtain hS | hS := hS; (· cases hS); have hF := HALL.out w' hS; go_simp; with_reducible rfl))
            case ha34 => (simp only [Act.put, List.setIfInBounds_toArray, List.set_cons_zero, List.set_cons_succ]; rfl)
            refine tk2 (N := some 52) (v := ?vv35) (a' := ?aa35) rfl rfl rfl ?hr35 ?ha35 ?nx35
            case hr35 => (intro w' hS; first | (go_simp; with_reducible rfl) | (obtain hS | hS := hS; (· cases hS); have hF := HALL.out w' hS; go_simp; with_reducible rfl))
            case ha35 => (simp only [Act.put, List.setIfInBounds_toArray, List.set_cons_zero, List.set_cons_succ]; rfl)
            refine takes2_done ?_
            refine one_ (i := 16) (N := some 53) #[true, true, true, true, true, true, true, true, true, true, true, true, true, true, true, true, true, false, false, false] rfl rfl (by kernel_rfl) (by decide) (fun K hK => ?_)
            refine goes_ Tryz.func90 (by kernel_rfl) rfl #[.string q, .string x.path] (by rfl) rfl rfl (by simp only [List.map_toArray, List.map_cons, List.map_nil]; rfl) ?_
            have D7 := S2.out.step (show Below wr.heap.size wr wr.drew from ⟨rfl, rfl, rfl, Nat.le_refl _, fun _ _ => rfl⟩)
            refine (refUnder_calls q x.path wr.drew QS.out XS.out).mono ?_
            rintro e w8 ⟨rfl, hB⟩
            have S8 := Aside0.mk (D7.step hB)
            have kb8 : w8.cell? ⟨bk, i, none⟩ = some (.bool false) := by rw [S8.out.kept.cell, List.getElem?_map, List.getElem?_set, if_pos rfl, if_pos (by rw [marksA_len keep its (by omega)]; exact hnl)]; rfl
            have K8 := Aside0.mk (show w8.cell? ⟨bk, i, none⟩ = some (.bool false) ∧ w8.cell? ⟨g0, o0 + i * 3, none⟩ = some (.string x.path) ∧ w8.cell? ⟨g1, o1 + k, none⟩ = some (.string q) from ⟨kb8, (its_cell S8.out.items HX.out).1, rdS_cell S8.out.keeps HQ.out⟩)
            obtain ⟨uq, huq⟩ : ∃ uq, uq = under q x.path := ⟨_, rfl⟩
            rw [← huq] at KN ⊢
            clear hB D7 kb8 huq kb kx kp
            refine ⟨_, rfl, ?_⟩
            refine hK _ _ K8.out (fun _ => ?_)
            clear hK K
            refine frame_ (a' := ?aa39) ?ha39 ?nx39
            case ha39 =>
              simp only [Go.Proofs.YtbpfmlckddhgbaaGreatDoorW.PrintLast.putAll, Act.put, List.setIfInBounds_toArray, List.set_cons_zero, List.set_cons_succ]
              rfl
            refine takes_more (S := fun w' => w'.cell? ⟨bk, i, none⟩ = some (.bool false) ∧ w'.cell? ⟨g0, o0 + i * 3, none⟩ = some (.string x.path) ∧ w'.cell? ⟨g1, o1 + k, none⟩ = some (.string q)) (ds := [19]) [(17, true), (18, true)] 1 3 rfl (by kernel_rfl) (fun _ _ dd _ _ h => by cases dd <;> exact h) K8.out
              #[true, true, true, true, true, true, true, true, true, true, true, true, true, true, true, true, true, true, true, false] (by kernel_rfl) ?_
            refine tk2 (N := some 54) (v := ?vv36) (a' := ?aa36) rfl rfl rfl ?hr36 ?ha36 ?nx36
            case hr36 => (intro w' hS; first | (go_simp; with_reducible rfl) | (obtain hS | hS := hS; (· cases hS); have hF := HALL.out w' hS; go_simp; with_reducible rfl))
            case ha36 => (simp only [Act.put, List.setIfInBounds_toArray, List.set_cons_zero, List.set_cons_succ]; rfl)
            refine tk2 (N := some 55) (v := ?vv37) (a' := ?aa37) rfl rfl rfl ?hr37 ?ha37 ?nx37
            case hr37 => (intro w' hS; first | (go_simp; with_reducible rfl) | (obtain hS | hS := hS; (· cases hS); have hF := HALL.out w' hS; go_simp; with_reducible rfl))
            case ha37 => (simp only [Act.put, List.setIfInBounds_toArray, List.set_cons_zero, List.set_cons_succ]; rfl)
            refine takes2_done ?_
            refine last_ (i := 19) (N := none) #[true, true, true, true, true, true, true, true, true, true, true, true, true, true, true, true, true, true, true, true] rfl rfl (by kernel_rfl) (by decide) (fun K hK => ?_)
            rw [if_pos (by rfl)]
            refine wpo_store1 none rfl 4 (.tmp 55) (.tmp 54) rfl ⟨bk, i, none⟩ rfl (.bool uq) rfl (run_store1 4 ⟨bk, i, none⟩ (.bool uq) _ K8.out.1 (S8.out.kept.frozen i) size4 rfl rfl) ?_
            intro W9 hW
            have S9 := Aside0.mk (show CutSt w W9 hi (some ⟨g0, o0, none⟩) (some ⟨g1, o1, none⟩) its keep bk ((marksA keep its i).set i (keepAny (keep.take (k + 1)) x.path)) by
              rw [KN.out]
              have e := (S8.out).put i uq
              rw [← hW, List.set_set] at e
              simpa using e)
            clear hW
            refine hK _ _ ?_
            clear hK K
            refine frame_ (a' := ?aa40) ?ha40 ?nx40
            case ha40 =>
              simp only [Go.Proofs.YtbpfmlckddhgbaaGreatDoorW.PrintLast.putAll, Act.put, List.setIfInBounds_toArray, List.set_cons_zero, List.set_cons_succ]
              rfl
            refine done_ (by kernel_rfl) ?_
            go_wp2_with fail
            go_roundg (m - (k + 1))
            case measure => have := HK2.out; omega
            case rel => exact ⟨k + 1, ⟨by have := HK2.out; omega⟩, by go_num, S9⟩
        · obtain rfl : k = m := by have := HK2.out; omega
          have S2b := Aside0.mk (show CutSt w wr hi (some ⟨g0, o0, none⟩) B its keep bk (marksA keep its (i + 1)) by
            have e := S2.out
            rw [List.take_of_length_le (by have := MM.out; omega), marksA_next keep HX.out] at e
            exact e)
          clear S2
          go_wp2_with fail
          go_roundg (n - (i + 1))
          case measure => have := HJ.out; omega
          case rel => exact ⟨i + 1, ⟨by have := HJ.out; omega⟩, by go_num, S2b⟩
    · obtain rfl : n = i := by have := HJ.out; omega
      have D1 := Aside0.mk (show DM keep its n (marksA keep its n) by rw [NN.out, marksA_end]; exact DM.start keep its)
      obtain ⟨wo, rfl⟩ : ∃ wo : World, wo = wr := ⟨_, rfl⟩
      clear HJ hlt
      go_wp2_with fail
      go_loopg [10] n (fun g s10 wr => ∃ (r : Nat) (bs : List Bool), Aside0 (r = g ∧ r ≤ n) ∧ s10 = ixV r ∧ Aside0 (DM keep its r bs) ∧ Aside0 (CutSt w wr hi A B its keep bk bs))
      case atStart => exact ⟨n, _, ⟨rfl, Nat.le_refl _⟩, (ixV_eq n).symm, D1, S1⟩
      case round =>
        obtain ⟨r, bs, HJ, rfl, HD, S3⟩ := hrel
        cases r with
        | succ i =>
          have hg : i + 1 ≤ n := HJ.out.2
          rw [show ixV (i + 1) = .int .i64 (i : Int) from rfl]
          obtain ⟨x, hx⟩ : ∃ x, its[i]? = some x := ⟨_, List.getElem?_eq_getElem (by have := NN.out; omega)⟩
          have HX := Aside0.mk hx
          have XS := Aside0.mk (show x.path.size ≤ 1048575 by have := (TP.out x (List.mem_of_getElem? hx)).1; omega)
          obtain ⟨g0, o0, hA, hg0, _⟩ := S3.out.items (by intro h; rw [h] at hx; simp at hx)
          subst hA
          obtain ⟨tc, tn, tu⟩ := tree_at HT.out hx
          have TCN := Aside0.mk (And.intro tc tn)
          obtain ⟨b, hb⟩ : ∃ b, bs[i]? = some b := ⟨_, List.getElem?_eq_getElem (by rw [HD.out.len, ← NN.out]; omega)⟩
          have HK2 := Aside0.mk (show (keptM keep its)[i]? = some b by rw [← HD.out.here HT.out hx]; exact hb)
          have kx : wr.cell? ⟨g0, o0 + i * 3, none⟩ = some (.string x.path) := (its_cell S3.out.items hx).1
          obtain ⟨up, hup⟩ : ∃ up, up = parentR x.path := ⟨_, rfl⟩
          have UPE := Aside0.mk hup
          have UPS := Aside0.mk (show up = (splitP x.path).1 by rw [hup, parent_eq tc tn])
          have UPZ := Aside0.mk (show up.size ≤ 1048575 by rw [UPS.out]; exact Nat.le_trans (splitP_up _) (by decide))
          have BSB := Aside0.mk hb
          cases b with
          | false =>
            have DN := Aside0.mk (HD.out.no HT.out hx (.inl (by rw [HK2.out]; simp)))
            clear hx hg0 tc tn tu hb hup
            go_wp2_with (first
              | (go_at_call 91
                 refine (refParent_calls x.path wr XS.out TCN.out.2).mono ?_
                 rintro e wp ⟨rfl, hB⟩
                 rw [← UPE.out]
                 have SP := Aside0.mk (S3.out.step hB)
                 have kq : wp.cell? ⟨bk, i, none⟩ = some (.bool false) := by rw [SP.out.kept.cell, List.getElem?_map, BSB.out]; rfl
                 clear hB)
              | fail)
            go_roundg i
            case measure => have := HJ.out; omega
            case rel => exact ⟨i, bs, ⟨rfl, by omega⟩, by rw [ixV_eq], DN, SP⟩
          | true =>
            rcases hu : up.toList.isEmpty with _ | _
            · have hue : up.data.toList ≠ [] := by intro e; rw [toList_empty, e] at hu; simp at hu
              obtain ⟨a, y, hal, hy, hyp, _⟩ := tu (show (splitP x.path).1.data.toList ≠ [] by rw [← UPS.out]; exact hue)
              obtain ⟨a2, hf, hy2⟩ := found_item (tree_rising HT.out) (List.mem_of_getElem? hy)
              have ha2 : a2 = a := rising_uniq (tree_rising HT.out) hy2 hy rfl
              subst ha2
              have FF := Aside0.mk (show findFrom up its 0 = (a2 : Int) by unfold findFrom; rw [UPS.out, ← hyp, hf]; show ((0 + a2 : Nat) : Int) = _; omega)
              have DY := Aside0.mk (HD.out.yes HT.out hx HK2.out hy hyp)
              obtain ⟨ba, hba⟩ : ∃ ba, bs[a2]? = some ba := ⟨_, List.getElem?_eq_getElem (by rw [HD.out.len, ← NN.out]; omega)⟩
              have BA := Aside0.mk hba
              have ha3 : (a2 : Int) < (n : Int) := by omega
              have ha4 : (0 : Int) ≤ (a2 : Int) := Int.natCast_nonneg _
              clear hx hg0 tc tn tu hb hup hue hy hyp hf hy2 hba
              go_wp2_with (first
                | (go_at_call 91
                   refine (refParent_calls x.path wr XS.out TCN.out.2).mono ?_
                   rintro e wp ⟨rfl, hB⟩
                   rw [← UPE.out]
                   have SP := Aside0.mk (S3.out.step hB)
                   have kq : wp.cell? ⟨bk, i, none⟩ = some (.bool true) := by rw [SP.out.kept.cell, List.getElem?_map, BSB.out]; rfl
                   clear hB)
                | (go_at_call 92
                   have hk := refFind_calls wp hi (some ⟨g0, o0, none⟩) c its up SP.out.items (Nat.le_trans SP.out.hi_ SP.out.below.size) (by have := NN.out; omega) (tree_rising HT.out) (fun y hy => by have := TP.out y hy; omega) UPZ.out
                   rw [← NN.out, FF.out] at hk
                   refine hk.mono ?_
                   rintro e wq ⟨rfl, hB⟩
                   have SQ := Aside0.mk (SP.out.step hB)
                   have kj : wq.cell? ⟨bk, a2, none⟩ = some (.bool ba) := by rw [SQ.out.kept.cell, List.getElem?_map, BA.out]; rfl
                   have fj : wq.frozen? ⟨bk, a2, none⟩ = false := SQ.out.kept.frozen a2
                   clear hB hk)
                | fail)
              go_roundg i
              case measure => have := HJ.out; omega
              case rel => exact ⟨i, bs.set a2 true, ⟨rfl, by omega⟩, by rw [ixV_eq], DY, ⟨SQ.out.put a2 true⟩⟩
            · have DN := Aside0.mk (HD.out.no HT.out hx (.inr (by rw [← UPS.out]; rw [toList_empty] at hu; simpa using hu)))
              clear hx hg0 tc tn tu hb hup
              go_wp2_with (first
                | (go_at_call 91
                   refine (refParent_calls x.path wr XS.out TCN.out.2).mono ?_
                   rintro e wp ⟨rfl, hB⟩
                   rw [← UPE.out]
                   have SP := Aside0.mk (S3.out.step hB)
                   have kq : wp.cell? ⟨bk, i, none⟩ = some (.bool true) := by rw [SP.out.kept.cell, List.getElem?_map, BSB.out]; rfl
                   clear hB)
                | fail)
              go_roundg i
              case measure => have := HJ.out; omega
              case rel => exact ⟨i, bs, ⟨rfl, by omega⟩, by rw [ixV_eq], DN, SP⟩
        | zero =>
          rw [show ixV 0 = .int .i64 (-1) from rfl]
          have KSE := Aside0.mk (HD.out.done HT.out)
          have KSL := Aside0.mk (show bs.length = n by rw [HD.out.len, NN.out])
          clear HJ HD
          obtain ⟨wo2, rfl⟩ : ∃ wo : World, wo = wr := ⟨_, rfl⟩
          go_wp2_with fail
          go_loopg [13, 12] n (fun g4 s13 s12 wr => ∃ (k : Nat) (v12 : Value), Aside0 (k + g4 = n) ∧ s13 = .int .i64 k ∧ v12 = s12 ∧ Aside0 (ItRow wr (fun _ => True) v12 (pick (its.take k) bs)) ∧ Aside0 (∀ b, v12.ownBlock = some b → wo2.heap.size ≤ b) ∧ Aside0 (Below wo2.heap.size wo2 wr) ∧ Aside0 (CutSt w wr hi A B its keep bk bs))
          case atStart => exact ⟨0, _, ⟨by omega⟩, rfl, rfl, ⟨by rw [List.take_zero]; exact ItRow.nil _ _⟩, ⟨fun b hb => by simp [Value.ownBlock] at hb⟩, ⟨Below.refl _ _⟩, S3⟩
          case round =>
            obtain ⟨k, v12, HJ, rfl, rfl, HI4, HF4, HB4, S4⟩ := hrel
            by_cases hlt : k < n
            · obtain ⟨x, hx⟩ : ∃ x, its[k]? = some x := ⟨_, List.getElem?_eq_getElem (by have := NN.out; omega)⟩
              obtain ⟨b, hb⟩ : ∃ b, bs[k]? = some b := ⟨_, List.getElem?_eq_getElem (by have := KSL.out; omega)⟩
              have PN := Aside0.mk (pick_snoc its bs k x b hx hb)
              obtain ⟨g0, o0, hA, hg0, hits⟩ := S4.out.items (by intro h; rw [h] at hx; simp at hx)
              subst hA
              obtain ⟨A0, c0, r0, rc0, u0⟩ := hits k x hx
              have ROW := Aside0.mk r0
              have RC := Aside0.mk rc0
              have kq : wr.cell? ⟨bk, k, none⟩ = some (.bool b) := by rw [S4.out.kept.cell, List.getElem?_map, hb]; rfl
              have U0 := Aside0.mk u0
              clear hx hb hits r0 u0 hg0 rc0
              cases b with
              | false =>
                go_wp2_with fail
                go_roundg (n - (k + 1))
                case measure => have := HJ.out; omega
                case rel => exact ⟨k + 1, _, ⟨by have := HJ.out; omega⟩, by go_num, rfl, ⟨by rw [PN.out, if_neg (by decide), List.append_nil]; exact HI4.out⟩, HF4, HB4, S4⟩
              | true =>
                have PL := Aside0.mk (show (pick (its.take k) bs).length ≤ 65536 by have h1 := pick_len (its.take k) bs; have h2 : (its.take k).length ≤ k := List.length_take_le _ _; omega)
                go_wp2_with (first
                  | (refine arm_load_row rfl 50 _ rfl g0 (o0 + k * 3) rfl (icells x A0 c0) ROW.out row50 size50 ?_
                     intro v96 hv
                     have V96 := Aside0.mk hv
                     clear hv)
                  | (refine arm_slice1 rfl 22 50 _ rfl _ 3 (icells x A0 c0) v96 rfl (by rw [V96.out]; rfl) tu22 info50 (by decide) (by decide) rfl ?_
                     intro W20 b20 hb hW
                     have hB : Below wr.heap.size wr W20 := by subst hW; exact (Below.refl _ _).alloc (Nat.le_refl _) _
                     have A20 := Aside0.mk (show At W20 b20 50 (icells x A0 c0) by subst hW hb; exact At.new _ _ _)
                     have S20 := Aside0.mk (S4.out.step hB)
                     have I20 := Aside0.mk (HI4.out.below hB)
                     have B20 := Aside0.mk hB
                     clear hb hW hB)
                  | (have G := S20.out
                     obtain ⟨As, hAs, hown, hinfo⟩ := I20.out.row
                     have hpl := PL.out
                     refine arm_appendR rfl _ _ 22 50 rfl _ 3 48 tu22 info50c rfl (by decide) v12 (pick (its.take k) bs).length (icellsL (pick (its.take k) bs) As) (icells x A0 c0) rfl hown ⟨b20, 0, none⟩ 1 1 rfl rfl (fun i u hu => by rw [Addr.add_mid, A20.out.cell, Nat.zero_add]; exact hu) (one_icells _ _ _) (by show ((pick (its.take k) bs).length + 1) * 48 ≤ _; omega) (by show (pick (its.take k) bs).length + 1 ≤ _; omega) ?_
                     intro v21 W21 hV hO hq
                     have sb := S4.out.below.size
                     have sb2 := HB4.out.size
                     have s2 := S3.out.below.size
                     have s3 := S3.out.kept.lt
                     have s4 := B20.out.size
                     have hih := S4.out.hi_
                     have vl : ∀ b, v12.ownBlock = some b → wo2.heap.size ≤ b := HF4.out
                     have S21 := Aside0.mk (G.write hO (fun b hb => ⟨by have := HF4.out b hb; omega, fun e => by have := HF4.out b hb; omega⟩))
                     have B21 := Aside0.mk ((HB4.out.trans (B20.out.mono HB4.out.size)).trans (hO.to_below (by omega) (fun b hb => HF4.out b hb)))
                     have F21 := Aside0.mk (show ∀ b, v21.ownBlock = some b → wo2.heap.size ≤ b from fun b hb => by
                       rcases hq with hq | hq
                       · rw [hq] at hb; exact HF4.out b hb
                       · rw [hq] at hb; injection hb with hb; omega)
                     have I21 := Aside0.mk (I20.out.snoc hAs hown hinfo hV RC.out hO (by rcases hq with hq | hq; exact Or.inl hq; exact Or.inr ⟨_, hq, Nat.le_refl _, trivial⟩) (fun hne => by
                       obtain ⟨ad, q1, q2, q3⟩ := U0.out hne
                       exact ⟨ad, q1, trivial, by omega, fun e => by have := vl _ e; omega, fun k hk => by rw [B20.out.cell (by rw [add_block]; omega)]; exact q3 k hk⟩))
                     clear hAs hown hinfo hV hO hq hpl G sb sb2 s2 s3 s4 hih vl)
                  | fail)
                go_roundg (n - (k + 1))
                case measure => have := HJ.out; omega
                case rel => exact ⟨k + 1, _, ⟨by have := HJ.out; omega⟩, by go_num, rfl, ⟨by rw [PN.out]; simpa using I21.out⟩, F21, B21, S21⟩
            · obtain rfl : n = k := by have := HJ.out; omega
              have I5 := Aside0.mk (show ItRow wr (fun _ => True) v12 (cutM keep its) by
                have e := HI4.out
                rw [List.take_of_length_le (by have := NN.out; omega), KSE.out] at e
                exact e)
              clear HI4 HJ hlt
              obtain ⟨wr4, rfl⟩ : ∃ wo : World, wo = wr := ⟨_, rfl⟩
              go_wp2_with fail
              go_loopg [15, 14] m (fun g5 s15 s14 wr => ∃ (j : Nat) (v14 : Value), Aside0 (j + g5 = m) ∧ s15 = .int .i64 j ∧ v14 = s14 ∧ Aside0 (Own wr 9 v14 ((missM (keep.take j) its).map Value.string)) ∧ Aside0 (∀ b, v14.ownBlock = some b → wr4.heap.size ≤ b) ∧ Aside0 (Below wr4.heap.size wr4 wr) ∧ Aside0 (CutSt w wr hi A B its keep bk bs))
              case atStart => exact ⟨0, _, ⟨by omega⟩, rfl, rfl, ⟨by rw [List.take_zero]; exact Own.nil _ _⟩, ⟨fun b hb => by simp [Value.ownBlock] at hb⟩, ⟨Below.refl _ _⟩, S4⟩
              case round =>
                obtain ⟨j, v14, HJ5, rfl, rfl, HO5, HF5, HB5, S5⟩ := hrel
                by_cases hlt : j < m
                · obtain ⟨p, hp⟩ : ∃ p, keep[j]? = some p := ⟨_, List.getElem?_eq_getElem (by have := MM.out; omega)⟩
                  have MN := Aside0.mk (miss_snoc its hp)
                  have PZ := Aside0.mk (show p.size ≤ 1048575 by have := KP.out p (List.mem_of_getElem? hp); omega)
                  obtain ⟨g1, o1, hB1, hg1, hk1⟩ := S5.out.keeps (by intro h; rw [h] at hp; simp at hp)
                  subst hB1
                  have HPJ := Aside0.mk hp
                  have kp : wr.cell? ⟨g1, o1 + j, none⟩ = some (.string p) := hk1 j p hp
                  have ML := Aside0.mk (show (missM (keep.take j) its).length ≤ 64 by have h1 := List.length_filter_le (fun p => (findM p its).isNone && !p.toList.isEmpty) (keep.take j); have h2 : (keep.take j).length ≤ j := List.length_take_le _ _; unfold missM; omega)
                  clear hp hk1 hg1
                  rcases he : p.toList.isEmpty with _ | _
                  · rcases hf : findM p its with _ | q
                    · have HM := Aside0.mk (show missM (keep.take (j + 1)) its = missM (keep.take j) its ++ [p] by rw [MN.out, if_pos (by rw [hf, he]; rfl)])
                      have FF := Aside0.mk (show findFrom p its 0 = -1 by unfold findFrom; rw [hf])
                      clear hf
                      go_wp2_with (first
                        | (go_at_call 92
                           have hk := refFind_calls wr hi A c its p S5.out.items (Nat.le_trans S5.out.hi_ S5.out.below.size) (by have := NN.out; omega) (tree_rising HT.out) (fun y hy => by have := TP.out y hy; omega) PZ.out
                           rw [← NN.out, FF.out] at hk
                           refine hk.mono ?_
                           rintro e w6 ⟨rfl, hB⟩
                           have S6 := Aside0.mk (S5.out.step hB)
                           have B6 := Aside0.mk (HB5.out.trans (hB.mono HB5.out.size))
                           have O6 := Aside0.mk (HO5.out.below hB (fun b hb => HO5.out.lt hb))
                           have kp : w6.cell? ⟨g1, o1 + j, none⟩ = some (.string p) := rdS_cell S6.out.keeps HPJ.out
                           clear hB hk)
                        | (refine arm_slice1 rfl 66 9 _ rfl (.string ⟨#[]⟩) 1 [.string p] (.string p) rfl rfl Tryz.underlying66 info9s (by decide) (by decide) rfl ?_
                           intro W9 b9 hb hW
                           have hB : Below w6.heap.size w6 W9 := by subst hW; exact (Below.refl _ _).alloc (Nat.le_refl _) _
                           have A9 := Aside0.mk (show At W9 b9 9 [.string p] by subst hW hb; exact At.new _ _ _)
                           have S9 := Aside0.mk (S6.out.step hB)
                           have B9 := Aside0.mk (B6.out.trans (hB.mono B6.out.size))
                           have O9 := Aside0.mk (O6.out.below hB (fun b hb => O6.out.lt hb))
                           clear hb hW hB)
                        | (have G := S9.out
                           have ml := ML.out
                           refine arm_append rfl _ _ 66 9 rfl (.string ⟨#[]⟩) 16 Tryz.underlying66 info9 rfl v14 _ [.string p] rfl O9.out ⟨b9, 0, none⟩ 1 1 rfl rfl (fun i u hu => by rw [Addr.add_mid, A9.out.cell, Nat.zero_add]; exact hu) (by intro u hu; simp at hu; subst hu; rfl) (by rw [List.length_map]; show ((missM (keep.take j) its).length + 1) * 16 ≤ _; omega) (by rw [List.length_map]; show (missM (keep.take j) its).length + 1 ≤ _; omega) ?_
                           intro v10 W10 hV hO hq
                           have l5 := HB5.out.size
                           have l9 := B9.out.size
                           have sw : w.heap.size ≤ wr4.heap.size := S4.out.below.size
                           have S10 := Aside0.mk (G.write hO (fun b hb => ⟨Nat.le_trans sw (HF5.out b hb), fun e => by have := HF5.out b hb; have := S4.out.kept.lt; omega⟩))
                           have B10 := Aside0.mk (B9.out.trans (hO.to_below B9.out.size (fun b hb => HF5.out b hb)))
                           have O10 := Aside0.mk hV
                           have F10 := Aside0.mk (show ∀ b, v10.ownBlock = some b → wr4.heap.size ≤ b from fun b hb => by
                             rcases hq with hq | hq
                             · rw [hq] at hb; exact HF5.out b hb
                             · rw [hq] at hb; injection hb with hb; omega)
                           clear hV hO hq l5 l9 sw ml G)
                        | fail)
                      go_roundg (m - (j + 1))
                      case measure => have := HJ5.out; omega
                      case rel => exact ⟨j + 1, _, ⟨by have := HJ5.out; omega⟩, by go_num, rfl, ⟨by rw [HM.out, List.map_append]; exact O10.out⟩, F10, B10, S10⟩
                    · have HM := Aside0.mk (show missM (keep.take (j + 1)) its = missM (keep.take j) its by rw [MN.out, if_neg (by rw [hf]; simp), List.append_nil])
                      have FF := Aside0.mk (show findFrom p its 0 = (q : Int) by unfold findFrom; rw [hf]; show ((0 + q : Nat) : Int) = _; omega)
                      have tq : decide ((q : Int) < 0) = false := decide_eq_false (by omega)
                      clear hf
                      go_wp2_with (first
                        | (go_at_call 92
                           have hk := refFind_calls wr hi A c its p S5.out.items (Nat.le_trans S5.out.hi_ S5.out.below.size) (by have := NN.out; omega) (tree_rising HT.out) (fun y hy => by have := TP.out y hy; omega) PZ.out
                           rw [← NN.out, FF.out] at hk
                           refine hk.mono ?_
                           rintro e w6 ⟨rfl, hB⟩
                           have S6 := Aside0.mk (S5.out.step hB)
                           have B6 := Aside0.mk (HB5.out.trans (hB.mono HB5.out.size))
                           have O6 := Aside0.mk (HO5.out.below hB (fun b hb => HO5.out.lt hb))
                           clear hB hk)
                        | fail)
                      go_roundg (m - (j + 1))
                      case measure => have := HJ5.out; omega
                      case rel => exact ⟨j + 1, _, ⟨by have := HJ5.out; omega⟩, by go_num, rfl, ⟨by rw [HM.out]; exact O6.out⟩, HF5, B6, S6⟩
                  · have HM := Aside0.mk (show missM (keep.take (j + 1)) its = missM (keep.take j) its by rw [MN.out, if_neg (by rw [he]; simp), List.append_nil])
                    go_wp2_with fail
                    go_roundg (m - (j + 1))
                    case measure => have := HJ5.out; omega
                    case rel => exact ⟨j + 1, _, ⟨by have := HJ5.out; omega⟩, by go_num, rfl, ⟨by rw [HM.out]; exact HO5.out⟩, HF5, HB5, S5⟩
                · obtain rfl : m = j := by have := HJ5.out; omega
                  have O5 := Aside0.mk (show Own wr 9 v14 ((missM keep its).map Value.string) by
                    have e := HO5.out
                    rw [List.take_of_length_le (by have := MM.out; omega)] at e
                    exact e)
                  clear HO5
                  go_wp2_with fail
                  go_ret3
                  refine ⟨v12, v14, rfl, (I5.out.mono (D' := fun b => v14.ownBlock ≠ some b) (fun b hb _ e => by have := HF5.out b e; omega)).below HB5.out, O5.out, S5.out.below⟩
end Go.Proofs.YtbpfmlckddhgbaaGreatDoor
