/- The law TreeTaken answers true for every list of items and every row of paths that hold together at most 1048576 values and letters, and leaves them as they were.
   Conditions: the program's listed tables hold what its text lays (the card ties them to it); what is read is of bulk at most 1048576. -/
import Derived.Test.YtbpfmlckddhgbaaGreatDoorPh
import Derived.Test.YtbpfmlckddhgbaaGreatDoorPk
import Derived.Test.YtbpfmlckddhgbaaGreatDoorPj
namespace Go.Proofs.YtbpfmlckddhgbaaGreatDoor
set_option linter.unusedVariables false
set_option linter.unusedSimpArgs false
open Go Go.RowKit Go.Maps Go.WideMaps Go.Proofs.YtbpfmlckddhgbaaGreatDoorW.PrintWords Go.Proofs.YtbpfmlckddhgbaaGreatDoorW.PrintLast

theorem sameL_refl : ∀ xs : List Itm, sameL xs xs = true
  | [] => rfl
  | x :: xs => by rw [sameL, sameL_refl xs, Bool.and_true]; unfold sameI; simp
theorem RdI.up {w : World} {hi hi' : Nat} {A : Option Addr} {its : List Itm} (h : RdI w hi A its) (hh : hi ≤ hi') : RdI w hi' A its := fun hne => by
  obtain ⟨g, o, h1, h2, h3⟩ := h hne
  refine ⟨g, o, h1, by omega, fun j x hx => ?_⟩
  obtain ⟨A', c', g1, g2, g3⟩ := h3 j x hx
  exact ⟨A', c', g1, g2, fun hd => by obtain ⟨ad, q1, q2, q3⟩ := g3 hd; exact ⟨ad, q1, by omega, q3⟩⟩
theorem Own.rdS {w : World} {v : Value} {ps : List ByteArray} (h : Own w 9 v (ps.map Value.string)) : ∃ A c, v = .slice A ps.length c ∧ RdS w w.heap.size A ps := by
  have h' := h
  obtain ⟨h1, ⟨hv, hn⟩ | ⟨g, cap, cur, hv, _, hcell, hc, _⟩⟩ := h
  · rw [List.length_map] at hn
    refine ⟨none, 0, by rw [hv, hn], fun hne => absurd (List.eq_nil_of_length_eq_zero hn) hne⟩
  · rw [List.length_map] at hv
    refine ⟨_, cap, hv, fun hne => ⟨g, 0, rfl, (Array.getElem?_eq_some_iff.1 hcell).1, fun j p hp => ?_⟩⟩
    have e := World.ownsRow.cells h' (g := g) (by rw [hv]; rfl) j (.string p) (by rw [List.getElem?_map, hp]; rfl)
    rw [Addr.add_mid] at e
    exact e
/-- What the law's loops keep. -/
structure TSt (w wr : World) (h2 : Nat) (A B Am Ai : Option Addr) (its ms : List Itm) (keep mi : List ByteArray) : Prop where
  items : RdI wr w.heap.size A its
  keeps : RdS wr w.heap.size B keep
  ms_ : RdI wr h2 Am ms
  mi_ : RdS wr h2 Ai mi
  below : Below w.heap.size w wr
  h2_ : h2 ≤ wr.heap.size
theorem TSt.step {w wr w1 : World} {h2 : Nat} {A B Am Ai : Option Addr} {its ms : List Itm} {keep mi : List ByteArray} (h : TSt w wr h2 A B Am Ai its ms keep mi) (hb : Below wr.heap.size wr w1) : TSt w w1 h2 A B Am Ai its ms keep mi :=
  ⟨h.items.only (Only.of_below (S := fun _ => False) hb) h.below.size (fun _ h => h.elim), h.keeps.below hb h.below.size, h.ms_.only (Only.of_below (S := fun _ => False) hb) h.h2_ (fun _ h => h.elim), h.mi_.below hb h.h2_, h.below.trans (hb.mono h.below.size), Nat.le_trans h.h2_ hb.size⟩
def anyEq (p : ByteArray) (l : List ByteArray) : Bool := l.any (fun q => q.toList == p.toList)
theorem anyEq_miss {keep : List ByteArray} (its : List Itm) {p : ByteArray} (hp : p ∈ keep) : anyEq p (missM keep its) = ((findM p its).isNone && !p.toList.isEmpty) := by
  rw [Bool.eq_iff_iff]
  unfold anyEq missM
  rw [List.any_eq_true]
  constructor
  · rintro ⟨q, h1, h2⟩
    have e := beq_path.1 h2
    subst e
    exact (List.mem_filter.1 h1).2
  · intro h
    exact ⟨p, List.mem_filter.2 ⟨hp, h⟩, beq_self_eq_true _⟩
theorem anyEq_take {p q : ByteArray} {l : List ByteArray} {k : Nat} (h : l[k]? = some q) : anyEq p (l.take (k + 1)) = (anyEq p (l.take k) || (q.toList == p.toList)) := by
  unfold anyEq
  rw [List.take_add_one, h, List.any_append]
  simp
set_option maxRecDepth 100000 in
set_option maxHeartbeats 1000000 in
theorem taken_many (w : World) (A B : Option Addr) (c c' : Nat) (its : List Itm) (keep : List ByteArray) (hI : RdI w w.heap.size A its) (hS : RdS w w.heap.size B keep) (hG : Glob w) (hlen : its.length ≤ 1099511627776) (hdl : ∀ x ∈ its, x.data.length ≤ 1099511627776) (hkl : keep.length ≤ 1099511627776) (hF : fewM its = false) :
    Calls Tryz.prog 7 #[.slice A its.length c, .slice B keep.length c'] w fun e w' => e = .returned (.bool true) ∧ Below w.heap.size w w' := by
  have HI := Aside0.mk hI
  have HS := Aside0.mk hS
  have HG := Aside0.mk hG
  have DL := Aside0.mk hdl
  have FW := Aside0.mk hF
  clear hI hS hG hdl hF
  go_enter Tryz.func7, Tryz.ntmps7
  go_wp2_with (first
    | (go_at_call 16
       refine (known_calls w HG.out).mono ?_
       rintro e w1 ⟨rfl, hB⟩
       have B1 := Aside0.mk hB
       have I1 := Aside0.mk (HI.out.only (Only.of_below (S := fun _ => False) hB) (Nat.le_refl _) (fun _ h => h.elim))
       have S1 := Aside0.mk (HS.out.below hB (Nat.le_refl _))
       have G1 := Aside0.mk (HG.out.below hB)
       clear hB)
    | (go_at_call 17
       have hcall := few_calls w1 w.heap.size A c its I1.out DL.out hlen
       rw [FW.out] at hcall
       refine hcall.mono ?_
       rintro e wx ⟨rfl, hw⟩
       rw [hw]
       clear hw hcall)
    | fail)
  go_ret
  exact ⟨rfl, B1.out⟩
set_option maxRecDepth 100000 in
set_option maxHeartbeats 1000000 in
theorem taken_bad (w : World) (A B : Option Addr) (c c' : Nat) (its : List Itm) (keep : List ByteArray) (hI : RdI w w.heap.size A its) (hS : RdS w w.heap.size B keep) (hG : Glob w) (hlen : its.length ≤ 1099511627776) (hdl : ∀ x ∈ its, x.data.length ≤ 1099511627776) (hkl : keep.length ≤ 1099511627776) (hF : fewM its = true) (hT : isTreeM its = false) :
    Calls Tryz.prog 7 #[.slice A its.length c, .slice B keep.length c'] w fun e w' => e = .returned (.bool true) ∧ Below w.heap.size w w' := by
  have HI := Aside0.mk hI
  have HS := Aside0.mk hS
  have HG := Aside0.mk hG
  have DL := Aside0.mk hdl
  have FW := Aside0.mk hF
  have TT := Aside0.mk hT
  clear hI hS hG hdl hF hT
  go_enter Tryz.func7, Tryz.ntmps7
  go_wp2_with (first
    | (go_at_call 16
       refine (known_calls w HG.out).mono ?_
       rintro e w1 ⟨rfl, hB⟩
       have B1 := Aside0.mk hB
       have I1 := Aside0.mk (HI.out.only (Only.of_below (S := fun _ => False) hB) (Nat.le_refl _) (fun _ h => h.elim))
       have S1 := Aside0.mk (HS.out.below hB (Nat.le_refl _))
       have G1 := Aside0.mk (HG.out.below hB)
       clear hB)
    | (go_at_call 17
       have hcall := few_calls w1 w.heap.size A c its I1.out DL.out hlen
       rw [FW.out] at hcall
       refine hcall.mono ?_
       rintro e wx ⟨rfl, hw⟩
       rw [hw]
       clear hw hcall)
    | (go_at_call 35
       refine (cut_bad w1 w.heap.size A B c c' its keep I1.out B1.out.size G1.out DL.out hlen TT.out).mono ?_
       rintro e w2 ⟨rfl, hB⟩
       have B2 := Aside0.mk (B1.out.trans (hB.mono B1.out.size))
       have I2 := Aside0.mk (I1.out.only (Only.of_below (S := fun _ => False) hB) B1.out.size (fun _ h => h.elim))
       have G2 := Aside0.mk (G1.out.below hB)
       clear hB)
    | (go_at_call 33
       have hcall := check_calls w2 w.heap.size A c its I2.out B2.out.size G2.out DL.out hlen
       rw [TT.out, if_neg (by decide)] at hcall
       refine hcall.mono ?_
       rintro e w3 ⟨rfl, hB⟩
       have B3 := Aside0.mk (B2.out.trans (hB.mono B2.out.size))
       clear hB hcall)
    | fail)
  go_ret
  exact ⟨rfl, B3.out⟩
set_option maxRecDepth 100000 in
set_option maxHeartbeats 1000000 in
theorem taken_bad2 (w : World) (A B : Option Addr) (c c' : Nat) (its : List Itm) (keep : List ByteArray) (hI : RdI w w.heap.size A its) (hS : RdS w w.heap.size B keep) (hG : Glob w) (hlen : its.length ≤ 1099511627776) (hdl : ∀ x ∈ its, x.data.length ≤ 1099511627776) (hkl : keep.length ≤ 1099511627776) (hF : fewM its = true) (hT : isTreeM its = true) (hK : isKeepM keep = false) :
    Calls Tryz.prog 7 #[.slice A its.length c, .slice B keep.length c'] w fun e w' => e = .returned (.bool true) ∧ Below w.heap.size w w' := by
  have HI := Aside0.mk hI
  have HS := Aside0.mk hS
  have HG := Aside0.mk hG
  have DL := Aside0.mk hdl
  have FW := Aside0.mk hF
  have TT := Aside0.mk hT
  have KK := Aside0.mk hK
  clear hI hS hG hdl hF hT hK
  go_enter Tryz.func7, Tryz.ntmps7
  go_wp2_with (first
    | (go_at_call 16
       refine (known_calls w HG.out).mono ?_
       rintro e w1 ⟨rfl, hB⟩
       have B1 := Aside0.mk hB
       have I1 := Aside0.mk (HI.out.only (Only.of_below (S := fun _ => False) hB) (Nat.le_refl _) (fun _ h => h.elim))
       have S1 := Aside0.mk (HS.out.below hB (Nat.le_refl _))
       have G1 := Aside0.mk (HG.out.below hB)
       clear hB)
    | (go_at_call 17
       have hcall := few_calls w1 w.heap.size A c its I1.out DL.out hlen
       rw [FW.out] at hcall
       refine hcall.mono ?_
       rintro e wx ⟨rfl, hw⟩
       rw [hw]
       clear hw hcall)
    | (go_at_call 35
       refine (cut_bad2 w1 w.heap.size A B c c' its keep I1.out S1.out B1.out.size G1.out TT.out KK.out hkl).mono ?_
       rintro e w2 ⟨rfl, hB⟩
       have B2 := Aside0.mk (B1.out.trans (hB.mono B1.out.size))
       have I2 := Aside0.mk (I1.out.only (Only.of_below (S := fun _ => False) hB) B1.out.size (fun _ h => h.elim))
       have S2 := Aside0.mk (S1.out.below hB B1.out.size)
       have G2 := Aside0.mk (G1.out.below hB)
       clear hB)
    | (go_at_call 33
       have hcall := check_calls w2 w.heap.size A c its I2.out B2.out.size G2.out DL.out hlen
       rw [TT.out, if_pos rfl] at hcall
       refine hcall.mono ?_
       rintro e w3 ⟨rfl, hB⟩
       have B3 := Aside0.mk (B2.out.trans (hB.mono B2.out.size))
       have S3 := Aside0.mk (S2.out.below hB B2.out.size)
       have G3 := Aside0.mk (G2.out.below hB)
       clear hB hcall)
    | (go_at_call 39
       have hcall := checkKeep_calls w3 w.heap.size B c' keep S3.out B3.out.size G3.out hkl
       rw [KK.out, if_neg (by decide)] at hcall
       refine hcall.mono ?_
       rintro e w4 ⟨rfl, hB⟩
       have B4 := Aside0.mk (B3.out.trans (hB.mono B3.out.size))
       clear hB hcall)
    | fail)
  go_ret
  exact ⟨rfl, B4.out⟩
set_option maxRecDepth 100000 in
set_option maxHeartbeats 8000000 in
theorem taken_good (w : World) (A B : Option Addr) (c c' : Nat) (its : List Itm) (keep : List ByteArray) (hI : RdI w w.heap.size A its) (hS : RdS w w.heap.size B keep) (hG : Glob w) (hlen : its.length ≤ 1099511627776) (hdl : ∀ x ∈ its, x.data.length ≤ 1099511627776) (hkl : keep.length ≤ 1099511627776) (hF : fewM its = true) (hT : isTreeM its = true) (hK : isKeepM keep = true) :
    Calls Tryz.prog 7 #[.slice A its.length c, .slice B keep.length c'] w fun e w' => e = .returned (.bool true) ∧ Below w.heap.size w w' := by
  have HI := Aside0.mk hI
  have HS := Aside0.mk hS
  have HG := Aside0.mk hG
  have DL := Aside0.mk hdl
  have FW := Aside0.mk hF
  have TT := Aside0.mk hT
  have KK := Aside0.mk hK
  have ht := tree_paths hT
  have hk := keep_paths hK
  obtain ⟨ms, hms⟩ : ∃ ms, ms = cutM keep its := ⟨_, rfl⟩
  obtain ⟨mi, hmi⟩ : ∃ mi, mi = missM keep its := ⟨_, rfl⟩
  have hmT : isTreeM ms = true := by rw [hms]; exact cut_tree keep hT
  have CE := Aside0.mk (show cutM keep its = ms ∧ missM keep its = mi ∧ cutM keep ms = ms ∧ missM keep ms = mi from ⟨hms.symm, hmi.symm, by rw [hms, cut_again], by rw [hms, miss_same, hmi]⟩)
  have MT := Aside0.mk hmT
  have hmt := tree_paths hmT
  have hml := hmt.1
  have htl := ht.1
  have hkl2 := hk.1
  have TP := Aside0.mk ht.2
  have MP := Aside0.mk hmt.2
  have FI := Aside0.mk (show ∀ x ∈ ms, ∃ j, findM x.path its = some j ∧ its[j]? = some x from fun x hx => by rw [hms] at hx; exact found_item (tree_rising hT) (pick_mem _ _ _ hx))
  have FS := Aside0.mk (show ∀ p ∈ keep, (findM p ms).isSome = (findM p its).isSome from fun p hp => by rw [hms]; exact found_same keep its hp)
  have AE := Aside0.mk (show ∀ p ∈ keep, anyEq p mi = ((findM p its).isNone && !p.toList.isEmpty) from fun p hp => by rw [hmi]; exact anyEq_miss its hp)
  have KZ := Aside0.mk (show keep = [] → ms = [] from fun e => by rw [hms, e]; exact kept_none its)
  have MIL := Aside0.mk (show mi.length ≤ 64 by rw [hmi]; unfold missM; exact Nat.le_trans (List.length_filter_le _ _) hk.1)
  clear hI hS hG hdl hF hT hK hms hmi hmT ht hk hmt
  go_enter Tryz.func7, Tryz.ntmps7
  go_wp2_with (first
    | (go_at_call 16
       refine (known_calls w HG.out).mono ?_
       rintro e w1 ⟨rfl, hB⟩
       have B1 := Aside0.mk hB
       have I1 := Aside0.mk (HI.out.only (Only.of_below (S := fun _ => False) hB) (Nat.le_refl _) (fun _ h => h.elim))
       have S1 := Aside0.mk (HS.out.below hB (Nat.le_refl _))
       have G1 := Aside0.mk (HG.out.below hB)
       clear hB)
    | (go_at_call 17
       have hcall := few_calls w1 w.heap.size A c its I1.out DL.out hlen
       rw [FW.out] at hcall
       refine hcall.mono ?_
       rintro e wx ⟨rfl, hw⟩
       rw [hw]
       clear hw hcall)
    | (have M := MK2.out
       go_at_call 35
       have hcall := cut_ok w2 w2.heap.size Am B cm c' ms keep MS2.out (S2.out.lt B2.out.size) (Nat.le_refl _) G2.out MT.out KK.out
       rw [CE.out.2.2.1, CE.out.2.2.2] at hcall
       refine hcall.mono ?_
       rintro e w3 ⟨v3, v4, rfl, hr, ho, _, hB⟩
       obtain ⟨As3, _, hs3, _⟩ := hr.row
       obtain ⟨A3, c3, hv3, _⟩ := hs3.shape
       subst hv3
       obtain ⟨A4, c4, hv4, hr4⟩ := ho.rdS
       subst hv4
       have T3 := Aside0.mk (T2.out.step hB)
       have G3 := Aside0.mk (G2.out.below hB)
       have MS3 := Aside0.mk hr.rdI.1
       have MI3 := Aside0.mk hr4
       have M3 := Aside0.mk True.intro
       clear hcall hr ho hB hs3 hr4)
    | (go_at_call 35
       have hcall := cut_ok w1 w.heap.size A B c c' its keep I1.out S1.out B1.out.size G1.out TT.out KK.out
       rw [CE.out.1, CE.out.2.1] at hcall
       refine hcall.mono ?_
       rintro e w2 ⟨v1, v2, rfl, hr, ho, _, hB⟩
       obtain ⟨As1, _, hs1, _⟩ := hr.row
       obtain ⟨Am, cm, hv1, _⟩ := hs1.shape
       subst hv1
       obtain ⟨Ai, ci, hv2, hr2⟩ := ho.rdS
       subst hv2
       have B2 := Aside0.mk (B1.out.trans (hB.mono B1.out.size))
       have I2 := Aside0.mk (I1.out.only (Only.of_below (S := fun _ => False) hB) B1.out.size (fun _ h => h.elim))
       have S2 := Aside0.mk (S1.out.below hB B1.out.size)
       have G2 := Aside0.mk (G1.out.below hB)
       have MS2 := Aside0.mk hr.rdI.1
       have T2 := Aside0.mk (show TSt w w2 w2.heap.size A B Am Ai its ms keep mi from ⟨I2.out, S2.out, MS2.out, hr2, B2.out, Nat.le_refl _⟩)
       have MK2 := Aside0.mk True.intro
       clear hcall hr ho hB hs1 hr2)
    | (go_at_call 26
       have hcall := same_items_calls w3 w3.heap.size A3 Am c3 cm ms ms MS3.out (T3.out.ms_.up T3.out.h2_) (Nat.le_refl _) ⟨by omega, by omega⟩
       rw [sameL_refl] at hcall
       refine hcall.mono ?_
       rintro e w4 ⟨rfl, hB⟩
       have T4 := Aside0.mk (T3.out.step hB)
       have G4 := Aside0.mk (G3.out.below hB)
       have MI4 := Aside0.mk (MI3.out.below hB (Nat.le_refl _))
       have L34 := Aside0.mk hB.size
       clear hcall hB)
    | (go_at_call 37
       have ml := MIL.out
       have hcall := sameT_calls w4 w4.heap.size A4 Ai c4 ci mi mi (MI4.out.lt L34.out) (T4.out.mi_.lt T4.out.h2_) (Nat.le_refl _) ⟨by omega, by omega⟩
       rw [sameT_refl] at hcall
       refine hcall.mono ?_
       rintro e w5 ⟨rfl, hB⟩
       have T5 := Aside0.mk (T4.out.step hB)
       have G5 := Aside0.mk (G4.out.below hB)
       clear hcall hB ml)
    | (have M := M3.out
       go_at_call 33
       have hcall := check_calls w5 w2.heap.size Am cm ms T5.out.ms_ T5.out.h2_ G5.out (fun x hx => by have := (MP.out x hx).2.1; omega) (by omega)
       rw [MT.out, if_pos rfl] at hcall
       refine hcall.mono ?_
       rintro e w6 ⟨rfl, hB⟩
       have T6 := Aside0.mk (T5.out.step hB)
       clear hcall hB)
    | fail)
  go_loopg [11] ms.length (fun g s11 wr => ∃ k : Nat, Aside0 (k + g = ms.length) ∧ s11 = .int .i64 k ∧ Aside0 (TSt w wr w2.heap.size A B Am Ai its ms keep mi))
  case atStart => exact ⟨0, ⟨by omega⟩, rfl, T6⟩
  case round =>
    obtain ⟨k, HJ, rfl, T7⟩ := hrel
    by_cases hlt : k < ms.length
    · obtain ⟨x, hx⟩ : ∃ x, ms[k]? = some x := ⟨_, List.getElem?_eq_getElem hlt⟩
      obtain ⟨j, hj1, hj2⟩ := FI.out x (List.mem_of_getElem? hx)
      have FJ := Aside0.mk (And.intro hj1 hj2)
      obtain ⟨g0, o0, hA, hg0, hits⟩ := T7.out.ms_ (by intro h; rw [h] at hx; simp at hx)
      subst hA
      obtain ⟨A0, c0, r0, _, u0⟩ := hits k x hx
      have ka : wr.cell? ⟨g0, o0 + k * 3, none⟩ = some (.string x.path) := r0 0 _ rfl
      have MC := Aside0.mk (show g0 < wr.heap.size ∧ wr.cell? ⟨g0, o0 + k * 3 + 1, none⟩ = some (.bool x.dir) ∧ wr.cell? ⟨g0, o0 + k * 3 + 2, none⟩ = some (.slice A0 x.data.length c0) from ⟨by have := T7.out.h2_; omega, r0 1 _ rfl, r0 2 _ rfl⟩)
      have RD0 := Aside0.mk (show RdL wr A0 x.data from fun hne => by obtain ⟨ad, a1, a2, a3⟩ := u0 hne; exact ⟨ad, a1, by have := T7.out.h2_; omega, a3⟩)
      clear hx hj1 hj2 hg0 hits r0 u0
      rcases hdx : x.dir with _ | _
      · have DX := Aside0.mk hdx
        clear hdx
        go_wp2_with (first
          | (go_at_call 40
             have hcall := find_some wr w.heap.size A c its x.path j x T7.out.items T7.out.below.size (by omega) (fun x hx => by have := (TP.out x hx).2.1; omega) FJ.out.1 FJ.out.2
             refine hcall.mono ?_
             rintro e w8 ⟨A', c2, rfl, hr, hB⟩
             obtain ⟨va, hva⟩ : ∃ va, va = Value.agg (icells x A' c2).toArray := ⟨_, rfl⟩
             rw [← hva]
             have VA := Aside0.mk hva
             have R8 := Aside0.mk hr
             have B8 := Aside0.mk hB
             clear hB hcall hva hr)
          | (refine arm_alloc rfl 50 rfl _ _ info50 ?_; intro W9 b9 hb hW
             have G := VA.out
             have hB : Below w8.heap.size w8 W9 := by subst hW; exact (Below.refl _ _).alloc (Nat.le_refl _) _
             have N9 := Aside0.mk (show At W9 b9 50 (icells noItm none 0) by subst hW hb; exact At.new _ _ _)
             have B9 := Aside0.mk hB
             have L9 := Aside0.mk (show b9 = w8.heap.size from hb)
             clear hb hW hB G)
          | (refine arm_store_row rfl 50 _ _ rfl b9 50 _ (icells x A' c2) rfl VA.out N9.out rfl size50 (one_icells _ _ _) ?_
             intro W10 hW
             have hO : Only (· = b9) W9.heap.size W9 W10 := by subst hW; exact Only.setRow (S := (· = b9)) (Only.refl _ _ _) (.inl rfl) _
             have l9 := L9.out
             have l8 := B8.out.size
             have mc := MC.out
             have hB8 := B9.out.trans (hO.to_below B9.out.size (fun b hb => by have e : b = b9 := hb; omega))
             have hB := B8.out.trans (hB8.mono l8)
             have N10 := Aside0.mk (show At W10 b9 50 (icells x A' c2) by subst hW; exact N9.out.setRow _)
             have T10 := Aside0.mk (T7.out.step hB)
             have kd : W10.cell? ⟨b9, 1, none⟩ = some (.bool false) := by rw [N10.out.cell]; show some (Value.bool x.dir) = _; rw [DX.out]
             have ke : W10.cell? ⟨b9, 2, none⟩ = some (.slice A' x.data.length c2) := by rw [N10.out.cell]; rfl
             have kf : W10.cell? ⟨g0, o0 + k * 3 + 1, none⟩ = some (.bool false) := by rw [hB.cell (p := ⟨g0, o0 + k * 3 + 1, none⟩) (by show g0 < _; omega), ← DX.out]; exact mc.2.1
             have kg : W10.cell? ⟨g0, o0 + k * 3 + 2, none⟩ = some (.slice A0 x.data.length c0) := by rw [hB.cell (p := ⟨g0, o0 + k * 3 + 2, none⟩) (by show g0 < _; omega)]; exact mc.2.2
             have r1 : RdL W10 A' x.data := R8.out.below hB8
             have r2 : RdL W10 A0 x.data := RD0.out.below hB
             have hc1 : ∀ q, (convert 35 9 (.slice A' x.data.length c2)).run Tryz.prog (W10.drewN q) = .ok (.string ⟨x.data.toArray⟩) (W10.drewN q) := fun q => by rw [← str_of_bytes]; exact (RdL.below r1 (show Below W10.heap.size W10 (W10.drewN q) from ⟨rfl, rfl, rfl, Nat.le_refl _, fun _ _ => rfl⟩)).bytesIn.convert (by simp) c2 35 5 9 tu35 tu5 tu9
             have hc2 : ∀ q, (convert 35 9 (.slice A0 x.data.length c0)).run Tryz.prog (W10.drewN q) = .ok (.string ⟨x.data.toArray⟩) (W10.drewN q) := fun q => by rw [← str_of_bytes]; exact (RdL.below r2 (show Below W10.heap.size W10 (W10.drewN q) from ⟨rfl, rfl, rfl, Nat.le_refl _, fun _ _ => rfl⟩)).bytesIn.convert (by simp) c0 35 5 9 tu35 tu5 tu9
             clear hW hO l9 l8 mc hB8 hB r1 r2)
          | fail)
        go_quiet (fail)
        go_wp2_with fail
        go_roundg (ms.length - (k + 1))
        case measure => have := HJ.out; omega
        case rel => exact ⟨k + 1, ⟨by have := HJ.out; omega⟩, by go_num, ⟨T10.out.step ⟨rfl, rfl, rfl, Nat.le_refl _, fun _ _ => rfl⟩⟩⟩
      · have DX := Aside0.mk hdx
        clear hdx
        go_wp2_with (first
          | (go_at_call 40
             have hcall := find_some wr w.heap.size A c its x.path j x T7.out.items T7.out.below.size (by omega) (fun x hx => by have := (TP.out x hx).2.1; omega) FJ.out.1 FJ.out.2
             refine hcall.mono ?_
             rintro e w8 ⟨A', c2, rfl, hr, hB⟩
             obtain ⟨va, hva⟩ : ∃ va, va = Value.agg (icells x A' c2).toArray := ⟨_, rfl⟩
             rw [← hva]
             have VA := Aside0.mk hva
             have R8 := Aside0.mk hr
             have B8 := Aside0.mk hB
             clear hB hcall hva hr)
          | (refine arm_alloc rfl 50 rfl _ _ info50 ?_; intro W9 b9 hb hW
             have G := VA.out
             have hB : Below w8.heap.size w8 W9 := by subst hW; exact (Below.refl _ _).alloc (Nat.le_refl _) _
             have N9 := Aside0.mk (show At W9 b9 50 (icells noItm none 0) by subst hW hb; exact At.new _ _ _)
             have B9 := Aside0.mk hB
             have L9 := Aside0.mk (show b9 = w8.heap.size from hb)
             clear hb hW hB G)
          | (refine arm_store_row rfl 50 _ _ rfl b9 50 _ (icells x A' c2) rfl VA.out N9.out rfl size50 (one_icells _ _ _) ?_
             intro W10 hW
             have hO : Only (· = b9) W9.heap.size W9 W10 := by subst hW; exact Only.setRow (S := (· = b9)) (Only.refl _ _ _) (.inl rfl) _
             have l9 := L9.out
             have l8 := B8.out.size
             have mc := MC.out
             have hB8 := B9.out.trans (hO.to_below B9.out.size (fun b hb => by have e : b = b9 := hb; omega))
             have hB := B8.out.trans (hB8.mono l8)
             have N10 := Aside0.mk (show At W10 b9 50 (icells x A' c2) by subst hW; exact N9.out.setRow _)
             have T10 := Aside0.mk (T7.out.step hB)
             have kd : W10.cell? ⟨b9, 1, none⟩ = some (.bool true) := by rw [N10.out.cell]; show some (Value.bool x.dir) = _; rw [DX.out]
             have ke : W10.cell? ⟨b9, 2, none⟩ = some (.slice A' x.data.length c2) := by rw [N10.out.cell]; rfl
             have kf : W10.cell? ⟨g0, o0 + k * 3 + 1, none⟩ = some (.bool true) := by rw [hB.cell (p := ⟨g0, o0 + k * 3 + 1, none⟩) (by show g0 < _; omega), ← DX.out]; exact mc.2.1
             have kg : W10.cell? ⟨g0, o0 + k * 3 + 2, none⟩ = some (.slice A0 x.data.length c0) := by rw [hB.cell (p := ⟨g0, o0 + k * 3 + 2, none⟩) (by show g0 < _; omega)]; exact mc.2.2
             have r1 : RdL W10 A' x.data := R8.out.below hB8
             have r2 : RdL W10 A0 x.data := RD0.out.below hB
             have hc1 : ∀ q, (convert 35 9 (.slice A' x.data.length c2)).run Tryz.prog (W10.drewN q) = .ok (.string ⟨x.data.toArray⟩) (W10.drewN q) := fun q => by rw [← str_of_bytes]; exact (RdL.below r1 (show Below W10.heap.size W10 (W10.drewN q) from ⟨rfl, rfl, rfl, Nat.le_refl _, fun _ _ => rfl⟩)).bytesIn.convert (by simp) c2 35 5 9 tu35 tu5 tu9
             have hc2 : ∀ q, (convert 35 9 (.slice A0 x.data.length c0)).run Tryz.prog (W10.drewN q) = .ok (.string ⟨x.data.toArray⟩) (W10.drewN q) := fun q => by rw [← str_of_bytes]; exact (RdL.below r2 (show Below W10.heap.size W10 (W10.drewN q) from ⟨rfl, rfl, rfl, Nat.le_refl _, fun _ _ => rfl⟩)).bytesIn.convert (by simp) c0 35 5 9 tu35 tu5 tu9
             clear hW hO l9 l8 mc hB8 hB r1 r2)
          | fail)
        go_quiet (fail)
        go_wp2_with fail
        go_roundg (ms.length - (k + 1))
        case measure => have := HJ.out; omega
        case rel => exact ⟨k + 1, ⟨by have := HJ.out; omega⟩, by go_num, ⟨T10.out.step ⟨rfl, rfl, rfl, Nat.le_refl _, fun _ _ => rfl⟩⟩⟩
    · clear HJ
      go_wp2_with fail
      go_loopg [14] keep.length (fun g s14 wr => ∃ j : Nat, Aside0 (j + g = keep.length) ∧ s14 = .int .i64 j ∧ Aside0 (TSt w wr w2.heap.size A B Am Ai its ms keep mi))
      case atStart => exact ⟨0, ⟨by omega⟩, rfl, T7⟩
      case round =>
        obtain ⟨j, HJ, rfl, T8⟩ := hrel
        by_cases hlt2 : j < keep.length
        · obtain ⟨p, hp⟩ : ∃ p, keep[j]? = some p := ⟨_, List.getElem?_eq_getElem hlt2⟩
          have hfs := FS.out p (List.mem_of_getElem? hp)
          have hae := AE.out p (List.mem_of_getElem? hp)
          obtain ⟨g1, o1, hB1, hg1, hk1⟩ := T8.out.keeps (by intro h; rw [h] at hp; simp at hp)
          subst hB1
          have kp : wr.cell? ⟨g1, o1 + j, none⟩ = some (.string p) := hk1 j p hp
          have KPH := Aside0.mk (show ∀ W, TSt w W w2.heap.size A (some ⟨g1, o1, none⟩) Am Ai its ms keep mi → W.cell? ⟨g1, o1 + j, none⟩ = some (.string p) from fun W hT => by
            obtain ⟨g3, o3, e3, _, hh⟩ := hT.keeps (by intro h; rw [h] at hp; simp at hp)
            injection e3 with e3
            injection e3 with e1 e2 _
            subst e1 e2
            exact hh j p hp)
          clear hp hk1 hg1
          rcases hf : findM p its with _ | q
          · have FN := Aside0.mk hf
            rw [hf] at hfs hae
            have FM := Aside0.mk (show findM p ms = none by
              rcases hm : findM p ms with _ | q2
              · rfl
              · rw [hm] at hfs; cases hfs)
            rcases he : p.toList.isEmpty with _ | _
            · have GON := Aside0.mk (show anyEq p mi = true by rw [hae, he]; rfl)
              clear hf hfs hae
              go_wp2_with (first
                | (have M := MKF.out
                   go_at_call 40
                   obtain ⟨vb, hvb⟩ : ∃ vb, vb = Value.agg (icells noItm none 0).toArray := ⟨_, rfl⟩
                   have hcall := find_none W10 w2.heap.size Am cm ms p T10.out.ms_ T10.out.h2_ (by omega) FM.out
                   rw [← hvb] at hcall
                   refine hcall.mono ?_
                   rintro e w11 ⟨rfl, hB⟩
                   have VB := Aside0.mk hvb
                   have T11 := Aside0.mk (T10.out.step hB)
                   clear hB hcall hvb kp)
                | (have G := VB.out
                   refine arm_alloc rfl 50 rfl _ _ info50 ?_; intro W12 b12 hb hW
                   have hB : Below w11.heap.size w11 W12 := by subst hW; exact (Below.refl _ _).alloc (Nat.le_refl _) _
                   have Nb12 := Aside0.mk (show At W12 b12 50 (icells noItm none 0) by subst hW hb; exact At.new _ _ _)
                   have Lb12 := Aside0.mk (show b12 = w11.heap.size from hb)
                   have T12 := Aside0.mk (T11.out.step hB)
                   have Bb12 := Aside0.mk hB
                   clear hb hW hB G)
                | (have G := VB.out
                   refine arm_store_row rfl 50 _ _ rfl b12 50 _ (icells noItm none 0) rfl G Nb12.out rfl size50 (one_icells _ _ _) ?_
                   intro W13 hW
                   have hO : Only (· = b12) W12.heap.size W12 W13 := by subst hW; exact Only.setRow (S := (· = b12)) (Only.refl _ _ _) (.inl rfl) _
                   have l9 := Lb12.out
                   have T13 := Aside0.mk (T11.out.step (Bb12.out.trans (hO.to_below Bb12.out.size (fun b hb => by have e : b = b12 := hb; omega))))
                   have kp : W13.cell? ⟨g1, o1 + j, none⟩ = some (.string p) := KPH.out W13 T13.out
                   have MK13 := Aside0.mk True.intro
                   clear hW hO l9 G)
                | (go_at_call 40
                   obtain ⟨va, hva⟩ : ∃ va, va = Value.agg (icells noItm none 0).toArray := ⟨_, rfl⟩
                   have hcall := find_none wr w.heap.size A c its p T8.out.items T8.out.below.size (by omega) FN.out
                   rw [← hva] at hcall
                   refine hcall.mono ?_
                   rintro e w8 ⟨rfl, hB⟩
                   have VA := Aside0.mk hva
                   have T8b := Aside0.mk (T8.out.step hB)
                   clear hB hcall hva)
                | (have G := VA.out
                   refine arm_alloc rfl 50 rfl _ _ info50 ?_; intro W9 b9 hb hW
                   have hB : Below w8.heap.size w8 W9 := by subst hW; exact (Below.refl _ _).alloc (Nat.le_refl _) _
                   have Nb9 := Aside0.mk (show At W9 b9 50 (icells noItm none 0) by subst hW hb; exact At.new _ _ _)
                   have Lb9 := Aside0.mk (show b9 = w8.heap.size from hb)
                   have T9 := Aside0.mk (T8b.out.step hB)
                   have Bb9 := Aside0.mk hB
                   clear hb hW hB G)
                | (have G := VA.out
                   refine arm_store_row rfl 50 _ _ rfl b9 50 _ (icells noItm none 0) rfl G Nb9.out rfl size50 (one_icells _ _ _) ?_
                   intro W10 hW
                   have hO : Only (· = b9) W9.heap.size W9 W10 := by subst hW; exact Only.setRow (S := (· = b9)) (Only.refl _ _ _) (.inl rfl) _
                   have l9 := Lb9.out
                   have T10 := Aside0.mk (T8b.out.step (Bb9.out.trans (hO.to_below Bb9.out.size (fun b hb => by have e : b = b9 := hb; omega))))
                   have kp : W10.cell? ⟨g1, o1 + j, none⟩ = some (.string p) := KPH.out W10 T10.out
                   have MKF := Aside0.mk True.intro
                   clear hW hO l9 G)
                | fail)
              clear kp
              go_loopg [20, 19] mi.length (fun g s20 s19 wr => ∃ i : Nat, Aside0 (i + g = mi.length) ∧ s20 = .int .i64 i ∧ s19 = .bool (anyEq p (mi.take i)) ∧ Aside0 (TSt w wr w2.heap.size A (some ⟨g1, o1, none⟩) Am Ai its ms keep mi))
              case atStart => exact ⟨0, ⟨by omega⟩, rfl, by rw [List.take_zero]; rfl, T13⟩
              case round =>
                obtain ⟨i, HI3, rfl, rfl, T14⟩ := hrel
                have ml := MIL.out
                have kp : wr.cell? ⟨g1, o1 + j, none⟩ = some (.string p) := KPH.out wr T14.out
                by_cases hlt3 : i < mi.length
                · obtain ⟨z, hz⟩ : ∃ z, mi[i]? = some z := ⟨_, List.getElem?_eq_getElem hlt3⟩
                  obtain ⟨gi, oi, hAi, _, hki⟩ := T14.out.mi_ (by intro h; rw [h] at hz; simp at hz)
                  subst hAi
                  have kz : wr.cell? ⟨gi, oi + i, none⟩ = some (.string z) := hki i z hz
                  have AT := Aside0.mk (anyEq_take (p := p) hz)
                  clear hz hki
                  rcases ha : anyEq p (mi.take i) with _ | _
                  · rcases hq : (z.toList == p.toList) with _ | _
                    · go_wp2_with fail
                      go_quiet (fail)
                      go_wp2_with fail
                      go_roundg (mi.length - (i + 1))
                      case measure => have := HI3.out; omega
                      case rel => exact ⟨i + 1, ⟨by have := HI3.out; omega⟩, by go_num, by rw [AT.out, ha, hq]; rfl, ⟨T14.out.step ⟨rfl, rfl, rfl, Nat.le_refl _, fun _ _ => rfl⟩⟩⟩
                    · go_wp2_with fail
                      go_quiet (fail)
                      go_wp2_with fail
                      go_roundg (mi.length - (i + 1))
                      case measure => have := HI3.out; omega
                      case rel => exact ⟨i + 1, ⟨by have := HI3.out; omega⟩, by go_num, by rw [AT.out, ha, hq]; rfl, ⟨T14.out.step ⟨rfl, rfl, rfl, Nat.le_refl _, fun _ _ => rfl⟩⟩⟩
                  · go_wp2_with fail
                    go_quiet (fail)
                    go_wp2_with fail
                    go_roundg (mi.length - (i + 1))
                    case measure => have := HI3.out; omega
                    case rel => exact ⟨i + 1, ⟨by have := HI3.out; omega⟩, by go_num, by rw [AT.out, ha]; rfl, ⟨T14.out.step ⟨rfl, rfl, rfl, Nat.le_refl _, fun _ _ => rfl⟩⟩⟩
                · obtain rfl : i = mi.length := by have := HI3.out; omega
                  rw [List.take_length, GON.out]
                  go_wp2_with fail
                  go_roundg (keep.length - (j + 1))
                  case measure => have := HJ.out; omega
                  case rel => exact ⟨j + 1, ⟨by have := HJ.out; omega⟩, by go_num, T14⟩
            · have GON := Aside0.mk (show anyEq p mi = false by rw [hae, he]; rfl)
              clear hf hfs hae
              go_wp2_with (first
                | (have M := MKF.out
                   go_at_call 40
                   obtain ⟨vb, hvb⟩ : ∃ vb, vb = Value.agg (icells noItm none 0).toArray := ⟨_, rfl⟩
                   have hcall := find_none W10 w2.heap.size Am cm ms p T10.out.ms_ T10.out.h2_ (by omega) FM.out
                   rw [← hvb] at hcall
                   refine hcall.mono ?_
                   rintro e w11 ⟨rfl, hB⟩
                   have VB := Aside0.mk hvb
                   have T11 := Aside0.mk (T10.out.step hB)
                   clear hB hcall hvb kp)
                | (have G := VB.out
                   refine arm_alloc rfl 50 rfl _ _ info50 ?_; intro W12 b12 hb hW
                   have hB : Below w11.heap.size w11 W12 := by subst hW; exact (Below.refl _ _).alloc (Nat.le_refl _) _
                   have Nb12 := Aside0.mk (show At W12 b12 50 (icells noItm none 0) by subst hW hb; exact At.new _ _ _)
                   have Lb12 := Aside0.mk (show b12 = w11.heap.size from hb)
                   have T12 := Aside0.mk (T11.out.step hB)
                   have Bb12 := Aside0.mk hB
                   clear hb hW hB G)
                | (have G := VB.out
                   refine arm_store_row rfl 50 _ _ rfl b12 50 _ (icells noItm none 0) rfl G Nb12.out rfl size50 (one_icells _ _ _) ?_
                   intro W13 hW
                   have hO : Only (· = b12) W12.heap.size W12 W13 := by subst hW; exact Only.setRow (S := (· = b12)) (Only.refl _ _ _) (.inl rfl) _
                   have l9 := Lb12.out
                   have T13 := Aside0.mk (T11.out.step (Bb12.out.trans (hO.to_below Bb12.out.size (fun b hb => by have e : b = b12 := hb; omega))))
                   have kp : W13.cell? ⟨g1, o1 + j, none⟩ = some (.string p) := KPH.out W13 T13.out
                   have MK13 := Aside0.mk True.intro
                   clear hW hO l9 G)
                | (go_at_call 40
                   obtain ⟨va, hva⟩ : ∃ va, va = Value.agg (icells noItm none 0).toArray := ⟨_, rfl⟩
                   have hcall := find_none wr w.heap.size A c its p T8.out.items T8.out.below.size (by omega) FN.out
                   rw [← hva] at hcall
                   refine hcall.mono ?_
                   rintro e w8 ⟨rfl, hB⟩
                   have VA := Aside0.mk hva
                   have T8b := Aside0.mk (T8.out.step hB)
                   clear hB hcall hva)
                | (have G := VA.out
                   refine arm_alloc rfl 50 rfl _ _ info50 ?_; intro W9 b9 hb hW
                   have hB : Below w8.heap.size w8 W9 := by subst hW; exact (Below.refl _ _).alloc (Nat.le_refl _) _
                   have Nb9 := Aside0.mk (show At W9 b9 50 (icells noItm none 0) by subst hW hb; exact At.new _ _ _)
                   have Lb9 := Aside0.mk (show b9 = w8.heap.size from hb)
                   have T9 := Aside0.mk (T8b.out.step hB)
                   have Bb9 := Aside0.mk hB
                   clear hb hW hB G)
                | (have G := VA.out
                   refine arm_store_row rfl 50 _ _ rfl b9 50 _ (icells noItm none 0) rfl G Nb9.out rfl size50 (one_icells _ _ _) ?_
                   intro W10 hW
                   have hO : Only (· = b9) W9.heap.size W9 W10 := by subst hW; exact Only.setRow (S := (· = b9)) (Only.refl _ _ _) (.inl rfl) _
                   have l9 := Lb9.out
                   have T10 := Aside0.mk (T8b.out.step (Bb9.out.trans (hO.to_below Bb9.out.size (fun b hb => by have e : b = b9 := hb; omega))))
                   have kp : W10.cell? ⟨g1, o1 + j, none⟩ = some (.string p) := KPH.out W10 T10.out
                   have MKF := Aside0.mk True.intro
                   clear hW hO l9 G)
                | fail)
              clear kp
              go_loopg [20, 19] mi.length (fun g s20 s19 wr => ∃ i : Nat, Aside0 (i + g = mi.length) ∧ s20 = .int .i64 i ∧ s19 = .bool (anyEq p (mi.take i)) ∧ Aside0 (TSt w wr w2.heap.size A (some ⟨g1, o1, none⟩) Am Ai its ms keep mi))
              case atStart => exact ⟨0, ⟨by omega⟩, rfl, by rw [List.take_zero]; rfl, T13⟩
              case round =>
                obtain ⟨i, HI3, rfl, rfl, T14⟩ := hrel
                have ml := MIL.out
                have kp : wr.cell? ⟨g1, o1 + j, none⟩ = some (.string p) := KPH.out wr T14.out
                by_cases hlt3 : i < mi.length
                · obtain ⟨z, hz⟩ : ∃ z, mi[i]? = some z := ⟨_, List.getElem?_eq_getElem hlt3⟩
                  obtain ⟨gi, oi, hAi, _, hki⟩ := T14.out.mi_ (by intro h; rw [h] at hz; simp at hz)
                  subst hAi
                  have kz : wr.cell? ⟨gi, oi + i, none⟩ = some (.string z) := hki i z hz
                  have AT := Aside0.mk (anyEq_take (p := p) hz)
                  clear hz hki
                  rcases ha : anyEq p (mi.take i) with _ | _
                  · rcases hq : (z.toList == p.toList) with _ | _
                    · go_wp2_with fail
                      go_quiet (fail)
                      go_wp2_with fail
                      go_roundg (mi.length - (i + 1))
                      case measure => have := HI3.out; omega
                      case rel => exact ⟨i + 1, ⟨by have := HI3.out; omega⟩, by go_num, by rw [AT.out, ha, hq]; rfl, ⟨T14.out.step ⟨rfl, rfl, rfl, Nat.le_refl _, fun _ _ => rfl⟩⟩⟩
                    · go_wp2_with fail
                      go_quiet (fail)
                      go_wp2_with fail
                      go_roundg (mi.length - (i + 1))
                      case measure => have := HI3.out; omega
                      case rel => exact ⟨i + 1, ⟨by have := HI3.out; omega⟩, by go_num, by rw [AT.out, ha, hq]; rfl, ⟨T14.out.step ⟨rfl, rfl, rfl, Nat.le_refl _, fun _ _ => rfl⟩⟩⟩
                  · go_wp2_with fail
                    go_quiet (fail)
                    go_wp2_with fail
                    go_roundg (mi.length - (i + 1))
                    case measure => have := HI3.out; omega
                    case rel => exact ⟨i + 1, ⟨by have := HI3.out; omega⟩, by go_num, by rw [AT.out, ha]; rfl, ⟨T14.out.step ⟨rfl, rfl, rfl, Nat.le_refl _, fun _ _ => rfl⟩⟩⟩
                · obtain rfl : i = mi.length := by have := HI3.out; omega
                  rw [List.take_length, GON.out]
                  go_wp2_with fail
                  go_roundg (keep.length - (j + 1))
                  case measure => have := HJ.out; omega
                  case rel => exact ⟨j + 1, ⟨by have := HJ.out; omega⟩, by go_num, T14⟩
          · have FN := Aside0.mk hf
            rw [hf] at hfs hae
            obtain ⟨y, hy, _⟩ := findM_some hf
            have YX := Aside0.mk hy
            obtain ⟨q2, hq2⟩ := Option.isSome_iff_exists.1 hfs
            have FM := Aside0.mk hq2
            obtain ⟨y2, hy2, _⟩ := findM_some hq2
            have YM := Aside0.mk hy2
            have GON := Aside0.mk (show anyEq p mi = false by rw [hae]; rfl)
            clear hf hfs hae hy hq2 hy2
            go_wp2_with (first
              | (have M := MKF.out
                 go_at_call 40
                 have hcall := find_some W10 w2.heap.size Am cm ms p q2 y2 T10.out.ms_ T10.out.h2_ (by omega) (fun x hx => by have := (MP.out x hx).2.1; omega) FM.out YM.out
                 refine hcall.mono ?_
                 rintro e w11 ⟨A2, c3b, rfl, _, hB⟩
                 obtain ⟨vb, hvb⟩ : ∃ vb, vb = Value.agg (icells y2 A2 c3b).toArray := ⟨_, rfl⟩
                 rw [← hvb]
                 have VB := Aside0.mk hvb
                 have T11 := Aside0.mk (T10.out.step hB)
                 clear hB hcall hvb kp)
              | (have G := VB.out
                 refine arm_alloc rfl 50 rfl _ _ info50 ?_; intro W12 b12 hb hW
                 have hB : Below w11.heap.size w11 W12 := by subst hW; exact (Below.refl _ _).alloc (Nat.le_refl _) _
                 have Nb12 := Aside0.mk (show At W12 b12 50 (icells noItm none 0) by subst hW hb; exact At.new _ _ _)
                 have Lb12 := Aside0.mk (show b12 = w11.heap.size from hb)
                 have T12 := Aside0.mk (T11.out.step hB)
                 have Bb12 := Aside0.mk hB
                 clear hb hW hB G)
              | (have G := VB.out
                 refine arm_store_row rfl 50 _ _ rfl b12 50 _ (icells y2 A2 c3b) rfl G Nb12.out rfl size50 (one_icells _ _ _) ?_
                 intro W13 hW
                 have hO : Only (· = b12) W12.heap.size W12 W13 := by subst hW; exact Only.setRow (S := (· = b12)) (Only.refl _ _ _) (.inl rfl) _
                 have l9 := Lb12.out
                 have T13 := Aside0.mk (T11.out.step (Bb12.out.trans (hO.to_below Bb12.out.size (fun b hb => by have e : b = b12 := hb; omega))))
                 have kp : W13.cell? ⟨g1, o1 + j, none⟩ = some (.string p) := KPH.out W13 T13.out
                 have MK13 := Aside0.mk True.intro
                 clear hW hO l9 G)
              | (go_at_call 40
                 have hcall := find_some wr w.heap.size A c its p q y T8.out.items T8.out.below.size (by omega) (fun x hx => by have := (TP.out x hx).2.1; omega) FN.out YX.out
                 refine hcall.mono ?_
                 rintro e w8 ⟨A', c2, rfl, _, hB⟩
                 obtain ⟨va, hva⟩ : ∃ va, va = Value.agg (icells y A' c2).toArray := ⟨_, rfl⟩
                 rw [← hva]
                 have VA := Aside0.mk hva
                 have T8b := Aside0.mk (T8.out.step hB)
                 clear hB hcall hva)
              | (have G := VA.out
                 refine arm_alloc rfl 50 rfl _ _ info50 ?_; intro W9 b9 hb hW
                 have hB : Below w8.heap.size w8 W9 := by subst hW; exact (Below.refl _ _).alloc (Nat.le_refl _) _
                 have Nb9 := Aside0.mk (show At W9 b9 50 (icells noItm none 0) by subst hW hb; exact At.new _ _ _)
                 have Lb9 := Aside0.mk (show b9 = w8.heap.size from hb)
                 have T9 := Aside0.mk (T8b.out.step hB)
                 have Bb9 := Aside0.mk hB
                 clear hb hW hB G)
              | (have G := VA.out
                 refine arm_store_row rfl 50 _ _ rfl b9 50 _ (icells y A' c2) rfl G Nb9.out rfl size50 (one_icells _ _ _) ?_
                 intro W10 hW
                 have hO : Only (· = b9) W9.heap.size W9 W10 := by subst hW; exact Only.setRow (S := (· = b9)) (Only.refl _ _ _) (.inl rfl) _
                 have l9 := Lb9.out
                 have T10 := Aside0.mk (T8b.out.step (Bb9.out.trans (hO.to_below Bb9.out.size (fun b hb => by have e : b = b9 := hb; omega))))
                 have kp : W10.cell? ⟨g1, o1 + j, none⟩ = some (.string p) := KPH.out W10 T10.out
                 have MKF := Aside0.mk True.intro
                 clear hW hO l9 G)
              | fail)
            clear kp
            go_loopg [20, 19] mi.length (fun g s20 s19 wr => ∃ i : Nat, Aside0 (i + g = mi.length) ∧ s20 = .int .i64 i ∧ s19 = .bool (anyEq p (mi.take i)) ∧ Aside0 (TSt w wr w2.heap.size A (some ⟨g1, o1, none⟩) Am Ai its ms keep mi))
            case atStart => exact ⟨0, ⟨by omega⟩, rfl, by rw [List.take_zero]; rfl, T13⟩
            case round =>
              obtain ⟨i, HI3, rfl, rfl, T14⟩ := hrel
              have ml := MIL.out
              have kp : wr.cell? ⟨g1, o1 + j, none⟩ = some (.string p) := KPH.out wr T14.out
              by_cases hlt3 : i < mi.length
              · obtain ⟨z, hz⟩ : ∃ z, mi[i]? = some z := ⟨_, List.getElem?_eq_getElem hlt3⟩
                obtain ⟨gi, oi, hAi, _, hki⟩ := T14.out.mi_ (by intro h; rw [h] at hz; simp at hz)
                subst hAi
                have kz : wr.cell? ⟨gi, oi + i, none⟩ = some (.string z) := hki i z hz
                have AT := Aside0.mk (anyEq_take (p := p) hz)
                clear hz hki
                rcases ha : anyEq p (mi.take i) with _ | _
                · rcases hq : (z.toList == p.toList) with _ | _
                  · go_wp2_with fail
                    go_quiet (fail)
                    go_wp2_with fail
                    go_roundg (mi.length - (i + 1))
                    case measure => have := HI3.out; omega
                    case rel => exact ⟨i + 1, ⟨by have := HI3.out; omega⟩, by go_num, by rw [AT.out, ha, hq]; rfl, ⟨T14.out.step ⟨rfl, rfl, rfl, Nat.le_refl _, fun _ _ => rfl⟩⟩⟩
                  · go_wp2_with fail
                    go_quiet (fail)
                    go_wp2_with fail
                    go_roundg (mi.length - (i + 1))
                    case measure => have := HI3.out; omega
                    case rel => exact ⟨i + 1, ⟨by have := HI3.out; omega⟩, by go_num, by rw [AT.out, ha, hq]; rfl, ⟨T14.out.step ⟨rfl, rfl, rfl, Nat.le_refl _, fun _ _ => rfl⟩⟩⟩
                · go_wp2_with fail
                  go_quiet (fail)
                  go_wp2_with fail
                  go_roundg (mi.length - (i + 1))
                  case measure => have := HI3.out; omega
                  case rel => exact ⟨i + 1, ⟨by have := HI3.out; omega⟩, by go_num, by rw [AT.out, ha]; rfl, ⟨T14.out.step ⟨rfl, rfl, rfl, Nat.le_refl _, fun _ _ => rfl⟩⟩⟩
              · obtain rfl : i = mi.length := by have := HI3.out; omega
                rw [List.take_length, GON.out]
                rcases he : p.toList.isEmpty with _ | _
                all_goals
                  go_wp2_with fail
                  go_roundg (keep.length - (j + 1))
                  case measure => have := HJ.out; omega
                  case rel => exact ⟨j + 1, ⟨by have := HJ.out; omega⟩, by go_num, T14⟩
        · clear HJ
          by_cases hk0 : 0 < keep.length
          · have t1 : decide ((keep.length : Int) > 0) = true := decide_eq_true (by omega)
            go_wp2_with fail
            go_ret
            exact ⟨rfl, T8.out.below⟩
          · have t1 : decide ((keep.length : Int) > 0) = false := decide_eq_false (by omega)
            have t2 : ((ms.length : Int) == 0) = true := by
              rw [KZ.out (List.eq_nil_of_length_eq_zero (by omega))]
              rfl
            go_wp2_with fail
            go_ret
            exact ⟨rfl, T8.out.below⟩
        end Go.Proofs.YtbpfmlckddhgbaaGreatDoor
/- The law TreeTaken answers true for every list of items and every row of paths that hold together at most 1048576 values and letters, and leaves them as they were.
   Conditions: the program's listed tables hold what its text lays (tied by the card); what is read is of bulk at most 1048576. -/
namespace Go.Proofs.YtbpfmlckddhgbaaGreatDoor
set_option linter.unusedVariables false
set_option linter.unusedSimpArgs false
open Go Go.RowKit Go.ChangeShapes Go.WideShapes Go.ChangeAt

theorem taken_calls (w : World) (A B : Option Addr) (c c' : Nat) (its : List Itm) (keep : List ByteArray) (hI : RdI w w.heap.size A its) (hS : RdS w w.heap.size B keep) (hG : Glob w) (hlen : its.length ≤ 1099511627776) (hdl : ∀ x ∈ its, x.data.length ≤ 1099511627776) (hkl : keep.length ≤ 1099511627776) :
    Calls Tryz.prog 7 #[.slice A its.length c, .slice B keep.length c'] w fun e w' => e = .returned (.bool true) ∧ Below w.heap.size w w' := by
  cases hF : fewM its with
  | false => exact taken_many w A B c c' its keep hI hS hG hlen hdl hkl hF
  | true =>
    cases hT : isTreeM its with
    | false => exact taken_bad w A B c c' its keep hI hS hG hlen hdl hkl hF hT
    | true =>
      cases hK : isKeepM keep with
      | false => exact taken_bad2 w A B c c' its keep hI hS hG hlen hdl hkl hF hT hK
      | true => exact taken_good w A B c c' its keep hI hS hG hlen hdl hkl hF hT hK

set_option maxRecDepth 100000 in
theorem taken_contract (H : Type) (enc : TypeId × Value → H) (W : World) (base : Nat) (args : Array Value) (ds gs : List (DataW H)) (before : List MemPlace)
    (hval : ∀ (j : Nat) t v, Tryz.f7.params[j]? = some t → args[j]? = some v → Value.okWide Tryz.prog W .any base t v)
    (hW : DataW.Whole enc Tryz.prog Tryz.f7.params.toList Rows.treeTakenSpec.vars false W args.toList ds gs before) (hsh : W.ShapedOpen Tryz.prog) (hk : Rows.uptoSmall H (ds ++ gs) = true) :
    Calls Tryz.prog 7 args W fun e W' => ∃ v, e = .returned v ∧ Rows.treeTakenSpec.post enc Tryz.prog Tryz.f7 false true false false W args v W' := by
  have hW' := hW
  obtain ⟨p, q, hA0, hV, rfl, hfz, hnd⟩ := hW
  have hA : DataW.TrodAll enc Tryz.prog W 0 (fun _ => true) true Tryz.f7.params.toList args.toList ds p := hA0
  rw [Tryz.params7] at hA hval
  obtain ⟨v0, vs0, d0, ds0, p0, q0, hargs, rfl, rfl, h0, r0⟩ := trodAll_cons hA
  obtain ⟨v1, vs1, d1, ds1, p1, q1, rfl, rfl, rfl, h1, r1⟩ := trodAll_cons r0
  obtain ⟨rfl, rfl, rfl⟩ := trodAll_nil r1
  obtain rfl : args = #[v0, v1] := by cases args; simp_all
  obtain ⟨rfl, rfl⟩ := trodVars_none hV
  obtain ⟨A, c, its, rfl, g1, g2, g3⟩ := open_items (hval 0 22 v0 rfl rfl) h0
  obtain ⟨B, c', keep, rfl, g4, g5⟩ := open_texts (hval 1 66 v1 rfl rfl) h1
  have hb : Rows.uptoBulk d0 + Rows.uptoBulk d1 ≤ 1048576 := by
    have := of_decide_eq_true hk
    simp only [List.append_nil, Rows.uptoBulkAll] at this
    omega
  have hlt : ∀ x ∈ p0 ++ (p1 ++ ([] : List MemPlace)), x.block < W.heap.size := fun x hx => hW'.lt x (by simpa using hx)
  clear hA0
  refine (taken_calls W A B c c' its keep g3 g5 (glob_shape hsh) (by omega) (fun x hx => by have := g2 x hx; omega) (by omega)).mono fun e W' ⟨he, hB⟩ => ?_
  subst he
  have hsame : ∀ x ∈ p0 ++ (p1 ++ ([] : List MemPlace)), W.sameAt W' x := fun x hx => hB.same (hlt x hx)
  refine ⟨_, rfl, post_of_below (pa := p0 ++ (p1 ++ [])) (pv := []) hW' (fun _ _ _ => trodAll_cons_mk (shut_bool Tryz.underlying4 _) trodAll_mk0) (fun sp hsp => ?_) (fun _ _ => rfl) (by simp) hB (ok_one (by kernel_rfl) rfl (okWide_bool_mk Tryz.underlying4 _))⟩
  rw [Tryz.params7]
  have hsp2 : ∀ x ∈ p0 ++ (p1 ++ ([] : List MemPlace)), sp x.block = true := fun x hx => hsp x (by simpa using hx)
  exact trodAll_cons_mk (WideElems.Trod_stays Tryz.laidOut (by kernel_rfl) (of_decide_eq_true (by kernel_rfl)) h0 (fun x hx => hsame x (List.mem_append_left _ hx)) (fun x hx => hsp2 x (List.mem_append_left _ hx)))
    (trodAll_cons_mk (WideElems.Trod_stays Tryz.laidOut (by kernel_rfl) (of_decide_eq_true (by kernel_rfl)) h1 (fun x hx => hsame x (List.mem_append_right _ (List.mem_append_left _ hx))) (fun x hx => hsp2 x (List.mem_append_right _ (List.mem_append_left _ hx)))) trodAll_mk0)

theorem taken_laid (os : Os) : laidMet Tryz.prog Rows.treeTakenUptoRow.laid ((laidWorld os).forCall (fun _ _ => 0) ⟨#[], #[.slice none 0 0, .slice none 0 0], []⟩).memory :=
  laidMet_of_run' 8 (by kernel_rfl) (by kernel_rfl)
theorem taken_reads (os : Os) {H : Type} (enc : TypeId × Value → H) : ∃ places, DataW.whole enc Tryz.prog ((laidWorld os).forCall (fun _ _ => 0) ⟨#[], #[.slice none 0 0, .slice none 0 0], []⟩).memory Tryz.f7.params.toList Rows.treeTakenSpec.vars false #[Value.slice none 0 0, Value.slice none 0 0].toList 8 = some ([.nil, .nil], [], places) :=
  ⟨[], by kernel_rfl⟩
set_option maxRecDepth 100000 in
theorem taken_lifted (os : Os) (started : os.Started) (H : Type) (enc : TypeId × Value → H) (F : Stop.Interp) :
    ReturnsInHanded {} Tryz.checked os 7 .any ((Rows.OpenSpec.upto Rows.treeTakenSpec).preRow enc Tryz.prog Tryz.f7 Rows.treeTakenUptoRow.domain false Rows.treeTakenUptoRow.laid) (((Rows.OpenSpec.upto Rows.treeTakenSpec).at F).post enc Tryz.prog Tryz.f7 false true false false) := by
  obtain ⟨places, hx⟩ := taken_reads os enc
  refine returnsInHanded_of_row (C := Tryz.checked) (s := Rows.OpenSpec.upto Rows.treeTakenSpec) Tryz.own started (by kernel_rfl) Tryz.func7
    (witness_row_at (enc := enc) (C := Tryz.checked) false (laidWorld os) #[.slice none 0 0, .slice none 0 0] rfl (by kernel_rfl) (by kernel_rfl) (by kernel_rfl)
      (OpenSpec.preRow_of_cond 8 hx (by kernel_rfl) (fun k hk => by cases hk; kernel_rfl) (by kernel_rfl) (taken_laid os))) ?_
  intro W base args ds gs before hval hW _ hcond _ _ hsh _
  exact taken_contract H enc W base args ds gs before hval hW hsh (hcond _ rfl)
theorem taken_said : Rows.TreeTakenUptoSaid :=
  OpenClaim.holds_of_cond 7 Tryz.f7 rfl rfl rfl rfl rfl rfl rfl ⟨rfl, rfl, rfl, rfl, rfl⟩ rfl rfl rfl rfl rfl fTaken.named Tryz.func7 fTaken.joined fTaken.inst fTaken.wrap
    (fun os started H enc _ F => by rw [OpenClaim.pre_eq_preRow]; exact taken_lifted os started H enc F)
/-- No parameter wants a stand-in; what the program's looks say. -/
theorem taken_plain (f : FuncId) (fn : Func) (hf : Tryz.pinned.checked.prog.funcNamed "retort/retortlaw6.TreeTaken" = some f) (hfn : Tryz.pinned.checked.prog.funcs[f]? = some fn) :
    true = Tryz.pinned.checked.prog.looks [] ∧ ∀ (j : Nat) t, fn.params[j]? = some t → Tryz.pinned.checked.prog.wantsStandIn t = false := by
  obtain rfl : f = 7 := Option.some.inj ((show Tryz.prog.funcNamed "retort/retortlaw6.TreeTaken" = some 7 by kernel_rfl).symm.trans hf) |>.symm
  obtain rfl : fn = Tryz.f7 := (Option.some.inj (Tryz.func7.symm.trans hfn)).symm
  refine ⟨by kernel_rfl, fun j t ht => ?_⟩
  rw [Tryz.params7] at ht
  have hm : t ∈ #[22, 66] := Array.mem_of_getElem? ht
  simp only [List.mem_toArray, List.mem_cons, List.not_mem_nil, or_false] at hm
  rcases hm with rfl | rfl
  · exact (show Tryz.prog.wantsStandIn 22 = false by kernel_rfl)
  · exact (show Tryz.prog.wantsStandIn 66 = false by kernel_rfl)
/-- THE CARD. -/
theorem taken_card : Rows.TreeTakenUptoCardSaid :=
  Claim7.holds_tied_plain_at .later [] _ _ _ _ taken_said (fun _ h => by cases h) (by kernel_rfl) (fun _ h => by cases h) treeTakenUpto_row_tie rfl ⟨rfl, rfl⟩ (by kernel_rfl) rfl taken_plain (by kernel_rfl)
end Go.Proofs.YtbpfmlckddhgbaaGreatDoor
