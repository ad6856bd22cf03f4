/- tree: Build's inner function blob: a blob is laid once, its digest is told. -/
import Derived.Test.YtbpfmlckddhgbaaGreatDoorQe
import Derived.StringKeys
namespace Go.Proofs.YtbpfmlckddhgbaaGreatDoor
set_option linter.unusedVariables false
set_option linter.unusedSimpArgs false
open Go Go.RowKit Go.Maps Go.WideMaps Go.Proofs.YtbpfmlckddhgbaaGreatDoorW.PrintWords Go.Proofs.YtbpfmlckddhgbaaGreatDoorW.PrintLast
theorem tu28 : Tryz.prog.underlying 28 = some (.slice 35) := by kernel_rfl
theorem size28 : (Tryz.prog.info? 28).map (·.size) = some 1 := by kernel_rfl
theorem info35 : (Tryz.prog.info? 35).map (fun i => (i.zero, i.size)) = some (some (.slice none 0 0), 1) := by kernel_rfl
theorem info35b : (Tryz.prog.info? 35).map (fun i => (i.zero, i.size, i.bytes)) = some (some (.slice none 0 0), 1, 24) := by kernel_rfl
theorem zero3 (w : World) : (zeroValue 3).run Tryz.prog w = .ok (.int .i64 0) w := by kernel_rfl
theorem tu9s : Tryz.prog.underlying 9 = some .string := by kernel_rfl
theorem keyOf_str (ds : List UInt8) (h : ds.length ≤ 1099511627776) : keyOf Tryz.prog 9 (.string ⟨ds.toArray⟩) = some (.string ds) :=
  keyOf_string_mk tu9s (s := ⟨ds.toArray⟩) (by show ds.length ≤ maxLen; unfold maxLen; omega)
def seenM (bl : List (List UInt8)) : MapF := fun s => if s ∈ bl then some (.int .i64 1) else none
def addB (bl : List (List UInt8)) (ds : List UInt8) : List (List UInt8) := if ds ∈ bl then bl else bl ++ [ds]
theorem seenM_put (bl : List (List UInt8)) (ds : List UInt8) : (seenM bl).put ds (.int .i64 1) = seenM (bl ++ [ds]) := by
  funext s
  unfold MapF.put seenM
  by_cases h : s = ds
  · subst h; simp
  · simp [h]
structure Blobs (w : World) (D : Nat → Prop) (v : Value) (bl : List (List UInt8)) : Prop where
  row : ∃ vs, Own w 35 v vs ∧ vs.length = bl.length ∧ ∀ (i : Nat) (b : List UInt8), bl[i]? = some b → ∃ A c, vs[i]? = some (.slice A b.length c) ∧ b.length ≤ c ∧
    (b ≠ [] → ∃ ad, A = some ad ∧ D ad.block ∧ ad.block < w.heap.size ∧ v.ownBlock ≠ some ad.block ∧ ∀ k, k < b.length → w.cell? (ad.add k) = some (bv (b.getD k 0)))
  fresh : ∀ k, v.ownBlock = some k → D k
namespace Blobs
variable {w w1 : World} {D : Nat → Prop} {v : Value} {bl : List (List UInt8)}
theorem nil (w : World) (D : Nat → Prop) : Blobs w D (.slice none 0 0) [] := ⟨⟨[], Own.nil _ _, rfl, fun i b h => by simp at h⟩, fun k hk => by simp [Value.ownBlock] at hk⟩
theorem lt (h : Blobs w D v bl) {k : Nat} (hk : v.ownBlock = some k) : k < w.heap.size := by obtain ⟨vs, h1, _⟩ := h.row; exact h1.lt hk
theorem only {S : Nat → Prop} (h : Blobs w D v bl) (ho : Only S w.heap.size w w1) (hS : ∀ b, S b → ¬ D b) : Blobs w1 D v bl := by
  obtain ⟨vs, h1, h2, h3⟩ := h.row
  refine ⟨⟨vs, h1.only ho (fun k hk => ⟨h1.lt hk, fun hs => hS k hs (h.fresh k hk)⟩), h2, fun i b hb => ?_⟩, h.fresh⟩
  obtain ⟨A, c, g1, g2, g3⟩ := h3 i b hb
  refine ⟨A, c, g1, g2, fun hne => ?_⟩
  obtain ⟨ad, q1, q2, q3, q4, q5⟩ := g3 hne
  exact ⟨ad, q1, q2, Nat.lt_of_lt_of_le q3 ho.size, q4, fun k hk => by rw [ho.cell (by rw [add_block]; exact q3) (by rw [add_block]; exact fun hs => hS _ hs q2)]; exact q5 k hk⟩
theorem below (h : Blobs w D v bl) (ho : Below w.heap.size w w1) : Blobs w1 D v bl := h.only (Only.of_below (S := fun _ => False) ho) (fun _ h => h.elim)
theorem mono (h : Blobs w D v bl) {D' : Nat → Prop} (hD : ∀ b, b < w.heap.size → D b → D' b) : Blobs w D' v bl := by
  obtain ⟨vs, h1, h2, h3⟩ := h.row
  refine ⟨⟨vs, h1, h2, fun i b hb => ?_⟩, fun k hk => hD k (h1.lt hk) (h.fresh k hk)⟩
  obtain ⟨A, c, g1, g2, g3⟩ := h3 i b hb
  refine ⟨A, c, g1, g2, fun hne => ?_⟩
  obtain ⟨ad, q1, q2, q3, q4⟩ := g3 hne
  exact ⟨ad, q1, hD _ q3 q2, q3, q4⟩
end Blobs
structure BSt (w : World) (D : Nat → Prop) (base se bbl bm wdb wd : Nat) (bl : List (List UInt8)) (v : Value) : Prop where
  seen : At w se 121 [.map (some bm)]
  cell : At w bbl 28 [v]
  wdc : At w wdb 3 [.int .i64 (wd : Int)]
  map : OMap w 9 bm (seenM bl) bl.length
  blobs : Blobs w D v bl
  dom : ∀ b, D b → base ≤ b
  ord : se < base ∧ bbl < base ∧ bm < base ∧ wdb < base ∧ base ≤ w.heap.size
  ne : se ≠ bbl ∧ se ≠ bm ∧ bbl ≠ bm ∧ wdb ≠ bbl ∧ wdb ≠ bm
namespace BSt
variable {w w1 : World} {D : Nat → Prop} {base se bbl bm wdb wd : Nat} {v : Value} {bl : List (List UInt8)}
theorem only {S : Nat → Prop} (h : BSt w D base se bbl bm wdb wd bl v) (ho : Only S w.heap.size w w1) (hS : ∀ b, S b → ¬ D b ∧ b ≠ se ∧ b ≠ bbl ∧ b ≠ bm ∧ b ≠ wdb) : BSt w1 D base se bbl bm wdb wd bl v :=
  ⟨ho.at_ h.seen.lt (fun hs => (hS _ hs).2.1 rfl) h.seen, ho.at_ h.cell.lt (fun hs => (hS _ hs).2.2.1 rfl) h.cell, ho.at_ h.wdc.lt (fun hs => (hS _ hs).2.2.2.2 rfl) h.wdc,
    h.map.only ho h.map.lt (fun hs => (hS _ hs).2.2.2.1 rfl), h.blobs.only ho (fun b hs => (hS b hs).1), h.dom, ⟨h.ord.1, h.ord.2.1, h.ord.2.2.1, h.ord.2.2.2.1, Nat.le_trans h.ord.2.2.2.2 ho.size⟩, h.ne⟩
theorem below (h : BSt w D base se bbl bm wdb wd bl v) (ho : Below w.heap.size w w1) : BSt w1 D base se bbl bm wdb wd bl v := h.only (Only.of_below (S := fun _ => False) ho) (fun _ h => h.elim)
theorem mono (h : BSt w D base se bbl bm wdb wd bl v) {D' : Nat → Prop} (hD : ∀ b, b < w.heap.size → D b → D' b) (hd : ∀ b, D' b → base ≤ b) : BSt w D' base se bbl bm wdb wd bl v :=
  ⟨h.seen, h.cell, h.wdc, h.map, h.blobs.mono hD, hd, h.ord, h.ne⟩
theorem avoid (h : BSt w D base se bbl bm wdb wd bl v) {b5 : Nat} (hb : w.heap.size ≤ b5) : BSt w (fun b => (D b ∨ w.heap.size ≤ b) ∧ b ≠ b5) base se bbl bm wdb wd bl v :=
  h.mono (fun b hb' hd => ⟨Or.inl hd, by omega⟩) (fun b hb' => hb'.1.elim (h.dom b) (fun h1 => Nat.le_trans h.ord.2.2.2.2 h1))
end BSt
theorem Blobs.snoc {w w1 : World} {D : Nat → Prop} {v v1 : Value} {bl : List (List UInt8)} {ds : List UInt8} {vs : List Value} {A : Option Addr} {c : Nat} (h : Blobs w D v bl) (hv : Own w 35 v vs) (hv1 : Own w1 35 v1 (vs ++ [.slice A ds.length c])) (hc : ds.length ≤ c)
    (hO : Only (fun b => v.ownBlock = some b) w.heap.size w w1) (hq : v1.ownBlock = v.ownBlock ∨ ∃ k, v1.ownBlock = some k ∧ w.heap.size ≤ k ∧ D k)
    (hr : ds ≠ [] → ∃ ad, A = some ad ∧ D ad.block ∧ ad.block < w.heap.size ∧ v.ownBlock ≠ some ad.block ∧ ∀ k, k < ds.length → w.cell? (ad.add k) = some (bv (ds.getD k 0))) : Blobs w1 D v1 (bl ++ [ds]) := by
  obtain ⟨vs', h1, h2, h3⟩ := h.row
  have he : vs' = vs := by
    obtain ⟨A1, c1, e1, _, r1⟩ := h1.reads
    obtain ⟨A2, c2, e2, _, r2⟩ := hv.reads
    rw [e1] at e2
    injection e2 with e3 e4 e5
    apply List.ext_getElem e4
    intro j hj1 hj2
    obtain ⟨ad1, a1, _, a2⟩ := r1 (by intro h; rw [h] at hj1; simp at hj1)
    obtain ⟨ad2, a3, _, a4⟩ := r2 (by intro h; rw [h] at hj2; simp at hj2)
    rw [a1, a3] at e3
    injection e3 with e3
    have x1 := a2 j _ (List.getElem?_eq_getElem hj1)
    have x2 := a4 j _ (List.getElem?_eq_getElem hj2)
    rw [e3, x2] at x1
    injection x1 with x1
    exact x1.symm
  subst he
  have hne : ∀ ad : Addr, ad.block < w.heap.size → v.ownBlock ≠ some ad.block → v1.ownBlock ≠ some ad.block := fun ad h1 h2 => by
    rcases hq with hq | ⟨k, hq, hk, _⟩
    · rw [hq]; exact h2
    · rw [hq]; intro e; injection e with e; omega
  have hcell : ∀ (ad : Addr) (b : List UInt8), ad.block < w.heap.size → v.ownBlock ≠ some ad.block → (∀ k, k < b.length → w.cell? (ad.add k) = some (bv (b.getD k 0))) → ∀ k, k < b.length → w1.cell? (ad.add k) = some (bv (b.getD k 0)) := fun ad b g1 g2 g3 k hk => by
    rw [hO.cell (by rw [add_block]; exact g1) (by rw [add_block]; exact g2)]; exact g3 k hk
  refine ⟨⟨vs' ++ [.slice A ds.length c], hv1, by rw [List.length_append, List.length_append, h2]; rfl, fun i b hi => ?_⟩, fun k hk => ?_⟩
  · by_cases hlt : i < bl.length
    · rw [List.getElem?_append_left hlt] at hi
      obtain ⟨A', c', g1, g2, g3⟩ := h3 i b hi
      refine ⟨A', c', by rw [List.getElem?_append_left (by omega)]; exact g1, g2, fun hbn => ?_⟩
      obtain ⟨ad, q1, q2, q3, q4, q5⟩ := g3 hbn
      exact ⟨ad, q1, q2, Nat.lt_of_lt_of_le q3 hO.size, hne ad q3 q4, hcell ad b q3 q4 q5⟩
    · rw [List.getElem?_append_right (by omega)] at hi
      have h0 : i - bl.length = 0 := by
        have := (List.getElem?_eq_some_iff.1 hi).1
        simp at this; omega
      rw [h0] at hi
      injection hi with hi
      subst hi
      refine ⟨A, c, by rw [List.getElem?_append_right (by omega), h2, h0]; rfl, hc, fun hbn => ?_⟩
      obtain ⟨ad, q1, q2, q3, q4, q5⟩ := hr hbn
      exact ⟨ad, q1, q2, Nat.lt_of_lt_of_le q3 hO.size, hne ad q3 q4, hcell ad ds q3 q4 q5⟩
  · rcases hq with hq | ⟨k', hq, _, hd⟩
    · rw [hq] at hk; exact h.fresh k hk
    · rw [hq] at hk; injection hk with hk; rw [← hk]; exact hd
set_option maxRecDepth 8000 in
set_option maxHeartbeats 1000000 in
theorem blob1_calls (w : World) (D : Nat → Prop) (base se bbl bm wdb wd : Nat) (bl : List (List UInt8)) (v : Value) (A : Option Addr) (c : Nat) (ds : List UInt8) (hB : BSt w D base se bbl bm wdb wd bl v) (hR : RdL w A ds) (hA : ds ≠ [] → ∀ ad, A = some ad → ad.block ≠ bm ∧ ad.block ≠ bbl ∧ v.ownBlock ≠ some ad.block) (hl : ds.length ≤ 1073741824) (hc : ds.length ≤ c)
    (hw1 : 1 ≤ wd) (hw2 : wd ≤ 32) (hbl : bl.length < 1048576) (hm : ds ∈ bl) :
    Calls Tryz.prog 70 #[.slice A ds.length c, .pointer (some ⟨se, 0, none⟩), .pointer (some ⟨bbl, 0, none⟩), .pointer (some ⟨wdb, 0, none⟩)] w fun e w' => e = .returned (digV (digL wd ds)) ∧ ∃ v', BSt w' (fun b => D b ∨ w.heap.size ≤ b) base se bbl bm wdb wd (addB bl ds) v' ∧ Only (fun b => b = bm ∨ b = bbl ∨ v.ownBlock = some b) w.heap.size w w' ∧ ∀ k, v'.ownBlock = some k → v.ownBlock = some k ∨ w.heap.size ≤ k := by
  have BT := Aside0.mk hB
  have HR := Aside0.mk hR
  have HA := Aside0.mk hA
  have HC := Aside0.mk hc
  have HL := Aside0.mk hl
  have HM := Aside0.mk hm
  have DL := Aside0.mk (digL_len wd ds hw2)
  have SL := Aside0.mk (shaL_len ds)
  have OKW := Aside0.mk (show wOk (wd : Int) = true by unfold wOk; simp; omega)
  have DD := Aside0.mk (show cutD (shaL ds) wd = digL wd ds from digL_eq wd ds)
  obtain ⟨nd, hnd⟩ : ∃ nd, nd = ds.length := ⟨_, rfl⟩
  have ND := Aside0.mk hnd
  rw [← hnd]
  have BW0 := Aside0.mk hB.ord.2.2.2.2
  have DM := Aside0.mk hB.dom
  have BM0 := Aside0.mk hB.map.lt
  obtain ⟨dgv, hdgv⟩ : ∃ dgv, dgv = digV (digL wd ds) := ⟨_, rfl⟩
  obtain ⟨sv, hsv⟩ : ∃ sv, sv = digV (shaL ds) := ⟨_, rfl⟩
  rw [← hdgv]
  have DGV := Aside0.mk hdgv
  have SV := Aside0.mk hsv
  clear hB hR hA hc hl hm hnd hdgv hsv
  go_enter Tryz.func70, Tryz.ntmps70
  go_wp2_with (first
    | (refine arm_alloc rfl 27 rfl _ _ info27 ?_; intro W5 b5 hb hW
       have hN : At W5 b5 27 (List.replicate 32 (bv 0)) := by subst hW hb; exact At.new _ _ _
       have hBB : Below w.heap.size w W5 := by subst hW; exact (Below.refl _ _).alloc (Nat.le_refl _) _
       have L5 := Aside0.mk (show w.heap.size ≤ b5 by rw [hb]; exact Nat.le_refl _)
       have N5 := Aside0.mk hN
       have BW := Aside0.mk hBB
       have BT := Aside0.mk ((BT.out.avoid L5.out).below hBB)
       have HR5 : RdL W5 A ds := HR.out.below hBB
       have RDW := Aside0.mk HR5
       have k1 : W5.cell? ⟨se, 0, none⟩ = some (.map (some bm)) := by rw [BT.out.seen.cell]; rfl
       have hcv : (convert 35 9 (.slice A nd c)).run Tryz.prog W5 = .ok (.string ⟨ds.toArray⟩) W5 := by rw [ND.out, ← str_of_bytes]; exact HR5.bytesIn.convert (by simp) c 35 5 9 tu35 tu5 tu9
       have hlk : (Instr.lookup 121 (.map (some bm)) (.string ⟨ds.toArray⟩) false).run Tryz.prog W5 = .ok (.int .i64 1) W5 := by
         have e := BT.out.map.look1 strKeyed tu121 (zero3 W5) (key := .string ⟨ds.toArray⟩) (d := ds) (keyOf_str ds (by have := HL.out; omega))
         rw [e]
         unfold seenM
         rw [if_pos HM.out]; rfl
       clear hN hb hW hBB HR5)
    | fail)
  have L5b := Aside0.mk N5.out.lt
  have BW5 := Aside0.mk BW.out.size
  have hall : ∀ w', Below W5.heap.size W5 w' → w'.cell? ⟨wdb, 0, none⟩ = some (.int .i64 (wd : Int)) := by
    intro w' hB
    rw [(BT.out.below hB).wdc.cell]; rfl
  have HALL := Aside0.mk hall
  clear hall
  have HR4 := Aside0.mk (show RdL W5 A ds from RDW.out)
  refine takes_region (S := fun w' => Below W5.heap.size W5 w') (ds := [9, 10]) [(0, true), (3, false)] 9 (by kernel_rfl) rfl (by kernel_rfl) (fun _ _ dd _ _ h => by cases dd <;> exact h) (Below.refl _ _).drew
    #[true, false, false, true, false, false, false, false, false, false, false] (by kernel_rfl) ?_
  refine tk (N := some 22) (v := ?vv1) (a' := ?aa1) rfl rfl rfl ?hr1 ?ha1 ?nx1
  case hr1 => (intro w' hS; first | (go_simp; with_reducible rfl) | (obtain hS | hS := hS; (· cases hS); have hF := HALL.out w' hS; go_simp; with_reducible rfl))
  case ha1 => (simp only [Act.put, List.setIfInBounds_toArray, List.set_cons_zero, List.set_cons_succ]; rfl)
  refine tk (N := some 25) (v := ?vv2) (a' := ?aa2) rfl rfl rfl ?hr2 ?ha2 ?nx2
  case hr2 => (intro w' hS; first | (go_simp; with_reducible rfl) | (obtain hS | hS := hS; (· cases hS); have hF := HALL.out w' hS; go_simp; with_reducible rfl))
  case ha2 => (simp only [Act.put, List.setIfInBounds_toArray, List.set_cons_zero, List.set_cons_succ]; rfl)
  refine takes_done ?_
  have HS := Aside0.mk (show Below W5.heap.size W5 W5.drew from (Below.refl _ _).drew)
  obtain ⟨X0, hX0⟩ : ∃ X0, X0 = W5.drew := ⟨_, rfl⟩
  rw [← hX0] at HS ⊢
  clear hX0
  refine join_ (σ := Nat × Nat × World) 2 #[true, true, true, true, true, true, true, true, true, false, false] (fun s => [(23, .slice (some ⟨s.1, 0, none⟩) 1 1), (24, sv), (26, .tuple #[dgv, .int .i64 0]), (21, .tuple #[dgv, .int .i64 0]), (27, dgv), (28, .int .i64 0), (6, .pointer (some ⟨s.2.1, 0, none⟩))]) (fun s w' => w' = s.2.2 ∧ Below W5.heap.size W5 s.2.2 ∧ At s.2.2 s.2.1 27 (List.replicate 32 (bv 0)) ∧ W5.heap.size ≤ s.2.1) ?_ (fun hc => ?_)
  rotate_left
  · simp only [putAll, Act.put, List.setIfInBounds_toArray, List.set_cons_zero, List.set_cons_succ] at hc
    refine two_ (i := 1) (j := 8) (Ni := some 23) (Nj := some 6) #[true, true, false, true, false, false, false, false, false, false, false] #[true, false, false, true, false, false, false, false, true, false, false] rfl rfl rfl rfl (by kernel_rfl) (by decide) (by decide) (fun K hK => ?_) (fun K hK => ?_)
    · rw [if_pos (by rfl)]
      refine wpo_slice1 (some 23) rfl 28 35 _ rfl _ 1 [.slice A nd c] (.slice A nd c) rfl rfl tu28 info35 (by decide) (by decide) rfl ?_
      intro V3 g hb hW
      have hBs : Below X0.heap.size X0 V3 := by subst hW; exact (Below.refl _ _).alloc (Nat.le_refl _) _
      have GC := Aside0.mk (show V3.cell? ⟨g, 0, none⟩ = some (.slice A nd c) by subst hW hb; rw [(At.new X0 35 #[.slice A nd c]).cell]; rfl)
      clear hb hW
      have HS := Aside0.mk (HS.out.trans (hBs.mono HS.out.size))
      clear hBs
      refine hK _ _ HS.out (fun _ => ?_)
      clear hK K
      refine frame_ (a' := ?aa7) ?ha7 ?nx7
      case ha7 =>
        simp only [Go.Proofs.YtbpfmlckddhgbaaGreatDoorW.PrintLast.putAll, Act.put, List.setIfInBounds_toArray, List.set_cons_zero, List.set_cons_succ]
        rfl
      refine two_ (i := 2) (j := 8) (Ni := some 24) (Nj := some 6) #[true, true, true, true, false, false, false, false, false, false, false] #[true, true, false, true, false, false, false, false, true, false, false] rfl rfl rfl rfl (by kernel_rfl) (by decide) (by decide) (fun K hK => ?_) (fun K hK => ?_)
      · refine goes_ Tryz.func73 (by kernel_rfl) rfl #[.slice (some ⟨g, 0, none⟩) 1 1] (by rfl) rfl rfl (by simp only [List.map_toArray, List.map_cons, List.map_nil]; rfl) ?_
        refine (of_calls V3 g A c ds (by rw [← ND.out]; exact GC.out) (HR4.out.below HS.out) (by have := HL.out; omega) HC.out).mono ?_
        rintro e V5 ⟨rfl, hBs⟩
        rw [← SV.out]
        refine ⟨_, rfl, ?_⟩
        have HS := Aside0.mk (HS.out.trans (hBs.mono HS.out.size))
        clear hBs
        refine hK _ _ HS.out (fun _ => ?_)
        clear hK K
        refine frame_ (a' := ?aa8) ?ha8 ?nx8
        case ha8 =>
          simp only [Go.Proofs.YtbpfmlckddhgbaaGreatDoorW.PrintLast.putAll, Act.put, List.setIfInBounds_toArray, List.set_cons_zero, List.set_cons_succ]
          rfl
        refine two_ (i := 4) (j := 8) (Ni := some 26) (Nj := some 6) #[true, true, true, true, true, false, false, false, false, false, false] #[true, true, true, true, false, false, false, false, true, false, false] rfl rfl rfl rfl (by kernel_rfl) (by decide) (by decide) (fun K hK => ?_) (fun K hK => ?_)
        · refine goes_ Tryz.func72 (by kernel_rfl) rfl #[sv, .int .i64 (wd : Int)] (by rfl) rfl rfl (by simp only [List.map_toArray, List.map_cons, List.map_nil]; rfl) ?_
          have hcall := cut_calls V5 (shaL ds) (wd : Int) SL.out
          rw [← SV.out] at hcall
          refine hcall.mono ?_
          clear hcall
          rintro e V7 ⟨rfl, hBs⟩
          rw [if_pos OKW.out, Int.toNat_natCast, show cutD (shaL ds) wd = digL wd ds from DD.out, ← DGV.out]
          refine ⟨_, rfl, ?_⟩
          have HS := Aside0.mk (HS.out.trans (hBs.mono HS.out.size))
          clear hBs
          refine hK _ _ HS.out (fun _ => ?_)
          clear hK K
          refine frame_ (a' := ?aa9) ?ha9 ?nx9
          case ha9 =>
            simp only [Go.Proofs.YtbpfmlckddhgbaaGreatDoorW.PrintLast.putAll, Act.put, List.setIfInBounds_toArray, List.set_cons_zero, List.set_cons_succ]
            rfl
          refine pure_ (i := 5) (N := some 21) (v := .tuple #[dgv, .int .i64 0]) #[true, true, true, true, true, true, false, false, false, false, false] rfl rfl (by kernel_rfl) (fun _ _ _ h => h) (Or.inl ⟨by rfl, fun _ => by go_simp⟩) rfl ?_
          refine pure_ (i := 6) (N := some 27) (v := dgv) #[true, true, true, true, true, true, true, false, false, false, false] rfl rfl (by kernel_rfl) (fun _ _ _ h => h) (Or.inl ⟨by rfl, fun _ => by go_simp⟩) rfl ?_
          refine pure_ (i := 7) (N := some 28) (v := .int .i64 0) #[true, true, true, true, true, true, true, true, false, false, false] rfl rfl (by kernel_rfl) (fun _ _ _ h => h) (Or.inl ⟨by rfl, fun _ => by go_simp⟩) rfl ?_
          refine one_ (i := 8) (N := some 6) #[true, true, true, true, true, true, true, true, true, false, false] rfl rfl (by kernel_rfl) (by decide) (fun K hK => ?_)
          rw [if_pos (by rfl)]
          refine wpo_alloc (some 6) rfl 27 rfl _ _ info27 ?_
          intro V9 b6 hb hW
          have hBs : Below V7.heap.size V7 V9 := by subst hW; exact (Below.refl _ _).alloc (Nat.le_refl _) _
          have N6 := Aside0.mk (show At V9 b6 27 (List.replicate 32 (bv 0)) by subst hW hb; exact At.new _ _ _)
          have L6 := Aside0.mk (show W5.heap.size ≤ b6 by rw [hb]; exact HS.out.size)
          clear hb hW
          have HS := Aside0.mk (HS.out.trans (hBs.mono HS.out.size))
          clear hBs
          refine hK _ _ HS.out (fun _ => ?_)
          clear hK K
          refine frame_ (a' := ?aa10) ?ha10 ?nx10
          case ha10 =>
            simp only [Go.Proofs.YtbpfmlckddhgbaaGreatDoorW.PrintLast.putAll, Act.put, List.setIfInBounds_toArray, List.set_cons_zero, List.set_cons_succ]
            rfl
          exact hc (g, b6, V9) V9 ⟨rfl, HS.out, N6.out, L6.out⟩
        · rw [if_pos (by rfl)]
          refine wpo_alloc (some 6) rfl 27 rfl _ _ info27 ?_
          intro V11 b6 hb hW
          have hBs : Below V5.heap.size V5 V11 := by subst hW; exact (Below.refl _ _).alloc (Nat.le_refl _) _
          have N6 := Aside0.mk (show At V11 b6 27 (List.replicate 32 (bv 0)) by subst hW hb; exact At.new _ _ _)
          have L6 := Aside0.mk (show W5.heap.size ≤ b6 by rw [hb]; exact HS.out.size)
          clear hb hW
          have HS := Aside0.mk (HS.out.trans (hBs.mono HS.out.size))
          clear hBs
          refine hK _ _ HS.out (fun _ => ?_)
          clear hK K
          refine frame_ (a' := ?aa11) ?ha11 ?nx11
          case ha11 =>
            simp only [Go.Proofs.YtbpfmlckddhgbaaGreatDoorW.PrintLast.putAll, Act.put, List.setIfInBounds_toArray, List.set_cons_zero, List.set_cons_succ]
            rfl
          refine one_ (i := 4) (N := some 26) #[true, true, true, true, true, false, false, false, true, false, false] rfl rfl (by kernel_rfl) (by decide) (fun K hK => ?_)
          refine goes_ Tryz.func72 (by kernel_rfl) rfl #[sv, .int .i64 (wd : Int)] (by rfl) rfl rfl (by simp only [List.map_toArray, List.map_cons, List.map_nil]; rfl) ?_
          have hcall := cut_calls V11 (shaL ds) (wd : Int) SL.out
          rw [← SV.out] at hcall
          refine hcall.mono ?_
          clear hcall
          rintro e V13 ⟨rfl, hBs⟩
          rw [if_pos OKW.out, Int.toNat_natCast, show cutD (shaL ds) wd = digL wd ds from DD.out, ← DGV.out]
          refine ⟨_, rfl, ?_⟩
          have HS := Aside0.mk (HS.out.trans (hBs.mono HS.out.size))
          have N6 := Aside0.mk (N6.out.below hBs N6.out.lt)
          clear hBs
          refine hK _ _ HS.out (fun _ => ?_)
          clear hK K
          refine frame_ (a' := ?aa12) ?ha12 ?nx12
          case ha12 =>
            simp only [Go.Proofs.YtbpfmlckddhgbaaGreatDoorW.PrintLast.putAll, Act.put, List.setIfInBounds_toArray, List.set_cons_zero, List.set_cons_succ]
            rfl
          refine pure_ (i := 5) (N := some 21) (v := .tuple #[dgv, .int .i64 0]) #[true, true, true, true, true, true, false, false, true, false, false] rfl rfl (by kernel_rfl) (fun _ _ _ h => h) (Or.inl ⟨by rfl, fun _ => by go_simp⟩) rfl ?_
          refine pure_ (i := 6) (N := some 27) (v := dgv) #[true, true, true, true, true, true, true, false, true, false, false] rfl rfl (by kernel_rfl) (fun _ _ _ h => h) (Or.inl ⟨by rfl, fun _ => by go_simp⟩) rfl ?_
          refine pure_ (i := 7) (N := some 28) (v := .int .i64 0) #[true, true, true, true, true, true, true, true, true, false, false] rfl rfl (by kernel_rfl) (fun _ _ _ h => h) (Or.inl ⟨by rfl, fun _ => by go_simp⟩) rfl ?_
          refine frame_ (a' := ?aa13) ?ha13 ?nx13
          case ha13 =>
            simp only [Go.Proofs.YtbpfmlckddhgbaaGreatDoorW.PrintLast.putAll, Act.put, List.setIfInBounds_toArray, List.set_cons_zero, List.set_cons_succ]
            rfl
          exact hc (g, b6, V13) V13 ⟨rfl, HS.out, N6.out, L6.out⟩
      · rw [if_pos (by rfl)]
        refine wpo_alloc (some 6) rfl 27 rfl _ _ info27 ?_
        intro V15 b6 hb hW
        have hBs : Below V3.heap.size V3 V15 := by subst hW; exact (Below.refl _ _).alloc (Nat.le_refl _) _
        have N6 := Aside0.mk (show At V15 b6 27 (List.replicate 32 (bv 0)) by subst hW hb; exact At.new _ _ _)
        have L6 := Aside0.mk (show W5.heap.size ≤ b6 by rw [hb]; exact HS.out.size)
        clear hb hW
        have HS := Aside0.mk (HS.out.trans (hBs.mono HS.out.size))
        have GC := Aside0.mk (show V15.cell? ⟨g, 0, none⟩ = some (.slice A nd c) by rw [hBs.cell (World.block_lt_of_cell? _ _ GC.out)]; exact GC.out)
        clear hBs
        refine hK _ _ HS.out (fun _ => ?_)
        clear hK K
        refine frame_ (a' := ?aa14) ?ha14 ?nx14
        case ha14 =>
          simp only [Go.Proofs.YtbpfmlckddhgbaaGreatDoorW.PrintLast.putAll, Act.put, List.setIfInBounds_toArray, List.set_cons_zero, List.set_cons_succ]
          rfl
        refine one_ (i := 2) (N := some 24) #[true, true, true, true, false, false, false, false, true, false, false] rfl rfl (by kernel_rfl) (by decide) (fun K hK => ?_)
        refine goes_ Tryz.func73 (by kernel_rfl) rfl #[.slice (some ⟨g, 0, none⟩) 1 1] (by rfl) rfl rfl (by simp only [List.map_toArray, List.map_cons, List.map_nil]; rfl) ?_
        refine (of_calls V15 g A c ds (by rw [← ND.out]; exact GC.out) (HR4.out.below HS.out) (by have := HL.out; omega) HC.out).mono ?_
        rintro e V17 ⟨rfl, hBs⟩
        rw [← SV.out]
        refine ⟨_, rfl, ?_⟩
        have HS := Aside0.mk (HS.out.trans (hBs.mono HS.out.size))
        have N6 := Aside0.mk (N6.out.below hBs N6.out.lt)
        clear hBs
        refine hK _ _ HS.out (fun _ => ?_)
        clear hK K
        refine frame_ (a' := ?aa15) ?ha15 ?nx15
        case ha15 =>
          simp only [Go.Proofs.YtbpfmlckddhgbaaGreatDoorW.PrintLast.putAll, Act.put, List.setIfInBounds_toArray, List.set_cons_zero, List.set_cons_succ]
          rfl
        refine one_ (i := 4) (N := some 26) #[true, true, true, true, true, false, false, false, true, false, false] rfl rfl (by kernel_rfl) (by decide) (fun K hK => ?_)
        refine goes_ Tryz.func72 (by kernel_rfl) rfl #[sv, .int .i64 (wd : Int)] (by rfl) rfl rfl (by simp only [List.map_toArray, List.map_cons, List.map_nil]; rfl) ?_
        have hcall := cut_calls V17 (shaL ds) (wd : Int) SL.out
        rw [← SV.out] at hcall
        refine hcall.mono ?_
        clear hcall
        rintro e V19 ⟨rfl, hBs⟩
        rw [if_pos OKW.out, Int.toNat_natCast, show cutD (shaL ds) wd = digL wd ds from DD.out, ← DGV.out]
        refine ⟨_, rfl, ?_⟩
        have HS := Aside0.mk (HS.out.trans (hBs.mono HS.out.size))
        have N6 := Aside0.mk (N6.out.below hBs N6.out.lt)
        clear hBs
        refine hK _ _ HS.out (fun _ => ?_)
        clear hK K
        refine frame_ (a' := ?aa16) ?ha16 ?nx16
        case ha16 =>
          simp only [Go.Proofs.YtbpfmlckddhgbaaGreatDoorW.PrintLast.putAll, Act.put, List.setIfInBounds_toArray, List.set_cons_zero, List.set_cons_succ]
          rfl
        refine pure_ (i := 5) (N := some 21) (v := .tuple #[dgv, .int .i64 0]) #[true, true, true, true, true, true, false, false, true, false, false] rfl rfl (by kernel_rfl) (fun _ _ _ h => h) (Or.inl ⟨by rfl, fun _ => by go_simp⟩) rfl ?_
        refine pure_ (i := 6) (N := some 27) (v := dgv) #[true, true, true, true, true, true, true, false, true, false, false] rfl rfl (by kernel_rfl) (fun _ _ _ h => h) (Or.inl ⟨by rfl, fun _ => by go_simp⟩) rfl ?_
        refine pure_ (i := 7) (N := some 28) (v := .int .i64 0) #[true, true, true, true, true, true, true, true, true, false, false] rfl rfl (by kernel_rfl) (fun _ _ _ h => h) (Or.inl ⟨by rfl, fun _ => by go_simp⟩) rfl ?_
        refine frame_ (a' := ?aa17) ?ha17 ?nx17
        case ha17 =>
          simp only [Go.Proofs.YtbpfmlckddhgbaaGreatDoorW.PrintLast.putAll, Act.put, List.setIfInBounds_toArray, List.set_cons_zero, List.set_cons_succ]
          rfl
        exact hc (g, b6, V19) V19 ⟨rfl, HS.out, N6.out, L6.out⟩
    · rw [if_pos (by rfl)]
      refine wpo_alloc (some 6) rfl 27 rfl _ _ info27 ?_
      intro V21 b6 hb hW
      have hBs : Below X0.heap.size X0 V21 := by subst hW; exact (Below.refl _ _).alloc (Nat.le_refl _) _
      have N6 := Aside0.mk (show At V21 b6 27 (List.replicate 32 (bv 0)) by subst hW hb; exact At.new _ _ _)
      have L6 := Aside0.mk (show W5.heap.size ≤ b6 by rw [hb]; exact HS.out.size)
      clear hb hW
      have HS := Aside0.mk (HS.out.trans (hBs.mono HS.out.size))
      clear hBs
      refine hK _ _ HS.out (fun _ => ?_)
      clear hK K
      refine frame_ (a' := ?aa18) ?ha18 ?nx18
      case ha18 =>
        simp only [Go.Proofs.YtbpfmlckddhgbaaGreatDoorW.PrintLast.putAll, Act.put, List.setIfInBounds_toArray, List.set_cons_zero, List.set_cons_succ]
        rfl
      refine one_ (i := 1) (N := some 23) #[true, true, false, true, false, false, false, false, true, false, false] rfl rfl (by kernel_rfl) (by decide) (fun K hK => ?_)
      rw [if_pos (by rfl)]
      refine wpo_slice1 (some 23) rfl 28 35 _ rfl _ 1 [.slice A nd c] (.slice A nd c) rfl rfl tu28 info35 (by decide) (by decide) rfl ?_
      intro V23 g hb hW
      have hBs : Below V21.heap.size V21 V23 := by subst hW; exact (Below.refl _ _).alloc (Nat.le_refl _) _
      have GC := Aside0.mk (show V23.cell? ⟨g, 0, none⟩ = some (.slice A nd c) by subst hW hb; rw [(At.new V21 35 #[.slice A nd c]).cell]; rfl)
      clear hb hW
      have HS := Aside0.mk (HS.out.trans (hBs.mono HS.out.size))
      have N6 := Aside0.mk (N6.out.below hBs N6.out.lt)
      clear hBs
      refine hK _ _ HS.out (fun _ => ?_)
      clear hK K
      refine frame_ (a' := ?aa19) ?ha19 ?nx19
      case ha19 =>
        simp only [Go.Proofs.YtbpfmlckddhgbaaGreatDoorW.PrintLast.putAll, Act.put, List.setIfInBounds_toArray, List.set_cons_zero, List.set_cons_succ]
        rfl
      refine one_ (i := 2) (N := some 24) #[true, true, true, true, false, false, false, false, true, false, false] rfl rfl (by kernel_rfl) (by decide) (fun K hK => ?_)
      refine goes_ Tryz.func73 (by kernel_rfl) rfl #[.slice (some ⟨g, 0, none⟩) 1 1] (by rfl) rfl rfl (by simp only [List.map_toArray, List.map_cons, List.map_nil]; rfl) ?_
      refine (of_calls V23 g A c ds (by rw [← ND.out]; exact GC.out) (HR4.out.below HS.out) (by have := HL.out; omega) HC.out).mono ?_
      rintro e V25 ⟨rfl, hBs⟩
      rw [← SV.out]
      refine ⟨_, rfl, ?_⟩
      have HS := Aside0.mk (HS.out.trans (hBs.mono HS.out.size))
      have N6 := Aside0.mk (N6.out.below hBs N6.out.lt)
      clear hBs
      refine hK _ _ HS.out (fun _ => ?_)
      clear hK K
      refine frame_ (a' := ?aa20) ?ha20 ?nx20
      case ha20 =>
        simp only [Go.Proofs.YtbpfmlckddhgbaaGreatDoorW.PrintLast.putAll, Act.put, List.setIfInBounds_toArray, List.set_cons_zero, List.set_cons_succ]
        rfl
      refine one_ (i := 4) (N := some 26) #[true, true, true, true, true, false, false, false, true, false, false] rfl rfl (by kernel_rfl) (by decide) (fun K hK => ?_)
      refine goes_ Tryz.func72 (by kernel_rfl) rfl #[sv, .int .i64 (wd : Int)] (by rfl) rfl rfl (by simp only [List.map_toArray, List.map_cons, List.map_nil]; rfl) ?_
      have hcall := cut_calls V25 (shaL ds) (wd : Int) SL.out
      rw [← SV.out] at hcall
      refine hcall.mono ?_
      clear hcall
      rintro e V27 ⟨rfl, hBs⟩
      rw [if_pos OKW.out, Int.toNat_natCast, show cutD (shaL ds) wd = digL wd ds from DD.out, ← DGV.out]
      refine ⟨_, rfl, ?_⟩
      have HS := Aside0.mk (HS.out.trans (hBs.mono HS.out.size))
      have N6 := Aside0.mk (N6.out.below hBs N6.out.lt)
      clear hBs
      refine hK _ _ HS.out (fun _ => ?_)
      clear hK K
      refine frame_ (a' := ?aa21) ?ha21 ?nx21
      case ha21 =>
        simp only [Go.Proofs.YtbpfmlckddhgbaaGreatDoorW.PrintLast.putAll, Act.put, List.setIfInBounds_toArray, List.set_cons_zero, List.set_cons_succ]
        rfl
      refine pure_ (i := 5) (N := some 21) (v := .tuple #[dgv, .int .i64 0]) #[true, true, true, true, true, true, false, false, true, false, false] rfl rfl (by kernel_rfl) (fun _ _ _ h => h) (Or.inl ⟨by rfl, fun _ => by go_simp⟩) rfl ?_
      refine pure_ (i := 6) (N := some 27) (v := dgv) #[true, true, true, true, true, true, true, false, true, false, false] rfl rfl (by kernel_rfl) (fun _ _ _ h => h) (Or.inl ⟨by rfl, fun _ => by go_simp⟩) rfl ?_
      refine pure_ (i := 7) (N := some 28) (v := .int .i64 0) #[true, true, true, true, true, true, true, true, true, false, false] rfl rfl (by kernel_rfl) (fun _ _ _ h => h) (Or.inl ⟨by rfl, fun _ => by go_simp⟩) rfl ?_
      refine frame_ (a' := ?aa22) ?ha22 ?nx22
      case ha22 =>
        simp only [Go.Proofs.YtbpfmlckddhgbaaGreatDoorW.PrintLast.putAll, Act.put, List.setIfInBounds_toArray, List.set_cons_zero, List.set_cons_succ]
        rfl
      exact hc (g, b6, V27) V27 ⟨rfl, HS.out, N6.out, L6.out⟩
  rintro ⟨g, b6, Y0⟩ w' ⟨rfl, hY, hN6, hL6⟩
  simp only at hY hN6 hL6
  have HS := Aside0.mk hY
  have N6 := Aside0.mk hN6
  have L6 := Aside0.mk hL6
  clear hY hN6 hL6
  refine frame_ (a' := ?aa23) ?ha23 ?nx23
  case ha23 =>
    simp only [Go.Proofs.YtbpfmlckddhgbaaGreatDoorW.PrintLast.putAll, Act.put, List.setIfInBounds_toArray, List.set_cons_zero, List.set_cons_succ]
    rfl
  refine last_ (i := 9) (N := none) #[true, true, true, true, true, true, true, true, true, true, false] rfl rfl (by kernel_rfl) (by decide) (fun K hK => ?_)
  rw [if_pos (by rfl)]
  refine wpo_store_row none rfl 27 (.tmp 6) (.tmp 27) rfl b6 27 _ ((digL wd ds).map bv) rfl DGV.out N6.out (by rw [List.length_map, DL.out]; rfl) (by rw [List.length_map, DL.out]; exact size27) (one_bv _) ?_
  intro Y1 hW
  have hO1 : Only (· = b6) w'.heap.size w' Y1 := by subst hW; exact Only.setRow (S := (· = b6)) (Only.refl _ _ _) (.inl rfl) _
  have N6 := Aside0.mk (show At Y1 b6 27 ((digL wd ds).map bv) by subst hW; exact N6.out.setRow _)
  have HS := Aside0.mk (show Below W5.heap.size W5 Y1 from HS.out.trans (hO1.to_below HS.out.size (fun b hb => by have := L6.out; omega)))
  clear hO1 hW
  refine hK _ _ ?_
  clear hK K
  refine frame_ (a' := ?aa24) ?ha24 ?nx24
  case ha24 =>
    simp only [Go.Proofs.YtbpfmlckddhgbaaGreatDoorW.PrintLast.putAll, Act.put, List.setIfInBounds_toArray, List.set_cons_zero, List.set_cons_succ]
    rfl
  refine last_ (i := 10) (N := some 7) #[true, true, true, true, true, true, true, true, true, true, true] rfl rfl (by kernel_rfl) (by decide) (fun K hK => ?_)
  rw [if_pos (by rfl)]
  refine wpo_assign (some 7) rfl (.tmp 28) rfl (.int .i64 0) rfl ?_
  refine hK _ _ ?_
  clear hK K
  refine frame_ (a' := ?aa25) ?ha25 ?nx25
  case ha25 =>
    simp only [Go.Proofs.YtbpfmlckddhgbaaGreatDoorW.PrintLast.putAll, Act.put, List.setIfInBounds_toArray, List.set_cons_zero, List.set_cons_succ]
    rfl
  refine done_ (by kernel_rfl) ?_
  have BT := Aside0.mk (BT.out.below HS.out)
  have N5 := Aside0.mk (N5.out.below HS.out N5.out.lt)
  have L56 := Aside0.mk (show b5 ≠ b6 by have := L5b.out; have := L6.out; omega)
  go_wp2_with (first
    | (refine arm_load_row rfl 27 _ rfl b6 0 rfl ((digL wd ds).map bv) N6.out.rangeAll (by kernel_rfl) (by rw [List.length_map, DL.out]; exact size27) ?_
       intro v29 hv
       have V29 := Aside0.mk hv
       clear hv)
    | (refine arm_store_row rfl 27 _ _ rfl b5 27 _ ((digL wd ds).map bv) rfl V29.out N5.out (by rw [List.length_map, DL.out]; rfl) (by rw [List.length_map, DL.out]; exact size27) (one_bv _) ?_
       intro Y2 hW
       have hO2 : Only (· = b5) Y1.heap.size Y1 Y2 := by subst hW; exact Only.setRow (S := (· = b5)) (Only.refl _ _ _) (.inl rfl) _
       have N5 := Aside0.mk (show At Y2 b5 27 ((digL wd ds).map bv) by subst hW; exact N5.out.setRow _)
       have O2 := Aside0.mk hO2
       clear hW hO2)
    | fail)
  obtain ⟨dd, hdd, hrd⟩ : ∃ d, Tryz.prog.underlying 27 = some d ∧ d.isRow = true := ⟨_, tu27, rfl⟩
  refine bodyPost_ret (results_cell1 rfl _ _ b5 27 _ _ rfl N5.out hdd hrd (by rw [List.length_map, DL.out]; exact size27)) rfl ?_
  refine ⟨by rw [DGV.out]; rfl, ?_⟩
  have hOt : Below w.heap.size w Y1 := BW.out.trans (HS.out.mono BW.out.size)
  refine ⟨v, ?_, (Only.of_below hOt).trans (O2.out.mono hOt.size (fun b hb h => by have := L5.out; omega)), fun k hk => Or.inl hk⟩
  rw [show addB bl ds = bl by unfold addB; rw [if_pos HM.out]]
  refine (BT.out.only O2.out (fun b hb => ?_)).mono (fun b _ hb => hb.1) (fun b hb => hb.elim (DM.out b) (fun h1 => Nat.le_trans BW0.out h1))
  have h1 := L5.out
  have h2 := BT.out.ord
  have h3 := BW0.out
  exact ⟨fun h => h.2 hb, by omega, by omega, by omega, by omega⟩
set_option maxRecDepth 8000 in
set_option maxHeartbeats 1000000 in
theorem blob2_calls (w : World) (D : Nat → Prop) (base se bbl bm wdb wd : Nat) (bl : List (List UInt8)) (v : Value) (A : Option Addr) (c : Nat) (ds : List UInt8) (hB : BSt w D base se bbl bm wdb wd bl v) (hR : RdL w A ds) (hA : ds ≠ [] → ∀ ad, A = some ad → ad.block ≠ bm ∧ ad.block ≠ bbl ∧ v.ownBlock ≠ some ad.block) (hl : ds.length ≤ 1073741824) (hc : ds.length ≤ c)
    (hw1 : 1 ≤ wd) (hw2 : wd ≤ 32) (hbl : bl.length < 1048576) (hm : ds ∉ bl) :
    Calls Tryz.prog 70 #[.slice A ds.length c, .pointer (some ⟨se, 0, none⟩), .pointer (some ⟨bbl, 0, none⟩), .pointer (some ⟨wdb, 0, none⟩)] w fun e w' => e = .returned (digV (digL wd ds)) ∧ ∃ v', BSt w' (fun b => D b ∨ w.heap.size ≤ b) base se bbl bm wdb wd (addB bl ds) v' ∧ Only (fun b => b = bm ∨ b = bbl ∨ v.ownBlock = some b) w.heap.size w w' ∧ ∀ k, v'.ownBlock = some k → v.ownBlock = some k ∨ w.heap.size ≤ k := by
  have BT := Aside0.mk hB
  have HR := Aside0.mk hR
  have HA := Aside0.mk hA
  have HC := Aside0.mk hc
  have HL := Aside0.mk hl
  have HM := Aside0.mk hm
  have DL := Aside0.mk (digL_len wd ds hw2)
  have SL := Aside0.mk (shaL_len ds)
  have OKW := Aside0.mk (show wOk (wd : Int) = true by unfold wOk; simp; omega)
  have DD := Aside0.mk (show cutD (shaL ds) wd = digL wd ds from digL_eq wd ds)
  obtain ⟨nd, hnd⟩ : ∃ nd, nd = ds.length := ⟨_, rfl⟩
  have ND := Aside0.mk hnd
  rw [← hnd]
  have BW0 := Aside0.mk hB.ord.2.2.2.2
  have DM := Aside0.mk hB.dom
  have BM0 := Aside0.mk hB.map.lt
  obtain ⟨dgv, hdgv⟩ : ∃ dgv, dgv = digV (digL wd ds) := ⟨_, rfl⟩
  obtain ⟨sv, hsv⟩ : ∃ sv, sv = digV (shaL ds) := ⟨_, rfl⟩
  rw [← hdgv]
  have DGV := Aside0.mk hdgv
  have SV := Aside0.mk hsv
  clear hB hR hA hc hl hm hnd hdgv hsv
  go_enter Tryz.func70, Tryz.ntmps70
  go_wp2_with (first
    | (refine arm_alloc rfl 27 rfl _ _ info27 ?_; intro W5 b5 hb hW
       have hN : At W5 b5 27 (List.replicate 32 (bv 0)) := by subst hW hb; exact At.new _ _ _
       have hBB : Below w.heap.size w W5 := by subst hW; exact (Below.refl _ _).alloc (Nat.le_refl _) _
       have L5 := Aside0.mk (show w.heap.size ≤ b5 by rw [hb]; exact Nat.le_refl _)
       have N5 := Aside0.mk hN
       have BW := Aside0.mk hBB
       have BT := Aside0.mk ((BT.out.avoid L5.out).below hBB)
       have HR5 : RdL W5 A ds := HR.out.below hBB
       have RDW := Aside0.mk HR5
       have k1 : W5.cell? ⟨se, 0, none⟩ = some (.map (some bm)) := by rw [BT.out.seen.cell]; rfl
       have hcv : (convert 35 9 (.slice A nd c)).run Tryz.prog W5 = .ok (.string ⟨ds.toArray⟩) W5 := by rw [ND.out, ← str_of_bytes]; exact HR5.bytesIn.convert (by simp) c 35 5 9 tu35 tu5 tu9
       have hlk : (Instr.lookup 121 (.map (some bm)) (.string ⟨ds.toArray⟩) false).run Tryz.prog W5 = .ok (.int .i64 0) W5 := by
         have e := BT.out.map.look1 strKeyed tu121 (zero3 W5) (key := .string ⟨ds.toArray⟩) (d := ds) (keyOf_str ds (by have := HL.out; omega))
         rw [e]
         unfold seenM
         rw [if_neg HM.out]; rfl
       clear hN hb hW hBB HR5)
    | (refine arm_put rfl _ _ _ 121 rfl 9 3 strKeyed tu121 bm (seenM bl) bl.length rfl BT.out.map (by unfold maxLen; omega) (.string ⟨ds.toArray⟩) (.int .i64 1) ds rfl rfl (keyOf_str ds (by have := HL.out; omega)) ?_
       intro W6 hM6 hO6
       rw [seenM_put, show (seenM bl ds).isSome = false by unfold seenM; rw [if_neg HM.out]; rfl] at hM6
       have M6 := Aside0.mk hM6
       have O6 := Aside0.mk hO6
       have C6 := Aside0.mk (And.intro (hO6.at_ BT.out.seen.lt BT.out.ne.2.1 BT.out.seen) (And.intro (hO6.at_ BT.out.cell.lt BT.out.ne.2.2.1 BT.out.cell) (hO6.at_ BT.out.wdc.lt BT.out.ne.2.2.2.2 BT.out.wdc)))
       have B6 := Aside0.mk (BT.out.blobs.only hO6 (fun b hb h => by have h1 := BT.out.ord.2.2.1; rw [hb] at h; have h2 := BT.out.dom _ h; omega))
       have S6 := Aside0.mk hO6.size
       have N5o := Aside0.mk N5.out
       have N5 := Aside0.mk (hO6.at_ N5.out.lt (fun e => by have h1 := L5.out; have h2 := BM0.out; omega) N5.out)
       have L5c := Aside0.mk N5o.out.lt
       have hR6 : RdL W6 A ds := fun hne => by
         obtain ⟨ad, g1, g2, g3⟩ := RDW.out hne
         exact ⟨ad, g1, Nat.lt_of_lt_of_le g2 hO6.size, fun k hk => by rw [hO6.cell (by rw [add_block]; exact g2) (by rw [add_block]; exact (HA.out hne ad g1).1)]; exact g3 k hk⟩
       have RDW := Aside0.mk hR6
       clear hM6 hO6 hR6)
    | fail)
  have BW5 := Aside0.mk BW.out.size
  have W56 := Aside0.mk (show b5 < W5.heap.size from L5c.out)
  have hall : ∀ w', Only (fun b => v.ownBlock = some b) W6.heap.size W6 w' → True ∧ (Instr.loadAt 28 (.pointer (some ⟨bbl, 0, none⟩))).run Tryz.prog w' = .ok v w' := by
    intro w' hO
    exact ⟨True.intro, run_load1 28 ⟨bbl, 0, none⟩ v (by rw [(hO.at_ C6.out.2.1.lt (fun h => by have h1 := BT.out.dom _ (B6.out.fresh _ h); have h2 := BT.out.ord.2.1; omega) C6.out.2.1).cell]; rfl) (.slice 35) tu28 rfl⟩
  have HALL := Aside0.mk hall
  clear hall
  obtain ⟨vs, hvs1, hvs2, _⟩ := B6.out.row
  have VS := Aside0.mk (And.intro hvs1 hvs2)
  clear hvs1 hvs2
  refine takes_region (S := fun w' => Only (fun b => v.ownBlock = some b) W6.heap.size W6 w') (ds := [5]) [(0, false), (1, true)] 4 (by kernel_rfl) rfl (by kernel_rfl) (fun _ _ dd _ _ h => by cases dd <;> exact h) (Only.refl _ _ _).drew
    #[true, true, false, false, false, false] (by kernel_rfl) ?_
  refine tk (N := some 16) (v := ?vv3) (a' := ?aa3) rfl rfl rfl ?hr3 ?ha3 ?nx3
  case hr3 => (intro w' hS; have hF := (HALL.out w' (hS.resolve_left (by decide))).2; refine (run_load_op hF rfl rfl).trans ?_; with_reducible rfl)
  case ha3 => (simp only [Act.put, List.setIfInBounds_toArray, List.set_cons_zero, List.set_cons_succ]; rfl)
  refine tk (N := some 17) (v := ?vv4) (a' := ?aa4) rfl rfl rfl ?hr4 ?ha4 ?nx4
  case hr4 => (intro w' hS; first | (go_simp; with_reducible rfl) | (obtain hS | hS := hS; (· cases hS); have hF := HALL.out w' hS; go_simp; with_reducible rfl))
  case ha4 => (simp only [Act.put, List.setIfInBounds_toArray, List.set_cons_zero, List.set_cons_succ]; rfl)
  refine takes_done ?_
  refine one_ (i := 2) (N := some 18) #[true, true, true, false, false, false] rfl rfl (by kernel_rfl) (by decide) (fun K hK => ?_)
  refine goes_ Tryz.func71 (by kernel_rfl) rfl #[.slice A nd c] (by rfl) rfl rfl (by simp only [List.map_toArray, List.map_cons, List.map_nil]; rfl) ?_
  have hcall := clone_calls W6.drew A c ds RDW.out (by have := HL.out; omega)
  rw [← ND.out] at hcall
  refine hcall.mono ?_
  rintro e wz ⟨v', rfl, hO, hF, hBz⟩
  clear hcall
  obtain ⟨A1, c1, hv1, hc1, hr1, hb1⟩ := hO.rdl
  rw [← ND.out] at hv1
  subst hv1
  have HO := Aside0.mk (And.intro hc1 (And.intro hr1 hb1))
  have HF := Aside0.mk (show ∀ k, (Value.slice A1 nd c1).ownBlock = some k → W6.heap.size ≤ k from hF)
  have BZ := Aside0.mk (show Below W6.heap.size W6 wz from (Below.refl _ _).drew.trans hBz)
  clear hO hF hBz hc1 hr1 hb1
  refine ⟨_, rfl, ?_⟩
  refine hK _ _ (Only.of_below BZ.out) (fun _ => ?_)
  clear hK K
  refine frame_ (a' := ?aa26) ?ha26 ?nx26
  case ha26 =>
    simp only [Go.Proofs.YtbpfmlckddhgbaaGreatDoorW.PrintLast.putAll, Act.put, List.setIfInBounds_toArray, List.set_cons_zero, List.set_cons_succ]
    rfl
  refine one_ (i := 3) (N := some 19) #[true, true, true, true, false, false] rfl rfl (by kernel_rfl) (by decide) (fun K hK => ?_)
  rw [if_pos (by rfl)]
  refine wpo_slice1 (some 19) rfl 28 35 _ rfl _ 1 [.slice A1 nd c1] (.slice A1 nd c1) rfl rfl tu28 info35 (by decide) (by decide) rfl ?_
  intro W7 b7 hb hW
  have hB7 : Below wz.heap.size wz W7 := by subst hW; exact (Below.refl _ _).alloc (Nat.le_refl _) _
  have A7 := Aside0.mk (show At W7 b7 35 [.slice A1 nd c1] by subst hW hb; exact At.new _ _ _)
  have B7 := Aside0.mk (BZ.out.trans (hB7.mono BZ.out.size))
  have HO := Aside0.mk (show nd ≤ c1 ∧ RdL W7 A1 ds ∧ (ds ≠ [] → ∃ ad, A1 = some ad ∧ (Value.slice A1 nd c1).ownBlock = some ad.block) from ⟨by rw [ND.out]; exact HO.out.1, HO.out.2.1.below hB7, HO.out.2.2⟩)
  clear hb hW hB7
  refine hK _ _ (Only.of_below B7.out) (fun _ => ?_)
  clear hK K
  refine frame_ (a' := ?aa27) ?ha27 ?nx27
  case ha27 =>
    simp only [Go.Proofs.YtbpfmlckddhgbaaGreatDoorW.PrintLast.putAll, Act.put, List.setIfInBounds_toArray, List.set_cons_zero, List.set_cons_succ]
    rfl
  refine one_ (i := 4) (N := some 20) #[true, true, true, true, true, false] rfl rfl (by kernel_rfl) (by decide) (fun K hK => ?_)
  rw [if_pos (by rfl)]
  have hv7 : OwnR W7 35 1 v vs.length vs := (VS.out.1.below B7.out (fun k hk => VS.out.1.lt hk) : Own W7 35 v vs)
  refine wpo_appendR (some 20) rfl _ _ 28 35 rfl _ 1 24 tu28 info35b rfl (by decide) v vs.length vs [.slice A1 nd c1] rfl hv7 ⟨b7, 0, none⟩ 1 1 rfl rfl (fun i u hu => by rw [Addr.add_mid, A7.out.cell, Nat.zero_add]; exact hu) (by intro u hu; simp at hu; subst hu; rfl) (by have := VS.out.2; omega) (by have := VS.out.2; omega) ?_
  intro v8 W8 hv8 hO8 hq8
  have V8 := Aside0.mk (show Own W8 35 v8 (vs ++ [.slice A1 nd c1]) by unfold Own; rw [List.length_append]; exact hv8)
  have O8 := Aside0.mk hO8
  have Q8 := Aside0.mk hq8
  have OV8 := Aside0.mk (show v8.oneCell' = true by obtain ⟨A', c', hv, _⟩ := OwnR.shape hv8; rw [hv]; rfl)
  have S8 := Aside0.mk (show Only (fun b => v.ownBlock = some b) W6.heap.size W6 W8 from (Only.of_below B7.out).trans (hO8.mono B7.out.size (fun _ _ h => h)))
  clear hv7 hv8 hO8 hq8
  refine hK _ _ S8.out (fun _ => ?_)
  clear hK K
  refine frame_ (a' := ?aa28) ?ha28 ?nx28
  case ha28 =>
    simp only [Go.Proofs.YtbpfmlckddhgbaaGreatDoorW.PrintLast.putAll, Act.put, List.setIfInBounds_toArray, List.set_cons_zero, List.set_cons_succ]
    rfl
  refine last_ (i := 5) (N := none) #[true, true, true, true, true, true] rfl rfl (by kernel_rfl) (by decide) (fun K hK => ?_)
  rw [if_pos (by rfl)]
  have VB := Aside0.mk (show ∀ b, v.ownBlock = some b → base ≤ b ∧ b ≠ b5 from fun b hb => ⟨BT.out.dom b (B6.out.fresh b hb), (B6.out.fresh b hb).2⟩)
  have OR := Aside0.mk BT.out.ord
  have NE := Aside0.mk BT.out.ne
  have C8 := Aside0.mk (show At W8 bbl 28 [v] from S8.out.at_ C6.out.2.1.lt (fun h => by have h1 := VB.out _ h; have h2 := OR.out.2.1; omega) C6.out.2.1)
  refine wpo_store1 none rfl 28 _ _ rfl ⟨bbl, 0, none⟩ rfl v8 rfl (run_store1 28 ⟨bbl, 0, none⟩ v8 v (by rw [C8.out.cell]; rfl) (C8.out.frozen 0) size28 rfl OV8.out) ?_
  intro W9 hW
  have hO9 : Only (· = bbl) W8.heap.size W8 W9 := by subst hW; exact Only.setCell (S := (· = bbl)) (a := ⟨bbl, 0, none⟩) (Only.refl _ _ _) (.inl rfl) _
  have hC9 : At W9 bbl 28 [v8] := by subst hW; exact C8.out.setCell 0 _
  have O9 := Aside0.mk hO9
  have C9 := Aside0.mk hC9
  clear hW hO9 hC9
  refine hK _ _ ?_
  clear hK K
  refine frame_ (a' := ?aa29) ?ha29 ?nx29
  case ha29 =>
    simp only [Go.Proofs.YtbpfmlckddhgbaaGreatDoorW.PrintLast.putAll, Act.put, List.setIfInBounds_toArray, List.set_cons_zero, List.set_cons_succ]
    rfl
  refine done_ (by kernel_rfl) ?_
  have hS9 : Only (fun b => v.ownBlock = some b ∨ b = bbl) W6.heap.size W6 W9 := (S8.out.mono (Nat.le_refl _) (fun _ _ h => Or.inl h)).trans (O9.out.mono S8.out.size (fun _ _ h => Or.inr h))
  have hnot : ∀ b, b < base → b ≠ bbl → ¬ (v.ownBlock = some b ∨ b = bbl) := fun b h1 h2 h => h.elim (fun h => by have := (VB.out b h).1; omega) h2
  have hbl9 : Blobs W9 (fun b => (D b ∨ w.heap.size ≤ b) ∧ b ≠ b5) v8 (bl ++ [ds]) := by
    have h7 : Blobs W7 (fun b => (D b ∨ w.heap.size ≤ b) ∧ b ≠ b5) v bl := B6.out.below B7.out
    have h8 : Blobs W8 (fun b => (D b ∨ w.heap.size ≤ b) ∧ b ≠ b5) v8 (bl ++ [ds]) := by
      refine h7.snoc (VS.out.1.below B7.out (fun k hk => VS.out.1.lt hk)) (by rw [← ND.out]; exact V8.out) (by rw [← ND.out]; exact HO.out.1) O8.out ?_ (fun hne => ?_)
      · rcases Q8.out with h | h
        · exact Or.inl h
        · exact Or.inr ⟨_, h, Nat.le_refl _, by have h1 := B7.out.size; have h2 := S6.out; have h3 := OR.out.2.2.2.2; have h4 := W56.out; have h5 := BW5.out; exact ⟨Or.inr (by omega), by omega⟩⟩
      · obtain ⟨ad, g1, g2⟩ := HO.out.2.2 hne
        obtain ⟨ad', g3, g4, g5⟩ := HO.out.2.1 hne
        rw [g1] at g3; injection g3 with g3; subst g3
        have h1 := HF.out _ g2
        have h2 := S6.out
        have h3 := OR.out.2.2.2.2
        have h4 := W56.out
        have h5 := BW5.out
        exact ⟨ad, g1, ⟨Or.inr (by omega), by omega⟩, g4, fun h => by have := VS.out.1.lt h; omega, g5⟩
    exact h8.only O9.out (fun b hb h => by have h1 := OR.out.2.1; rw [hb] at h; have h2 := BT.out.dom _ h; omega)
  have hBT : BSt W9 (fun b => (D b ∨ w.heap.size ≤ b) ∧ b ≠ b5) base se bbl bm wdb wd (bl ++ [ds]) v8 :=
    ⟨hS9.at_ C6.out.1.lt (hnot se OR.out.1 NE.out.1) C6.out.1, C9.out, hS9.at_ C6.out.2.2.lt (hnot wdb OR.out.2.2.2.1 NE.out.2.2.2.1) C6.out.2.2, by rw [List.length_append]; exact M6.out.only hS9 M6.out.lt (hnot bm OR.out.2.2.1 (Ne.symm NE.out.2.2.1)), hbl9, BT.out.dom, ⟨OR.out.1, OR.out.2.1, OR.out.2.2.1, OR.out.2.2.2.1, by have h1 := hS9.size; have h2 := S6.out; have h3 := OR.out.2.2.2.2; omega⟩, NE.out⟩
  have hR9 : RdL W9 A ds := fun hne => by
    obtain ⟨ad, g1, g2, g3⟩ := RDW.out hne
    exact ⟨ad, g1, Nat.lt_of_lt_of_le g2 hS9.size, fun k hk => by rw [hS9.cell (by rw [add_block]; exact g2) (by rw [add_block]; intro h; rcases h with h | h; exact (HA.out hne ad g1).2.2 h; exact (HA.out hne ad g1).2.1 h)]; exact g3 k hk⟩
  have N5 := Aside0.mk (hS9.at_ N5.out.lt (fun h => by rcases h with h | h; exact (VB.out _ h).2 rfl; have h1 := OR.out.2.1; have h2 := L5.out; have h3 := BW0.out; omega) N5.out)
  have RDW := Aside0.mk hR9
  have OW := Aside0.mk (show Only (fun b => b = bm ∨ b = bbl ∨ v.ownBlock = some b) w.heap.size w W9 from ((Only.of_below BW.out).trans ((O6.out.mono BW.out.size (fun _ _ h => Or.inl h)))).trans (hS9.mono (Nat.le_trans BW.out.size S6.out) (fun _ _ h => Or.inr h.symm)))
  have V9 := Aside0.mk (show ∀ k, v8.ownBlock = some k → v.ownBlock = some k ∨ w.heap.size ≤ k from fun k hk => by
    rcases Q8.out with h | h
    · rw [h] at hk; exact Or.inl hk
    · rw [h] at hk; injection hk with hk; right; have h1 := B7.out.size; have h2 := S6.out; have h3 := BW.out.size; omega)
  have BT := Aside0.mk hBT
  clear hS9 hnot hbl9 hBT hR9
  go_wp2_with fail
  have L5b := Aside0.mk N5.out.lt
  have hall : ∀ w', Below W9.heap.size W9 w' → w'.cell? ⟨wdb, 0, none⟩ = some (.int .i64 (wd : Int)) := by
    intro w' hB
    rw [(BT.out.below hB).wdc.cell]; rfl
  have HALL := Aside0.mk hall
  clear hall
  have HR4 := Aside0.mk (show RdL W9 A ds from RDW.out)
  refine takes_region (S := fun w' => Below W9.heap.size W9 w') (ds := [9, 10]) [(0, true), (3, false)] 9 (by kernel_rfl) rfl (by kernel_rfl) (fun _ _ dd _ _ h => by cases dd <;> exact h) (Below.refl _ _).drew
    #[true, false, false, true, false, false, false, false, false, false, false] (by kernel_rfl) ?_
  refine tk (N := some 22) (v := ?vv5) (a' := ?aa5) rfl rfl rfl ?hr5 ?ha5 ?nx5
  case hr5 => (intro w' hS; first | (go_simp; with_reducible rfl) | (obtain hS | hS := hS; (· cases hS); have hF := HALL.out w' hS; go_simp; with_reducible rfl))
  case ha5 => (simp only [Act.put, List.setIfInBounds_toArray, List.set_cons_zero, List.set_cons_succ]; rfl)
  refine tk (N := some 25) (v := ?vv6) (a' := ?aa6) rfl rfl rfl ?hr6 ?ha6 ?nx6
  case hr6 => (intro w' hS; first | (go_simp; with_reducible rfl) | (obtain hS | hS := hS; (· cases hS); have hF := HALL.out w' hS; go_simp; with_reducible rfl))
  case ha6 => (simp only [Act.put, List.setIfInBounds_toArray, List.set_cons_zero, List.set_cons_succ]; rfl)
  refine takes_done ?_
  have HS := Aside0.mk (show Below W9.heap.size W9 W9.drew from (Below.refl _ _).drew)
  obtain ⟨X0, hX0⟩ : ∃ X0, X0 = W9.drew := ⟨_, rfl⟩
  rw [← hX0] at HS ⊢
  clear hX0
  refine join_ (σ := Nat × Nat × World) 2 #[true, true, true, true, true, true, true, true, true, false, false] (fun s => [(23, .slice (some ⟨s.1, 0, none⟩) 1 1), (24, sv), (26, .tuple #[dgv, .int .i64 0]), (21, .tuple #[dgv, .int .i64 0]), (27, dgv), (28, .int .i64 0), (6, .pointer (some ⟨s.2.1, 0, none⟩))]) (fun s w' => w' = s.2.2 ∧ Below W9.heap.size W9 s.2.2 ∧ At s.2.2 s.2.1 27 (List.replicate 32 (bv 0)) ∧ W9.heap.size ≤ s.2.1) ?_ (fun hc => ?_)
  rotate_left
  · simp only [putAll, Act.put, List.setIfInBounds_toArray, List.set_cons_zero, List.set_cons_succ] at hc
    refine two_ (i := 1) (j := 8) (Ni := some 23) (Nj := some 6) #[true, true, false, true, false, false, false, false, false, false, false] #[true, false, false, true, false, false, false, false, true, false, false] rfl rfl rfl rfl (by kernel_rfl) (by decide) (by decide) (fun K hK => ?_) (fun K hK => ?_)
    · rw [if_pos (by rfl)]
      refine wpo_slice1 (some 23) rfl 28 35 _ rfl _ 1 [.slice A nd c] (.slice A nd c) rfl rfl tu28 info35 (by decide) (by decide) rfl ?_
      intro V31 g hb hW
      have hBs : Below X0.heap.size X0 V31 := by subst hW; exact (Below.refl _ _).alloc (Nat.le_refl _) _
      have GC := Aside0.mk (show V31.cell? ⟨g, 0, none⟩ = some (.slice A nd c) by subst hW hb; rw [(At.new X0 35 #[.slice A nd c]).cell]; rfl)
      clear hb hW
      have HS := Aside0.mk (HS.out.trans (hBs.mono HS.out.size))
      clear hBs
      refine hK _ _ HS.out (fun _ => ?_)
      clear hK K
      refine frame_ (a' := ?aa30) ?ha30 ?nx30
      case ha30 =>
        simp only [Go.Proofs.YtbpfmlckddhgbaaGreatDoorW.PrintLast.putAll, Act.put, List.setIfInBounds_toArray, List.set_cons_zero, List.set_cons_succ]
        rfl
      refine two_ (i := 2) (j := 8) (Ni := some 24) (Nj := some 6) #[true, true, true, true, false, false, false, false, false, false, false] #[true, true, false, true, false, false, false, false, true, false, false] rfl rfl rfl rfl (by kernel_rfl) (by decide) (by decide) (fun K hK => ?_) (fun K hK => ?_)
      · refine goes_ Tryz.func73 (by kernel_rfl) rfl #[.slice (some ⟨g, 0, none⟩) 1 1] (by rfl) rfl rfl (by simp only [List.map_toArray, List.map_cons, List.map_nil]; rfl) ?_
        refine (of_calls V31 g A c ds (by rw [← ND.out]; exact GC.out) (HR4.out.below HS.out) (by have := HL.out; omega) HC.out).mono ?_
        rintro e V33 ⟨rfl, hBs⟩
        rw [← SV.out]
        refine ⟨_, rfl, ?_⟩
        have HS := Aside0.mk (HS.out.trans (hBs.mono HS.out.size))
        clear hBs
        refine hK _ _ HS.out (fun _ => ?_)
        clear hK K
        refine frame_ (a' := ?aa31) ?ha31 ?nx31
        case ha31 =>
          simp only [Go.Proofs.YtbpfmlckddhgbaaGreatDoorW.PrintLast.putAll, Act.put, List.setIfInBounds_toArray, List.set_cons_zero, List.set_cons_succ]
          rfl
        refine two_ (i := 4) (j := 8) (Ni := some 26) (Nj := some 6) #[true, true, true, true, true, false, false, false, false, false, false] #[true, true, true, true, false, false, false, false, true, false, false] rfl rfl rfl rfl (by kernel_rfl) (by decide) (by decide) (fun K hK => ?_) (fun K hK => ?_)
        · refine goes_ Tryz.func72 (by kernel_rfl) rfl #[sv, .int .i64 (wd : Int)] (by rfl) rfl rfl (by simp only [List.map_toArray, List.map_cons, List.map_nil]; rfl) ?_
          have hcall := cut_calls V33 (shaL ds) (wd : Int) SL.out
          rw [← SV.out] at hcall
          refine hcall.mono ?_
          clear hcall
          rintro e V35 ⟨rfl, hBs⟩
          rw [if_pos OKW.out, Int.toNat_natCast, show cutD (shaL ds) wd = digL wd ds from DD.out, ← DGV.out]
          refine ⟨_, rfl, ?_⟩
          have HS := Aside0.mk (HS.out.trans (hBs.mono HS.out.size))
          clear hBs
          refine hK _ _ HS.out (fun _ => ?_)
          clear hK K
          refine frame_ (a' := ?aa32) ?ha32 ?nx32
          case ha32 =>
            simp only [Go.Proofs.YtbpfmlckddhgbaaGreatDoorW.PrintLast.putAll, Act.put, List.setIfInBounds_toArray, List.set_cons_zero, List.set_cons_succ]
            rfl
          refine pure_ (i := 5) (N := some 21) (v := .tuple #[dgv, .int .i64 0]) #[true, true, true, true, true, true, false, false, false, false, false] rfl rfl (by kernel_rfl) (fun _ _ _ h => h) (Or.inl ⟨by rfl, fun _ => by go_simp⟩) rfl ?_
          refine pure_ (i := 6) (N := some 27) (v := dgv) #[true, true, true, true, true, true, true, false, false, false, false] rfl rfl (by kernel_rfl) (fun _ _ _ h => h) (Or.inl ⟨by rfl, fun _ => by go_simp⟩) rfl ?_
          refine pure_ (i := 7) (N := some 28) (v := .int .i64 0) #[true, true, true, true, true, true, true, true, false, false, false] rfl rfl (by kernel_rfl) (fun _ _ _ h => h) (Or.inl ⟨by rfl, fun _ => by go_simp⟩) rfl ?_
          refine one_ (i := 8) (N := some 6) #[true, true, true, true, true, true, true, true, true, false, false] rfl rfl (by kernel_rfl) (by decide) (fun K hK => ?_)
          rw [if_pos (by rfl)]
          refine wpo_alloc (some 6) rfl 27 rfl _ _ info27 ?_
          intro V37 b6 hb hW
          have hBs : Below V35.heap.size V35 V37 := by subst hW; exact (Below.refl _ _).alloc (Nat.le_refl _) _
          have N6 := Aside0.mk (show At V37 b6 27 (List.replicate 32 (bv 0)) by subst hW hb; exact At.new _ _ _)
          have L6 := Aside0.mk (show W9.heap.size ≤ b6 by rw [hb]; exact HS.out.size)
          clear hb hW
          have HS := Aside0.mk (HS.out.trans (hBs.mono HS.out.size))
          clear hBs
          refine hK _ _ HS.out (fun _ => ?_)
          clear hK K
          refine frame_ (a' := ?aa33) ?ha33 ?nx33
          case ha33 =>
            simp only [Go.Proofs.YtbpfmlckddhgbaaGreatDoorW.PrintLast.putAll, Act.put, List.setIfInBounds_toArray, List.set_cons_zero, List.set_cons_succ]
            rfl
          exact hc (g, b6, V37) V37 ⟨rfl, HS.out, N6.out, L6.out⟩
        · rw [if_pos (by rfl)]
          refine wpo_alloc (some 6) rfl 27 rfl _ _ info27 ?_
          intro V39 b6 hb hW
          have hBs : Below V33.heap.size V33 V39 := by subst hW; exact (Below.refl _ _).alloc (Nat.le_refl _) _
          have N6 := Aside0.mk (show At V39 b6 27 (List.replicate 32 (bv 0)) by subst hW hb; exact At.new _ _ _)
          have L6 := Aside0.mk (show W9.heap.size ≤ b6 by rw [hb]; exact HS.out.size)
          clear hb hW
          have HS := Aside0.mk (HS.out.trans (hBs.mono HS.out.size))
          clear hBs
          refine hK _ _ HS.out (fun _ => ?_)
          clear hK K
          refine frame_ (a' := ?aa34) ?ha34 ?nx34
          case ha34 =>
            simp only [Go.Proofs.YtbpfmlckddhgbaaGreatDoorW.PrintLast.putAll, Act.put, List.setIfInBounds_toArray, List.set_cons_zero, List.set_cons_succ]
            rfl
          refine one_ (i := 4) (N := some 26) #[true, true, true, true, true, false, false, false, true, false, false] rfl rfl (by kernel_rfl) (by decide) (fun K hK => ?_)
          refine goes_ Tryz.func72 (by kernel_rfl) rfl #[sv, .int .i64 (wd : Int)] (by rfl) rfl rfl (by simp only [List.map_toArray, List.map_cons, List.map_nil]; rfl) ?_
          have hcall := cut_calls V39 (shaL ds) (wd : Int) SL.out
          rw [← SV.out] at hcall
          refine hcall.mono ?_
          clear hcall
          rintro e V41 ⟨rfl, hBs⟩
          rw [if_pos OKW.out, Int.toNat_natCast, show cutD (shaL ds) wd = digL wd ds from DD.out, ← DGV.out]
          refine ⟨_, rfl, ?_⟩
          have HS := Aside0.mk (HS.out.trans (hBs.mono HS.out.size))
          have N6 := Aside0.mk (N6.out.below hBs N6.out.lt)
          clear hBs
          refine hK _ _ HS.out (fun _ => ?_)
          clear hK K
          refine frame_ (a' := ?aa35) ?ha35 ?nx35
          case ha35 =>
            simp only [Go.Proofs.YtbpfmlckddhgbaaGreatDoorW.PrintLast.putAll, Act.put, List.setIfInBounds_toArray, List.set_cons_zero, List.set_cons_succ]
            rfl
          refine pure_ (i := 5) (N := some 21) (v := .tuple #[dgv, .int .i64 0]) #[true, true, true, true, true, true, false, false, true, false, false] rfl rfl (by kernel_rfl) (fun _ _ _ h => h) (Or.inl ⟨by rfl, fun _ => by go_simp⟩) rfl ?_
          refine pure_ (i := 6) (N := some 27) (v := dgv) #[true, true, true, true, true, true, true, false, true, false, false] rfl rfl (by kernel_rfl) (fun _ _ _ h => h) (Or.inl ⟨by rfl, fun _ => by go_simp⟩) rfl ?_
          refine pure_ (i := 7) (N := some 28) (v := .int .i64 0) #[true, true, true, true, true, true, true, true, true, false, false] rfl rfl (by kernel_rfl) (fun _ _ _ h => h) (Or.inl ⟨by rfl, fun _ => by go_simp⟩) rfl ?_
          refine frame_ (a' := ?aa36) ?ha36 ?nx36
          case ha36 =>
            simp only [Go.Proofs.YtbpfmlckddhgbaaGreatDoorW.PrintLast.putAll, Act.put, List.setIfInBounds_toArray, List.set_cons_zero, List.set_cons_succ]
            rfl
          exact hc (g, b6, V41) V41 ⟨rfl, HS.out, N6.out, L6.out⟩
      · rw [if_pos (by rfl)]
        refine wpo_alloc (some 6) rfl 27 rfl _ _ info27 ?_
        intro V43 b6 hb hW
        have hBs : Below V31.heap.size V31 V43 := by subst hW; exact (Below.refl _ _).alloc (Nat.le_refl _) _
        have N6 := Aside0.mk (show At V43 b6 27 (List.replicate 32 (bv 0)) by subst hW hb; exact At.new _ _ _)
        have L6 := Aside0.mk (show W9.heap.size ≤ b6 by rw [hb]; exact HS.out.size)
        clear hb hW
        have HS := Aside0.mk (HS.out.trans (hBs.mono HS.out.size))
        have GC := Aside0.mk (show V43.cell? ⟨g, 0, none⟩ = some (.slice A nd c) by rw [hBs.cell (World.block_lt_of_cell? _ _ GC.out)]; exact GC.out)
        clear hBs
        refine hK _ _ HS.out (fun _ => ?_)
        clear hK K
        refine frame_ (a' := ?aa37) ?ha37 ?nx37
        case ha37 =>
          simp only [Go.Proofs.YtbpfmlckddhgbaaGreatDoorW.PrintLast.putAll, Act.put, List.setIfInBounds_toArray, List.set_cons_zero, List.set_cons_succ]
          rfl
        refine one_ (i := 2) (N := some 24) #[true, true, true, true, false, false, false, false, true, false, false] rfl rfl (by kernel_rfl) (by decide) (fun K hK => ?_)
        refine goes_ Tryz.func73 (by kernel_rfl) rfl #[.slice (some ⟨g, 0, none⟩) 1 1] (by rfl) rfl rfl (by simp only [List.map_toArray, List.map_cons, List.map_nil]; rfl) ?_
        refine (of_calls V43 g A c ds (by rw [← ND.out]; exact GC.out) (HR4.out.below HS.out) (by have := HL.out; omega) HC.out).mono ?_
        rintro e V45 ⟨rfl, hBs⟩
        rw [← SV.out]
        refine ⟨_, rfl, ?_⟩
        have HS := Aside0.mk (HS.out.trans (hBs.mono HS.out.size))
        have N6 := Aside0.mk (N6.out.below hBs N6.out.lt)
        clear hBs
        refine hK _ _ HS.out (fun _ => ?_)
        clear hK K
        refine frame_ (a' := ?aa38) ?ha38 ?nx38
        case ha38 =>
          simp only [Go.Proofs.YtbpfmlckddhgbaaGreatDoorW.PrintLast.putAll, Act.put, List.setIfInBounds_toArray, List.set_cons_zero, List.set_cons_succ]
          rfl
        refine one_ (i := 4) (N := some 26) #[true, true, true, true, true, false, false, false, true, false, false] rfl rfl (by kernel_rfl) (by decide) (fun K hK => ?_)
        refine goes_ Tryz.func72 (by kernel_rfl) rfl #[sv, .int .i64 (wd : Int)] (by rfl) rfl rfl (by simp only [List.map_toArray, List.map_cons, List.map_nil]; rfl) ?_
        have hcall := cut_calls V45 (shaL ds) (wd : Int) SL.out
        rw [← SV.out] at hcall
        refine hcall.mono ?_
        clear hcall
        rintro e V47 ⟨rfl, hBs⟩
        rw [if_pos OKW.out, Int.toNat_natCast, show cutD (shaL ds) wd = digL wd ds from DD.out, ← DGV.out]
        refine ⟨_, rfl, ?_⟩
        have HS := Aside0.mk (HS.out.trans (hBs.mono HS.out.size))
        have N6 := Aside0.mk (N6.out.below hBs N6.out.lt)
        clear hBs
        refine hK _ _ HS.out (fun _ => ?_)
        clear hK K
        refine frame_ (a' := ?aa39) ?ha39 ?nx39
        case ha39 =>
          simp only [Go.Proofs.YtbpfmlckddhgbaaGreatDoorW.PrintLast.putAll, Act.put, List.setIfInBounds_toArray, List.set_cons_zero, List.set_cons_succ]
          rfl
        refine pure_ (i := 5) (N := some 21) (v := .tuple #[dgv, .int .i64 0]) #[true, true, true, true, true, true, false, false, true, false, false] rfl rfl (by kernel_rfl) (fun _ _ _ h => h) (Or.inl ⟨by rfl, fun _ => by go_simp⟩) rfl ?_
        refine pure_ (i := 6) (N := some 27) (v := dgv) #[true, true, true, true, true, true, true, false, true, false, false] rfl rfl (by kernel_rfl) (fun _ _ _ h => h) (Or.inl ⟨by rfl, fun _ => by go_simp⟩) rfl ?_
        refine pure_ (i := 7) (N := some 28) (v := .int .i64 0) #[true, true, true, true, true, true, true, true, true, false, false] rfl rfl (by kernel_rfl) (fun _ _ _ h => h) (Or.inl ⟨by rfl, fun _ => by go_simp⟩) rfl ?_
        refine frame_ (a' := ?aa40) ?ha40 ?nx40
        case ha40 =>
          simp only [Go.Proofs.YtbpfmlckddhgbaaGreatDoorW.PrintLast.putAll, Act.put, List.setIfInBounds_toArray, List.set_cons_zero, List.set_cons_succ]
          rfl
        exact hc (g, b6, V47) V47 ⟨rfl, HS.out, N6.out, L6.out⟩
    · rw [if_pos (by rfl)]
      refine wpo_alloc (some 6) rfl 27 rfl _ _ info27 ?_
      intro V49 b6 hb hW
      have hBs : Below X0.heap.size X0 V49 := by subst hW; exact (Below.refl _ _).alloc (Nat.le_refl _) _
      have N6 := Aside0.mk (show At V49 b6 27 (List.replicate 32 (bv 0)) by subst hW hb; exact At.new _ _ _)
      have L6 := Aside0.mk (show W9.heap.size ≤ b6 by rw [hb]; exact HS.out.size)
      clear hb hW
      have HS := Aside0.mk (HS.out.trans (hBs.mono HS.out.size))
      clear hBs
      refine hK _ _ HS.out (fun _ => ?_)
      clear hK K
      refine frame_ (a' := ?aa41) ?ha41 ?nx41
      case ha41 =>
        simp only [Go.Proofs.YtbpfmlckddhgbaaGreatDoorW.PrintLast.putAll, Act.put, List.setIfInBounds_toArray, List.set_cons_zero, List.set_cons_succ]
        rfl
      refine one_ (i := 1) (N := some 23) #[true, true, false, true, false, false, false, false, true, false, false] rfl rfl (by kernel_rfl) (by decide) (fun K hK => ?_)
      rw [if_pos (by rfl)]
      refine wpo_slice1 (some 23) rfl 28 35 _ rfl _ 1 [.slice A nd c] (.slice A nd c) rfl rfl tu28 info35 (by decide) (by decide) rfl ?_
      intro V51 g hb hW
      have hBs : Below V49.heap.size V49 V51 := by subst hW; exact (Below.refl _ _).alloc (Nat.le_refl _) _
      have GC := Aside0.mk (show V51.cell? ⟨g, 0, none⟩ = some (.slice A nd c) by subst hW hb; rw [(At.new V49 35 #[.slice A nd c]).cell]; rfl)
      clear hb hW
      have HS := Aside0.mk (HS.out.trans (hBs.mono HS.out.size))
      have N6 := Aside0.mk (N6.out.below hBs N6.out.lt)
      clear hBs
      refine hK _ _ HS.out (fun _ => ?_)
      clear hK K
      refine frame_ (a' := ?aa42) ?ha42 ?nx42
      case ha42 =>
        simp only [Go.Proofs.YtbpfmlckddhgbaaGreatDoorW.PrintLast.putAll, Act.put, List.setIfInBounds_toArray, List.set_cons_zero, List.set_cons_succ]
        rfl
      refine one_ (i := 2) (N := some 24) #[true, true, true, true, false, false, false, false, true, false, false] rfl rfl (by kernel_rfl) (by decide) (fun K hK => ?_)
      refine goes_ Tryz.func73 (by kernel_rfl) rfl #[.slice (some ⟨g, 0, none⟩) 1 1] (by rfl) rfl rfl (by simp only [List.map_toArray, List.map_cons, List.map_nil]; rfl) ?_
      refine (of_calls V51 g A c ds (by rw [← ND.out]; exact GC.out) (HR4.out.below HS.out) (by have := HL.out; omega) HC.out).mono ?_
      rintro e V53 ⟨rfl, hBs⟩
      rw [← SV.out]
      refine ⟨_, rfl, ?_⟩
      have HS := Aside0.mk (HS.out.trans (hBs.mono HS.out.size))
      have N6 := Aside0.mk (N6.out.below hBs N6.out.lt)
      clear hBs
      refine hK _ _ HS.out (fun _ => ?_)
      clear hK K
      refine frame_ (a' := ?aa43) ?ha43 ?nx43
      case ha43 =>
        simp only [Go.Proofs.YtbpfmlckddhgbaaGreatDoorW.PrintLast.putAll, Act.put, List.setIfInBounds_toArray, List.set_cons_zero, List.set_cons_succ]
        rfl
      refine one_ (i := 4) (N := some 26) #[true, true, true, true, true, false, false, false, true, false, false] rfl rfl (by kernel_rfl) (by decide) (fun K hK => ?_)
      refine goes_ Tryz.func72 (by kernel_rfl) rfl #[sv, .int .i64 (wd : Int)] (by rfl) rfl rfl (by simp only [List.map_toArray, List.map_cons, List.map_nil]; rfl) ?_
      have hcall := cut_calls V53 (shaL ds) (wd : Int) SL.out
      rw [← SV.out] at hcall
      refine hcall.mono ?_
      clear hcall
      rintro e V55 ⟨rfl, hBs⟩
      rw [if_pos OKW.out, Int.toNat_natCast, show cutD (shaL ds) wd = digL wd ds from DD.out, ← DGV.out]
      refine ⟨_, rfl, ?_⟩
      have HS := Aside0.mk (HS.out.trans (hBs.mono HS.out.size))
      have N6 := Aside0.mk (N6.out.below hBs N6.out.lt)
      clear hBs
      refine hK _ _ HS.out (fun _ => ?_)
      clear hK K
      refine frame_ (a' := ?aa44) ?ha44 ?nx44
      case ha44 =>
        simp only [Go.Proofs.YtbpfmlckddhgbaaGreatDoorW.PrintLast.putAll, Act.put, List.setIfInBounds_toArray, List.set_cons_zero, List.set_cons_succ]
        rfl
      refine pure_ (i := 5) (N := some 21) (v := .tuple #[dgv, .int .i64 0]) #[true, true, true, true, true, true, false, false, true, false, false] rfl rfl (by kernel_rfl) (fun _ _ _ h => h) (Or.inl ⟨by rfl, fun _ => by go_simp⟩) rfl ?_
      refine pure_ (i := 6) (N := some 27) (v := dgv) #[true, true, true, true, true, true, true, false, true, false, false] rfl rfl (by kernel_rfl) (fun _ _ _ h => h) (Or.inl ⟨by rfl, fun _ => by go_simp⟩) rfl ?_
      refine pure_ (i := 7) (N := some 28) (v := .int .i64 0) #[true, true, true, true, true, true, true, true, true, false, false] rfl rfl (by kernel_rfl) (fun _ _ _ h => h) (Or.inl ⟨by rfl, fun _ => by go_simp⟩) rfl ?_
      refine frame_ (a' := ?aa45) ?ha45 ?nx45
      case ha45 =>
        simp only [Go.Proofs.YtbpfmlckddhgbaaGreatDoorW.PrintLast.putAll, Act.put, List.setIfInBounds_toArray, List.set_cons_zero, List.set_cons_succ]
        rfl
      exact hc (g, b6, V55) V55 ⟨rfl, HS.out, N6.out, L6.out⟩
  rintro ⟨g, b6, Y0⟩ w' ⟨rfl, hY, hN6, hL6⟩
  simp only at hY hN6 hL6
  have HS := Aside0.mk hY
  have N6 := Aside0.mk hN6
  have L6 := Aside0.mk hL6
  clear hY hN6 hL6
  refine frame_ (a' := ?aa46) ?ha46 ?nx46
  case ha46 =>
    simp only [Go.Proofs.YtbpfmlckddhgbaaGreatDoorW.PrintLast.putAll, Act.put, List.setIfInBounds_toArray, List.set_cons_zero, List.set_cons_succ]
    rfl
  refine last_ (i := 9) (N := none) #[true, true, true, true, true, true, true, true, true, true, false] rfl rfl (by kernel_rfl) (by decide) (fun K hK => ?_)
  rw [if_pos (by rfl)]
  refine wpo_store_row none rfl 27 (.tmp 6) (.tmp 27) rfl b6 27 _ ((digL wd ds).map bv) rfl DGV.out N6.out (by rw [List.length_map, DL.out]; rfl) (by rw [List.length_map, DL.out]; exact size27) (one_bv _) ?_
  intro Y1 hW
  have hO1 : Only (· = b6) w'.heap.size w' Y1 := by subst hW; exact Only.setRow (S := (· = b6)) (Only.refl _ _ _) (.inl rfl) _
  have N6 := Aside0.mk (show At Y1 b6 27 ((digL wd ds).map bv) by subst hW; exact N6.out.setRow _)
  have HS := Aside0.mk (show Below W9.heap.size W9 Y1 from HS.out.trans (hO1.to_below HS.out.size (fun b hb => by have := L6.out; omega)))
  clear hO1 hW
  refine hK _ _ ?_
  clear hK K
  refine frame_ (a' := ?aa47) ?ha47 ?nx47
  case ha47 =>
    simp only [Go.Proofs.YtbpfmlckddhgbaaGreatDoorW.PrintLast.putAll, Act.put, List.setIfInBounds_toArray, List.set_cons_zero, List.set_cons_succ]
    rfl
  refine last_ (i := 10) (N := some 7) #[true, true, true, true, true, true, true, true, true, true, true] rfl rfl (by kernel_rfl) (by decide) (fun K hK => ?_)
  rw [if_pos (by rfl)]
  refine wpo_assign (some 7) rfl (.tmp 28) rfl (.int .i64 0) rfl ?_
  refine hK _ _ ?_
  clear hK K
  refine frame_ (a' := ?aa48) ?ha48 ?nx48
  case ha48 =>
    simp only [Go.Proofs.YtbpfmlckddhgbaaGreatDoorW.PrintLast.putAll, Act.put, List.setIfInBounds_toArray, List.set_cons_zero, List.set_cons_succ]
    rfl
  refine done_ (by kernel_rfl) ?_
  have BT := Aside0.mk (BT.out.below HS.out)
  have N5 := Aside0.mk (N5.out.below HS.out N5.out.lt)
  have L56 := Aside0.mk (show b5 ≠ b6 by have := L5b.out; have := L6.out; omega)
  go_wp2_with (first
    | (refine arm_load_row rfl 27 _ rfl b6 0 rfl ((digL wd ds).map bv) N6.out.rangeAll (by kernel_rfl) (by rw [List.length_map, DL.out]; exact size27) ?_
       intro v29 hv
       have V29 := Aside0.mk hv
       clear hv)
    | (refine arm_store_row rfl 27 _ _ rfl b5 27 _ ((digL wd ds).map bv) rfl V29.out N5.out (by rw [List.length_map, DL.out]; rfl) (by rw [List.length_map, DL.out]; exact size27) (one_bv _) ?_
       intro Y2 hW
       have hO2 : Only (· = b5) Y1.heap.size Y1 Y2 := by subst hW; exact Only.setRow (S := (· = b5)) (Only.refl _ _ _) (.inl rfl) _
       have N5 := Aside0.mk (show At Y2 b5 27 ((digL wd ds).map bv) by subst hW; exact N5.out.setRow _)
       have O2 := Aside0.mk hO2
       clear hW hO2)
    | fail)
  obtain ⟨dd, hdd, hrd⟩ : ∃ d, Tryz.prog.underlying 27 = some d ∧ d.isRow = true := ⟨_, tu27, rfl⟩
  refine bodyPost_ret (results_cell1 rfl _ _ b5 27 _ _ rfl N5.out hdd hrd (by rw [List.length_map, DL.out]; exact size27)) rfl ?_
  refine ⟨by rw [DGV.out]; rfl, ?_⟩
  have hOt : Only (fun b => b = bm ∨ b = bbl ∨ v.ownBlock = some b) w.heap.size w Y1 := OW.out.trans ((Only.of_below HS.out).mono OW.out.size (fun _ _ h => h))
  refine ⟨v8, ?_, hOt.trans (O2.out.mono hOt.size (fun b hb h => by have := L5.out; omega)), V9.out⟩
  rw [show addB bl ds = bl ++ [ds] by unfold addB; rw [if_neg HM.out]]
  refine (BT.out.only O2.out (fun b hb => ?_)).mono (fun b _ hb => hb.1) (fun b hb => hb.elim (DM.out b) (fun h1 => Nat.le_trans BW0.out h1))
  have h1 := L5.out
  have h2 := BT.out.ord
  have h3 := BW0.out
  exact ⟨fun h => h.2 hb, by omega, by omega, by omega, by omega⟩
theorem blob_calls (w : World) (D : Nat → Prop) (base se bbl bm wdb wd : Nat) (bl : List (List UInt8)) (v : Value) (A : Option Addr) (c : Nat) (ds : List UInt8) (hB : BSt w D base se bbl bm wdb wd bl v) (hR : RdL w A ds) (hA : ds ≠ [] → ∀ ad, A = some ad → ad.block ≠ bm ∧ ad.block ≠ bbl ∧ v.ownBlock ≠ some ad.block) (hl : ds.length ≤ 1073741824) (hc : ds.length ≤ c)
    (hw1 : 1 ≤ wd) (hw2 : wd ≤ 32) (hbl : bl.length < 1048576) :
    Calls Tryz.prog 70 #[.slice A ds.length c, .pointer (some ⟨se, 0, none⟩), .pointer (some ⟨bbl, 0, none⟩), .pointer (some ⟨wdb, 0, none⟩)] w fun e w' => e = .returned (digV (digL wd ds)) ∧ ∃ v', BSt w' (fun b => D b ∨ w.heap.size ≤ b) base se bbl bm wdb wd (addB bl ds) v' ∧ Only (fun b => b = bm ∨ b = bbl ∨ v.ownBlock = some b) w.heap.size w w' ∧ ∀ k, v'.ownBlock = some k → v.ownBlock = some k ∨ w.heap.size ≤ k := by
  by_cases hm : ds ∈ bl
  · exact blob1_calls w D base se bbl bm wdb wd bl v A c ds hB hR hA hl hc hw1 hw2 hbl hm
  · exact blob2_calls w D base se bbl bm wdb wd bl v A c ds hB hR hA hl hc hw1 hw2 hbl hm
end Go.Proofs.YtbpfmlckddhgbaaGreatDoor
/- tree: items in memory; what Build's inner function walk computes; what it keeps. -/
namespace Go.Proofs.YtbpfmlckddhgbaaGreatDoor
set_option linter.unusedVariables false
set_option linter.unusedSimpArgs false
open Go Go.RowKit Go.Maps Go.WideMaps Go.Proofs.YtbpfmlckddhgbaaGreatDoorW.PrintWords Go.Proofs.YtbpfmlckddhgbaaGreatDoorW.PrintLast
structure Itm where
  path : ByteArray
  dir : Bool
  data : List UInt8
def icells (x : Itm) (A : Option Addr) (c : Nat) : List Value := [.string x.path, .bool x.dir, .slice A x.data.length c]
theorem one_icells (x : Itm) (A : Option Addr) (c : Nat) : ∀ v ∈ icells x A c, v.oneCell' = true := by
  intro v hv
  simp only [icells, List.mem_cons, List.not_mem_nil, or_false] at hv
  rcases hv with rfl | rfl | rfl <;> rfl
theorem info50 : (Tryz.prog.info? 50).map (fun i => (i.zero, i.size)) = some (some (.agg #[.string ⟨#[]⟩, .bool false, .slice none 0 0]), 3) := by kernel_rfl
theorem size50 : (Tryz.prog.info? 50).map (·.size) = some 3 := by kernel_rfl
theorem row50 : (Tryz.prog.underlying 50).map TypeDesc.isRow = some true := by kernel_rfl
theorem tu22 : Tryz.prog.underlying 22 = some (.slice 50) := by kernel_rfl
def RdI (w : World) (hi : Nat) (A : Option Addr) (its : List Itm) : Prop :=
  its ≠ [] → ∃ g o, A = some ⟨g, o, none⟩ ∧ g < hi ∧ ∀ (j : Nat) (x : Itm), its[j]? = some x → ∃ A' c', w.rangeAt g (o + j * 3) (icells x A' c') ∧ x.data.length ≤ c' ∧
    (x.data ≠ [] → ∃ ad, A' = some ad ∧ ad.block < hi ∧ ∀ k, k < x.data.length → w.cell? (ad.add k) = some (bv (x.data.getD k 0)))
theorem RdI.only {w w1 : World} {hi B : Nat} {S : Nat → Prop} {A : Option Addr} {its : List Itm} (h : RdI w hi A its) (ho : Only S B w w1) (hB : hi ≤ B) (hS : ∀ b, S b → hi ≤ b) : RdI w1 hi A its := fun hne => by
  obtain ⟨g, o, h1, h2, h3⟩ := h hne
  refine ⟨g, o, h1, h2, fun j x hx => ?_⟩
  obtain ⟨A', c', g1, g2, g3⟩ := h3 j x hx
  refine ⟨A', c', rangeAt_only g1 ho (by omega) (fun hs => by have := hS g hs; omega), g2, fun hd => ?_⟩
  obtain ⟨ad, q1, q2, q3⟩ := g3 hd
  exact ⟨ad, q1, q2, fun k hk => by rw [ho.cell (by rw [add_block]; omega) (by rw [add_block]; intro hs; have := hS _ hs; omega)]; exact q3 k hk⟩
theorem fill102 (nm : ByteArray) (k : Int) (d : List UInt8) (hd : d.length = 32) : Tryz.prog.built 101 [(0, .string nm), (1, .int .i64 k), (2, digV d)] = some (ecells ⟨nm, k, d⟩).toArray := by
  obtain ⟨a0, d, rfl⟩ : ∃ a t, d = a :: t := by cases d with | nil => cases hd | cons a t => exact ⟨a, t, rfl⟩
  obtain ⟨a1, d, rfl⟩ : ∃ a t, d = a :: t := by cases d with | nil => cases hd | cons a t => exact ⟨a, t, rfl⟩
  obtain ⟨a2, d, rfl⟩ : ∃ a t, d = a :: t := by cases d with | nil => cases hd | cons a t => exact ⟨a, t, rfl⟩
  obtain ⟨a3, d, rfl⟩ : ∃ a t, d = a :: t := by cases d with | nil => cases hd | cons a t => exact ⟨a, t, rfl⟩
  obtain ⟨a4, d, rfl⟩ : ∃ a t, d = a :: t := by cases d with | nil => cases hd | cons a t => exact ⟨a, t, rfl⟩
  obtain ⟨a5, d, rfl⟩ : ∃ a t, d = a :: t := by cases d with | nil => cases hd | cons a t => exact ⟨a, t, rfl⟩
  obtain ⟨a6, d, rfl⟩ : ∃ a t, d = a :: t := by cases d with | nil => cases hd | cons a t => exact ⟨a, t, rfl⟩
  obtain ⟨a7, d, rfl⟩ : ∃ a t, d = a :: t := by cases d with | nil => cases hd | cons a t => exact ⟨a, t, rfl⟩
  obtain ⟨a8, d, rfl⟩ : ∃ a t, d = a :: t := by cases d with | nil => cases hd | cons a t => exact ⟨a, t, rfl⟩
  obtain ⟨a9, d, rfl⟩ : ∃ a t, d = a :: t := by cases d with | nil => cases hd | cons a t => exact ⟨a, t, rfl⟩
  obtain ⟨b0, d, rfl⟩ : ∃ a t, d = a :: t := by cases d with | nil => cases hd | cons a t => exact ⟨a, t, rfl⟩
  obtain ⟨b1, d, rfl⟩ : ∃ a t, d = a :: t := by cases d with | nil => cases hd | cons a t => exact ⟨a, t, rfl⟩
  obtain ⟨b2, d, rfl⟩ : ∃ a t, d = a :: t := by cases d with | nil => cases hd | cons a t => exact ⟨a, t, rfl⟩
  obtain ⟨b3, d, rfl⟩ : ∃ a t, d = a :: t := by cases d with | nil => cases hd | cons a t => exact ⟨a, t, rfl⟩
  obtain ⟨b4, d, rfl⟩ : ∃ a t, d = a :: t := by cases d with | nil => cases hd | cons a t => exact ⟨a, t, rfl⟩
  obtain ⟨b5, d, rfl⟩ : ∃ a t, d = a :: t := by cases d with | nil => cases hd | cons a t => exact ⟨a, t, rfl⟩
  obtain ⟨b6, d, rfl⟩ : ∃ a t, d = a :: t := by cases d with | nil => cases hd | cons a t => exact ⟨a, t, rfl⟩
  obtain ⟨b7, d, rfl⟩ : ∃ a t, d = a :: t := by cases d with | nil => cases hd | cons a t => exact ⟨a, t, rfl⟩
  obtain ⟨b8, d, rfl⟩ : ∃ a t, d = a :: t := by cases d with | nil => cases hd | cons a t => exact ⟨a, t, rfl⟩
  obtain ⟨b9, d, rfl⟩ : ∃ a t, d = a :: t := by cases d with | nil => cases hd | cons a t => exact ⟨a, t, rfl⟩
  obtain ⟨c0, d, rfl⟩ : ∃ a t, d = a :: t := by cases d with | nil => cases hd | cons a t => exact ⟨a, t, rfl⟩
  obtain ⟨c1, d, rfl⟩ : ∃ a t, d = a :: t := by cases d with | nil => cases hd | cons a t => exact ⟨a, t, rfl⟩
  obtain ⟨c2, d, rfl⟩ : ∃ a t, d = a :: t := by cases d with | nil => cases hd | cons a t => exact ⟨a, t, rfl⟩
  obtain ⟨c3, d, rfl⟩ : ∃ a t, d = a :: t := by cases d with | nil => cases hd | cons a t => exact ⟨a, t, rfl⟩
  obtain ⟨c4, d, rfl⟩ : ∃ a t, d = a :: t := by cases d with | nil => cases hd | cons a t => exact ⟨a, t, rfl⟩
  obtain ⟨c5, d, rfl⟩ : ∃ a t, d = a :: t := by cases d with | nil => cases hd | cons a t => exact ⟨a, t, rfl⟩
  obtain ⟨c6, d, rfl⟩ : ∃ a t, d = a :: t := by cases d with | nil => cases hd | cons a t => exact ⟨a, t, rfl⟩
  obtain ⟨c7, d, rfl⟩ : ∃ a t, d = a :: t := by cases d with | nil => cases hd | cons a t => exact ⟨a, t, rfl⟩
  obtain ⟨c8, d, rfl⟩ : ∃ a t, d = a :: t := by cases d with | nil => cases hd | cons a t => exact ⟨a, t, rfl⟩
  obtain ⟨c9, d, rfl⟩ : ∃ a t, d = a :: t := by cases d with | nil => cases hd | cons a t => exact ⟨a, t, rfl⟩
  obtain ⟨d0, d, rfl⟩ : ∃ a t, d = a :: t := by cases d with | nil => cases hd | cons a t => exact ⟨a, t, rfl⟩
  obtain ⟨d1, d, rfl⟩ : ∃ a t, d = a :: t := by cases d with | nil => cases hd | cons a t => exact ⟨a, t, rfl⟩
  have hd' : d = [] := by simpa using hd
  subst hd'
  clear hd
  show _ = _
  kernel_rfl
def okRow (es : List Ent) : Bool := entsOk es && decide (es.length ≤ 1024)
def rowM (wd : Nat) (its : List Itm) : Nat → ByteArray → Nat → List Ent → List (List UInt8) → Option (List Ent × Nat × List (List UInt8))
  | 0, _, _, _, _ => none
  | f + 1, p, i, es, bl =>
    if bl.length < 1048576 ∧ es.length < 1048576 ∧ i < 1048576 then
      match its[i]? with
      | none => some (es, i, bl)
      | some x =>
        if (splitP x.path).1.toList = p.toList then
          (if x.dir then
            match rowM wd its f x.path (i + 1) [] bl with
            | none => none
            | some (es', j, bl') =>
              if okRow es' = true ∧ bl'.length < 1048576 then rowM wd its f p j (es ++ [⟨(splitP x.path).2.1, 2, digL wd (encL es')⟩]) (addB bl' (encL es')) else none
          else if x.data.length ≤ 1048576 then rowM wd its f p (i + 1) (es ++ [⟨(splitP x.path).2.1, 1, digL wd x.data⟩]) (addB bl x.data) else none)
        else some (es, i, bl)
    else none
structure WB where
  ba : Nat
  lv : Nat
  bw : Nat
  bb : Nat
  se : Nat
  bbl : Nat
  bm : Nat
  wdb : Nat
structure WSt (w : World) (D : Nat → Prop) (hi base : Nat) (B : WB) (wd i : Nat) (its : List Itm) (Al : Option Addr) (cl : Nat) (bl : List (List UInt8)) (v : Value) : Prop where
  at_ : At w B.ba 3 [.int .i64 (i : Int)]
  lv : At w B.lv 22 [.slice Al its.length cl]
  wk : At w B.bw 126 [.func (.func 74) #[] #[.pointer (some ⟨B.ba, 0, none⟩), .pointer (some ⟨B.lv, 0, none⟩), .pointer (some ⟨B.bw, 0, none⟩), .pointer (some ⟨B.bb, 0, none⟩)]]
  bb : At w B.bb 125 [.func (.func 70) #[] #[.pointer (some ⟨B.se, 0, none⟩), .pointer (some ⟨B.bbl, 0, none⟩), .pointer (some ⟨B.wdb, 0, none⟩)]]
  st : BSt w D base B.se B.bbl B.bm B.wdb wd bl v
  items : RdI w hi Al its
  glob : Glob w
  ord : hi ≤ B.ba ∧ hi ≤ B.bm ∧ hi ≤ B.bbl ∧ 0 < hi ∧ B.ba < base ∧ B.lv < base ∧ B.bw < base ∧ B.bb < base
  na : B.ba ≠ B.lv ∧ B.ba ≠ B.bw ∧ B.ba ≠ B.bb ∧ B.ba ≠ B.se ∧ B.ba ≠ B.bbl ∧ B.ba ≠ B.bm ∧ B.ba ≠ B.wdb
  nb : B.lv ≠ B.bbl ∧ B.lv ≠ B.bm ∧ B.bw ≠ B.bbl ∧ B.bw ≠ B.bm ∧ B.bb ≠ B.bbl ∧ B.bb ≠ B.bm
namespace WSt
variable {w w1 : World} {D : Nat → Prop} {hi base : Nat} {B : WB} {wd i : Nat} {its : List Itm} {Al : Option Addr} {cl : Nat} {bl : List (List UInt8)} {v : Value}
theorem big (h : WSt w D hi base B wd i its Al cl bl v) : hi ≤ base ∧ base ≤ w.heap.size := ⟨by have := h.ord; omega, h.st.ord.2.2.2.2⟩
theorem globOnly {S : Nat → Prop} (h : Glob w) (ho : Only S w.heap.size w w1) (hS : ¬ S 0) : Glob w1 := by
  obtain ⟨m, hm⟩ := h
  exact ⟨m, by rw [ho.cell (World.block_lt_of_cell? _ _ hm) hS]; exact hm⟩
theorem only {S : Nat → Prop} (h : WSt w D hi base B wd i its Al cl bl v) (ho : Only S w.heap.size w w1) (hS : ∀ b, S b → base ≤ b ∧ ¬ D b) : WSt w1 D hi base B wd i its Al cl bl v := by
  have ho1 := h.ord
  have ho2 := h.st.ord
  have hn : ∀ b, b < base → ¬ S b := fun b hb hs => by have := (hS b hs).1; omega
  exact ⟨ho.at_ h.at_.lt (hn _ (by omega)) h.at_, ho.at_ h.lv.lt (hn _ (by omega)) h.lv, ho.at_ h.wk.lt (hn _ (by omega)) h.wk, ho.at_ h.bb.lt (hn _ (by omega)) h.bb,
    h.st.only ho (fun b hs => ⟨(hS b hs).2, by have := (hS b hs).1; omega, by have := (hS b hs).1; omega, by have := (hS b hs).1; omega, by have := (hS b hs).1; omega⟩),
    h.items.only ho (by omega) (fun b hs => by have := (hS b hs).1; omega), globOnly h.glob ho (hn 0 (by omega)), h.ord, h.na, h.nb⟩
theorem below (h : WSt w D hi base B wd i its Al cl bl v) (ho : Below w.heap.size w w1) : WSt w1 D hi base B wd i its Al cl bl v := h.only (Only.of_below (S := fun _ => False) ho) (fun _ h => h.elim)
theorem mono (h : WSt w D hi base B wd i its Al cl bl v) {D' : Nat → Prop} (hD : ∀ b, b < w.heap.size → D b → D' b) (hd : ∀ b, D' b → base ≤ b) : WSt w D' hi base B wd i its Al cl bl v :=
  ⟨h.at_, h.lv, h.wk, h.bb, h.st.mono hD hd, h.items, h.glob, h.ord, h.na, h.nb⟩
theorem blobbed (h : WSt w D hi base B wd i its Al cl bl v) {D' : Nat → Prop} {bl' : List (List UInt8)} {v' : Value} (hst : BSt w1 D' base B.se B.bbl B.bm B.wdb wd bl' v') (ho : Only (fun b => b = B.bm ∨ b = B.bbl ∨ v.ownBlock = some b) w.heap.size w w1) : WSt w1 D' hi base B wd i its Al cl bl' v' := by
  have ho1 := h.ord
  have ho2 := h.st.ord
  have hn : ∀ b, b < base → b ≠ B.bm → b ≠ B.bbl → ¬ (b = B.bm ∨ b = B.bbl ∨ v.ownBlock = some b) := fun b hb h1 h2 hs => by
    rcases hs with hs | hs | hs
    · exact h1 hs
    · exact h2 hs
    · have := h.st.dom b (h.st.blobs.fresh b hs); omega
  have hg : ∀ b, (b = B.bm ∨ b = B.bbl ∨ v.ownBlock = some b) → hi ≤ b := fun b hs => by
    rcases hs with hs | hs | hs
    · omega
    · omega
    · have := h.st.dom b (h.st.blobs.fresh b hs); omega
  exact ⟨ho.at_ h.at_.lt (hn _ (by omega) h.na.2.2.2.2.2.1 h.na.2.2.2.2.1) h.at_, ho.at_ h.lv.lt (hn _ (by omega) h.nb.2.1 h.nb.1) h.lv, ho.at_ h.wk.lt (hn _ (by omega) h.nb.2.2.2.1 h.nb.2.2.1) h.wk, ho.at_ h.bb.lt (hn _ (by omega) h.nb.2.2.2.2.2 h.nb.2.2.2.2.1) h.bb,
    hst, h.items.only ho (by omega) hg, globOnly h.glob ho (fun hs => by have := hg 0 hs; omega), h.ord, h.na, h.nb⟩
theorem setAt (h : WSt w D hi base B wd i its Al cl bl v) {i' : Nat} (ho : Only (· = B.ba) w.heap.size w w1) (ha : At w1 B.ba 3 [.int .i64 (i' : Int)]) : WSt w1 D hi base B wd i' its Al cl bl v := by
  have ho1 := h.ord
  have ho2 := h.st.ord
  exact ⟨ha, ho.at_ h.lv.lt (Ne.symm h.na.1) h.lv, ho.at_ h.wk.lt (Ne.symm h.na.2.1) h.wk, ho.at_ h.bb.lt (Ne.symm h.na.2.2.1) h.bb,
    h.st.only ho (fun b hs => by have hb : b = B.ba := hs; subst hb; exact ⟨fun hd => by have := h.st.dom _ hd; omega, h.na.2.2.2.1, h.na.2.2.2.2.1, h.na.2.2.2.2.2.1, h.na.2.2.2.2.2.2⟩),
    h.items.only ho (by omega) (fun b hs => by have hb : b = B.ba := hs; omega), globOnly h.glob ho (fun hs => by have hb : 0 = B.ba := hs; omega), h.ord, h.na, h.nb⟩
end WSt
def WrW (B : WB) (v : Value) (b : Nat) : Prop := b = B.ba ∨ b = B.bm ∨ b = B.bbl ∨ v.ownBlock = some b
def WalkOk (wd : Nat) (its : List Itm) (f : Nat) : Prop := ∀ (w : World) (D : Nat → Prop) (hi base : Nat) (B : WB) (p : ByteArray) (i : Nat) (Al : Option Addr) (cl : Nat) (bl : List (List UInt8)) (v : Value) (es : List Ent) (j : Nat) (bl' : List (List UInt8)),
  WSt w D hi base B wd i its Al cl bl v → rowM wd its f p i [] bl = some (es, j, bl') → okRow es = true → bl'.length < 1048576 →
  Calls Tryz.prog 74 #[.string p, .pointer (some ⟨B.ba, 0, none⟩), .pointer (some ⟨B.lv, 0, none⟩), .pointer (some ⟨B.bw, 0, none⟩), .pointer (some ⟨B.bb, 0, none⟩)] w fun e w' =>
    e = .returned (digV (digL wd (encL es))) ∧ ∃ v', WSt w' (fun b => D b ∨ w.heap.size ≤ b) hi base B wd j its Al cl (addB bl' (encL es)) v' ∧ Only (WrW B v) w.heap.size w w' ∧ ∀ k, v'.ownBlock = some k → v.ownBlock = some k ∨ w.heap.size ≤ k
end Go.Proofs.YtbpfmlckddhgbaaGreatDoor
/- tree: Build's inner function walk: what its loop keeps, step by step (no walk here). -/
namespace Go.Proofs.YtbpfmlckddhgbaaGreatDoor
set_option linter.unusedVariables false
open Go Go.RowKit Go.Maps Go.WideMaps
def DX (D : Nat → Prop) (n b6 : Nat) (ve : Value) (X : Nat → Prop) (b : Nat) : Prop := (D b ∨ n ≤ b) ∧ b ≠ b6 ∧ ve.ownBlock ≠ some b ∧ ¬ X b
structure MSt (w wr : World) (D : Nat → Prop) (hi base : Nat) (B : WB) (wd : Nat) (its : List Itm) (Al : Option Addr) (cl : Nat) (v : Value) (b6 : Nat) (X : Nat → Prop) (i : Nat) (es : List Ent) (bl : List (List UInt8)) (ve v1 : Value) : Prop where
  ws : WSt wr (DX D w.heap.size b6 ve X) hi base B wd i its Al cl bl v1
  cell6 : At wr b6 27 (List.replicate 32 (bv 0))
  own : OwnR wr 101 34 ve es.length (eRow es)
  digs : digsOk es
  fresh : ∀ k, ve.ownBlock = some k → w.heap.size ≤ k ∧ k ≠ b6 ∧ ¬ X k
  only : Only (WrW B v) w.heap.size w wr
  vown : ∀ k, v1.ownBlock = some k → v.ownBlock = some k ∨ w.heap.size ≤ k
  b6n : w.heap.size ≤ b6
  bn : base ≤ w.heap.size
  dom : ∀ b, D b → base ≤ b
namespace MSt
variable {w wr w1 : World} {D : Nat → Prop} {hi base : Nat} {B : WB} {wd : Nat} {its : List Itm} {Al : Option Addr} {cl : Nat} {v : Value} {b6 : Nat} {X : Nat → Prop} {i : Nat} {es : List Ent} {bl : List (List UInt8)} {ve v1 : Value}
theorem dx (h : MSt w wr D hi base B wd its Al cl v b6 X i es bl ve v1) {ve' : Value} {X' : Nat → Prop} : ∀ b, DX D w.heap.size b6 ve' X' b → base ≤ b := fun b hb => hb.1.elim (h.dom b) (fun h1 => Nat.le_trans h.bn h1)
theorem start (h : WSt w D hi base B wd i its Al cl bl v) {W : World} {b6 : Nat} (hb : w.heap.size ≤ b6) (hB : Below w.heap.size w W) (hA : At W b6 27 (List.replicate 32 (bv 0))) : MSt w W D hi base B wd its Al cl v b6 (fun _ => False) i [] bl (.slice none 0 0) v :=
  ⟨(h.mono (fun b hb' hd => ⟨Or.inl hd, by omega, by simp [Value.ownBlock], id⟩) (fun b hb' => hb'.1.elim (h.st.dom b) (fun h1 => Nat.le_trans h.big.2 h1))).below hB, hA, OwnR.nil _ _ _, fun x hx => by simp at hx, fun k hk => by simp [Value.ownBlock] at hk, Only.of_below hB, fun k hk => Or.inl hk, hb, h.big.2, h.st.dom⟩
theorem below (h : MSt w wr D hi base B wd its Al cl v b6 X i es bl ve v1) (ho : Below wr.heap.size wr w1) : MSt w w1 D hi base B wd its Al cl v b6 X i es bl ve v1 :=
  ⟨h.ws.below ho, h.cell6.below ho h.cell6.lt, h.own.below' ho, h.digs, h.fresh, h.only.trans ((Only.of_below ho).mono h.only.size (fun _ _ h => h)), h.vown, h.b6n, h.bn, h.dom⟩
theorem apart (h : MSt w wr D hi base B wd its Al cl v b6 (fun _ => False) i es bl ve v1) {b8 : Nat} (hb : wr.heap.size ≤ b8) : MSt w wr D hi base B wd its Al cl v b6 (· = b8) i es bl ve v1 :=
  ⟨h.ws.mono (fun b hb' hd => ⟨hd.1, hd.2.1, hd.2.2.1, by omega⟩) h.dx, h.cell6, h.own, h.digs, fun k hk => ⟨(h.fresh k hk).1, (h.fresh k hk).2.1, by have := h.own.lt hk; omega⟩, h.only, h.vown, h.b6n, h.bn, h.dom⟩
theorem drop (h : MSt w wr D hi base B wd its Al cl v b6 X i es bl ve v1) : MSt w wr D hi base B wd its Al cl v b6 (fun _ => False) i es bl ve v1 :=
  ⟨h.ws.mono (fun b _ hd => ⟨hd.1, hd.2.1, hd.2.2.1, id⟩) h.dx, h.cell6, h.own, h.digs, fun k hk => ⟨(h.fresh k hk).1, (h.fresh k hk).2.1, id⟩, h.only, h.vown, h.b6n, h.bn, h.dom⟩
theorem write (h : MSt w wr D hi base B wd its Al cl v b6 X i es bl ve v1) {b8 : Nat} (hX : X b8) (hb : w.heap.size ≤ b8) (hb6 : b8 ≠ b6) (ho : Only (· = b8) wr.heap.size wr w1) : MSt w w1 D hi base B wd its Al cl v b6 X i es bl ve v1 :=
  ⟨h.ws.only ho (fun b hs => by have e : b = b8 := hs; subst e; exact ⟨Nat.le_trans h.bn hb, fun hd => hd.2.2.2 hX⟩), ho.at_ h.cell6.lt (Ne.symm hb6) h.cell6, h.own.only ho (fun b hb' => ⟨h.own.lt hb', fun e => by have e : b = b8 := e; subst e; exact (h.fresh b hb').2.2 hX⟩), h.digs, h.fresh,
    h.only.trans (ho.mono h.only.size (fun b hb' hs => by have e : b = b8 := hs; omega)), h.vown, h.b6n, h.bn, h.dom⟩
theorem setAt (h : MSt w wr D hi base B wd its Al cl v b6 X i es bl ve v1) {i' : Nat} (ho : Only (· = B.ba) wr.heap.size wr w1) (ha : At w1 B.ba 3 [.int .i64 (i' : Int)]) : MSt w w1 D hi base B wd its Al cl v b6 X i' es bl ve v1 := by
  have h1 := h.ws.ord
  have h2 := h.bn
  have h3 := h.b6n
  exact ⟨h.ws.setAt ho ha, ho.at_ h.cell6.lt (by omega) h.cell6, h.own.only ho (fun b hb' => ⟨h.own.lt hb', fun e => by have e : b = B.ba := e; have := (h.fresh b hb').1; omega⟩), h.digs, h.fresh,
    h.only.trans (ho.mono h.only.size (fun b hb' hs => Or.inl hs)), h.vown, h.b6n, h.bn, h.dom⟩
theorem v1x (h : MSt w wr D hi base B wd its Al cl v b6 X i es bl ve v1) {k : Nat} (hk : v1.ownBlock = some k) : DX D w.heap.size b6 ve X k ∧ k < wr.heap.size := ⟨h.ws.st.blobs.fresh k hk, h.ws.st.blobs.lt hk⟩
theorem called (h : MSt w wr D hi base B wd its Al cl v b6 X i es bl ve v1) {i' : Nat} {bl' : List (List UInt8)} {v2 : Value} (hw : WSt w1 (fun b => DX D w.heap.size b6 ve X b ∨ wr.heap.size ≤ b) hi base B wd i' its Al cl bl' v2) (ho : Only (WrW B v1) wr.heap.size wr w1)
    (hv : ∀ k, v2.ownBlock = some k → v1.ownBlock = some k ∨ wr.heap.size ≤ k) (hX : ∀ b, X b → b < wr.heap.size) : MSt w w1 D hi base B wd its Al cl v b6 X i' es bl' ve v2 := by
  have h1 := h.ws.ord
  have h1b := h.ws.st.ord
  have h2 := h.bn
  have h3 := h.b6n
  have h4 := h.only.size
  have hn : ∀ b, w.heap.size ≤ b → (∀ k, DX D w.heap.size b6 ve X k → k ≠ b) → ¬ WrW B v1 b := fun b hb hd hs => by
    rcases hs with hs | hs | hs | hs
    · omega
    · omega
    · omega
    · exact hd b (h.v1x hs).1 rfl
  refine ⟨hw.mono (fun b hb hd => ?_) h.dx, ho.at_ h.cell6.lt (hn b6 h3 (fun k hk => hk.2.1)) h.cell6, h.own.only ho (fun b hb' => ⟨h.own.lt hb', hn b (h.fresh b hb').1 (fun k hk e => by subst e; exact hk.2.2.1 hb')⟩), h.digs, h.fresh,
    h.only.trans (ho.mono h.only.size (fun b hb' hs => ?_)), fun k hk => ?_, h.b6n, h.bn, h.dom⟩
  · rcases hd with hd | hd
    · exact hd
    · exact ⟨Or.inr (by omega), by have := h.cell6.lt; omega, fun e => by have := h.own.lt e; omega, fun hx => by have := hX b hx; omega⟩
  · rcases hs with hs | hs | hs | hs
    · exact Or.inl hs
    · exact Or.inr (Or.inl hs)
    · exact Or.inr (Or.inr (Or.inl hs))
    · rcases h.vown b hs with hv' | hv'
      · exact Or.inr (Or.inr (Or.inr hv'))
      · omega
  · rcases hv k hk with hv' | hv'
    · exact h.vown k hv'
    · exact Or.inr (by omega)
theorem push (h : MSt w wr D hi base B wd its Al cl v b6 X i es bl ve v1) {ve' : Value} {x : Ent} (hx : x.dig.length = 32) (ho : Only (fun b => ve.ownBlock = some b) wr.heap.size wr w1) (hown : OwnR w1 101 34 ve' (es.length + 1) (eRow es ++ ecells x)) (hq : ve'.ownBlock = ve.ownBlock ∨ ve'.ownBlock = some wr.heap.size)
    (hX : ∀ b, X b → b < wr.heap.size) : MSt w w1 D hi base B wd its Al cl v b6 X i (es ++ [x]) bl ve' v1 := by
  have h1 := h.ws.ord
  have h2 := h.bn
  have h3 := h.b6n
  have h4 := h.only.size
  have h5 := h.cell6.lt
  have hf : ∀ k, ve'.ownBlock = some k → w.heap.size ≤ k ∧ k ≠ b6 ∧ ¬ X k := fun k hk => by
    rcases hq with hq | hq
    · rw [hq] at hk; exact h.fresh k hk
    · rw [hq] at hk; injection hk with hk; exact ⟨by omega, by omega, fun hx => by have := hX k hx; omega⟩
  have hws : WSt wr (DX D w.heap.size b6 ve' (fun b => X b ∨ ve.ownBlock = some b)) hi base B wd i its Al cl bl v1 := h.ws.mono (fun b hb hd => ⟨hd.1, hd.2.1, fun e => by
    rcases hq with hq | hq
    · rw [hq] at e; exact hd.2.2.1 e
    · rw [hq] at e; injection e with e; omega, fun hx => hx.elim hd.2.2.2 hd.2.2.1⟩) h.dx
  have hws2 := hws.only ho (fun b hs => ⟨Nat.le_trans h.bn (h.fresh b hs).1, fun hd => hd.2.2.2 (Or.inr hs)⟩)
  exact ⟨hws2.mono (fun b _ hd => ⟨hd.1, hd.2.1, hd.2.2.1, fun hx => hd.2.2.2 (Or.inl hx)⟩) h.dx, ho.at_ h.cell6.lt (fun hs => (h.fresh b6 hs).2.1 rfl) h.cell6,
    by rw [List.length_append]; unfold eRow at hown ⊢; rw [List.flatMap_append]; simpa using hown, fun y hy => by
      rcases List.mem_append.1 hy with hy | hy
      · exact h.digs y hy
      · rw [List.mem_singleton.1 hy]; exact hx, hf,
    h.only.trans (ho.mono h.only.size (fun b hb' hs => by have := (h.fresh b hs).1; omega)), h.vown, h.b6n, h.bn, h.dom⟩
end MSt
end Go.Proofs.YtbpfmlckddhgbaaGreatDoor
/- tree: Build's inner function walk. -/
namespace Go.Proofs.YtbpfmlckddhgbaaGreatDoor
set_option linter.unusedVariables false
set_option linter.unusedSimpArgs false
open Go Go.RowKit Go.Maps Go.WideMaps Go.Proofs.YtbpfmlckddhgbaaGreatDoorW.PrintWords Go.Proofs.YtbpfmlckddhgbaaGreatDoorW.PrintLast
theorem encL_le {xs : List Ent} (hd : digsOk xs) (hok : okRow xs = true) : (encL xs).length ≤ 1073741824 := by
  unfold okRow at hok
  simp only [Bool.and_eq_true, decide_eq_true_eq] at hok
  have h1 := encs_len hd (fun x hx => (entsOk_all hok.1 x hx).2)
  have h2 := (formL_len 1).1
  have h3 := (formL_len xs.length).1
  unfold encL
  simp only [List.length_append]
  omega
def RdH (w : World) (hi : Nat) (A : Option Addr) (ds : List UInt8) : Prop := ds ≠ [] → ∃ ad, A = some ad ∧ ad.block < hi ∧ ∀ k, k < ds.length → w.cell? (ad.add k) = some (bv (ds.getD k 0))
theorem RdH.only {w w1 : World} {hi B : Nat} {S : Nat → Prop} {A : Option Addr} {ds : List UInt8} (h : RdH w hi A ds) (ho : Only S B w w1) (hB : hi ≤ B) (hS : ∀ b, S b → hi ≤ b) : RdH w1 hi A ds := fun hne => by
  obtain ⟨ad, q1, q2, q3⟩ := h hne
  exact ⟨ad, q1, q2, fun k hk => by rw [ho.cell (by rw [add_block]; omega) (by rw [add_block]; intro hs; have := hS _ hs; omega)]; exact q3 k hk⟩
theorem RdH.below {w w1 : World} {hi B : Nat} {A : Option Addr} {ds : List UInt8} (h : RdH w hi A ds) (ho : Below B w w1) (hB : hi ≤ B) : RdH w1 hi A ds := h.only (Only.of_below (S := fun _ => False) ho) hB (fun _ h => h.elim)
theorem RdH.rdl {w : World} {hi : Nat} {A : Option Addr} {ds : List UInt8} (h : RdH w hi A ds) (hB : hi ≤ w.heap.size) : RdL w A ds := fun hne => by
  obtain ⟨ad, q1, q2, q3⟩ := h hne
  exact ⟨ad, q1, by omega, q3⟩
theorem size3 : (Tryz.prog.info? 3).map (·.size) = some 1 := by kernel_rfl
set_option maxRecDepth 8000 in
set_option maxHeartbeats 2000000 in
theorem walk_ok (wd : Nat) (its : List Itm) (hw1 : 1 ≤ wd) (hw2 : wd ≤ 32) (hits : its.length < 1048576) : ∀ f, WalkOk wd its f := by
  intro f
  induction f using Nat.strongRecOn with
  | ind f ih =>
  intro w D hi base B p i Al cl bl v esF jF blF hW hM hokr hblF
  have IH := Aside0.mk ih
  have HW := Aside0.mk hW
  have HM := Aside0.mk hM
  have OKR := Aside0.mk hokr
  have HBL := Aside0.mk hblF
  clear ih hW hM hokr hblF
  go_enter Tryz.func74, Tryz.ntmps74
  go_wp2_with (first
    | (refine arm_alloc rfl 27 rfl _ _ info27 ?_; intro W6 b6 hb hWW
       have hN : At W6 b6 27 (List.replicate 32 (bv 0)) := by subst hWW hb; exact At.new _ _ _
       have hBB : Below w.heap.size w W6 := by subst hWW; exact (Below.refl _ _).alloc (Nat.le_refl _) _
       have MS := Aside0.mk (MSt.start HW.out (show w.heap.size ≤ b6 by rw [hb]; exact Nat.le_refl _) hBB hN)
       clear hN hb hWW hBB)
    | fail)
  go_loopg [7] f (fun g ve wr => ∃ (n i' : Nat) (es : List Ent) (bl1 : List (List UInt8)) (v1 : Value), Aside0 (n = g ∧ n ≤ f) ∧ Aside0 (rowM wd its n p i' es bl1 = some (esF, jF, blF)) ∧ Aside0 (MSt w wr D hi base B wd its Al cl v b6 (fun _ => False) i' es bl1 ve v1))
  case atStart => exact ⟨f, i, [], bl, v, ⟨rfl, Nat.le_refl _⟩, HM, MS⟩
  case round =>
    obtain ⟨n, i', es, bl1, v1, HN, HR, HS⟩ := hrel
    obtain ⟨n', rfl⟩ : ∃ n', n = n' + 1 := by
      cases n with
      | zero => exact absurd HR.out (by simp [rowM])
      | succ n => exact ⟨n, rfl⟩
    obtain ⟨Ae, ce, hve, hce, _, hre⟩ := HS.out.own.shape
    subst hve
    have RE := Aside0.mk (show RdE wr Ae es from fun hne => by
      obtain ⟨g, g1, _, g3, g4⟩ := hre (List.length_pos_iff.2 hne)
      exact ⟨g, g1, g3, g4⟩)
    clear hce hre
    have hr := HR.out
    unfold rowM at hr
    split at hr
    case isFalse => exact absurd hr (by simp)
    case isTrue hb =>
    have HBD := Aside0.mk hb
    have hi5 : i' < 1048576 := hb.2.2
    clear hb
    have kat : wr.cell? ⟨B.ba, 0, none⟩ = some (.int .i64 (i' : Int)) := by rw [HS.out.ws.at_.cell]; rfl
    rcases hx : its[i']? with _ | x
    · -- no item is left
      rw [hx] at hr
      simp only [Option.some.injEq, Prod.mk.injEq] at hr
      have hge : its.length ≤ i' := List.getElem?_eq_none_iff.1 hx
      have klv : wr.cell? ⟨B.lv, 0, none⟩ = some (.slice Al its.length cl) := by rw [HS.out.ws.lv.cell]; rfl
      have EQ := Aside0.mk hr
      clear hr hx
      go_wp2_with (first
        | (go_at_call 76
           have hok1 := EQ.out.1
           have hokr := OKR.out
           rw [← hok1] at hokr
           refine (encode_calls wr Ae ce es HS.out.digs RE.out (by unfold okRow at hokr; simp at hokr; exact hokr.1) (by unfold okRow at hokr; simp at hokr; exact hokr.2)).mono ?_
           rintro e w13 ⟨vb, rfl, hb1, hb2, hB⟩
           obtain ⟨Ab, cb, hvb, hcb, hrb, hob⟩ := hb1.rdl
           subst hvb
           have RB := Aside0.mk (And.intro hcb (And.intro hrb hob))
           have FB := Aside0.mk (show ∀ k, (Value.slice Ab (encL es).length cb).ownBlock = some k → wr.heap.size ≤ k from hb2)
           have S13 := Aside0.mk (HS.out.below hB)
           have kbb : w13.cell? ⟨B.bb, 0, none⟩ = some (.func (.func 70) #[] #[.pointer (some ⟨B.se, 0, none⟩), .pointer (some ⟨B.bbl, 0, none⟩), .pointer (some ⟨B.wdb, 0, none⟩)]) := by rw [S13.out.ws.bb.cell]; rfl
           clear hok1 hokr hb1 hb2 hB hcb hrb hob)
        | (go_at_call 70
           have hA : encL es ≠ [] → ∀ ad, Ab = some ad → ad.block ≠ B.bm ∧ ad.block ≠ B.bbl ∧ v1.ownBlock ≠ some ad.block := fun hne ad had => by
             obtain ⟨ad', q1, q2⟩ := RB.out.2.2 hne
             rw [had] at q1; injection q1 with q1; subst q1
             have h1 := FB.out _ q2
             have h2 := HS.out.ws.st.ord
             exact ⟨by omega, by omega, fun h => by have := (HS.out.v1x h).2; omega⟩
           have hbl1 : bl1.length < 1048576 := HBD.out.1
           refine (blob_calls w13 _ base B.se B.bbl B.bm B.wdb wd bl1 v1 Ab cb (encL es) S13.out.ws.st RB.out.2.1 hA (encL_le HS.out.digs (by rw [EQ.out.1]; exact OKR.out)) RB.out.1 hw1 hw2 hbl1).mono ?_
           rintro e w14 ⟨rfl, v2, hB2, hO2, hv2⟩
           have S14 := Aside0.mk (S13.out.called (S13.out.ws.blobbed hB2 hO2) (hO2.mono (Nat.le_refl _) (fun b _ h => Or.inr h)) hv2 (fun _ h => h.elim))
           obtain ⟨dgv, hdgv⟩ : ∃ dgv, dgv = digV (digL wd (encL es)) := ⟨_, rfl⟩
           rw [← hdgv]
           have DGV := Aside0.mk hdgv
           clear hA hbl1 hB2 hO2 hv2 hdgv)
        | (refine arm_store_row rfl 27 _ _ rfl b6 27 _ ((digL wd (encL es)).map bv) rfl DGV.out S14.out.cell6 (by rw [List.length_map, digL_len wd _ hw2]; rfl) (by rw [List.length_map, digL_len wd _ hw2]; exact size27) (one_bv _) ?_
           intro W15 hWW
           have hO : Only (· = b6) w14.heap.size w14 W15 := by subst hWW; exact Only.setRow (S := (· = b6)) (Only.refl _ _ _) (.inl rfl) _
           have N15 := Aside0.mk (show At W15 b6 27 ((digL wd (encL es)).map bv) by subst hWW; exact S14.out.cell6.setRow _)
           have O15 := Aside0.mk hO
           clear hWW hO)
        | fail)
      refine bodyPost_ret (results_cell1 rfl _ _ b6 27 _ _ rfl N15.out tu27 rfl (by rw [List.length_map, digL_len wd _ hw2]; exact size27)) rfl ?_
      have hes := EQ.out.1
      rw [← hes, ← EQ.out.2.1, ← EQ.out.2.2]
      refine ⟨rfl, v2, ?_, ?_, S14.out.vown⟩
      · exact (S14.out.ws.only O15.out (fun b hb => by have e : b = b6 := hb; subst e; exact ⟨Nat.le_trans S14.out.bn S14.out.b6n, fun hd => hd.2.1 rfl⟩)).mono (fun b _ hd => hd.1) (fun b hb => hb.elim (S14.out.dom b) (fun h1 => Nat.le_trans S14.out.bn h1))
      · exact S14.out.only.trans (O15.out.mono S14.out.only.size (fun b hb h => by have e : b = b6 := h; have := S14.out.b6n; omega))
    · -- an item
      rw [hx] at hr
      simp only at hr
      have hlt : i' < its.length := (List.getElem?_eq_some_iff.1 hx).1
      obtain ⟨g0, o0, hAl, hg0, hits0⟩ := HS.out.ws.items (by intro h; rw [h] at hlt; simp at hlt)
      obtain ⟨A', c', hrow, hc', hdat⟩ := hits0 i' x hx
      subst hAl
      have klv : wr.cell? ⟨B.lv, 0, none⟩ = some (.slice (some ⟨g0, o0, none⟩) its.length cl) := by rw [HS.out.ws.lv.cell]; rfl
      have ROW := Aside0.mk hrow
      have DC := Aside0.mk hc'
      have DAT := Aside0.mk (show RdH wr hi A' x.data from hdat)
      have HB := Aside0.mk (show hi ≤ base ∧ base ≤ w.heap.size ∧ base ≤ wr.heap.size from ⟨HS.out.ws.big.1, HS.out.bn, HS.out.ws.big.2⟩)
      obtain ⟨up, hup⟩ : ∃ up, up = (splitP x.path).1 := ⟨_, rfl⟩
      obtain ⟨nm, hnm⟩ : ∃ nm, nm = (splitP x.path).2.1 := ⟨_, rfl⟩
      obtain ⟨er, her⟩ : ∃ er, er = (splitP x.path).2.2 := ⟨_, rfl⟩
      rw [← hup, ← hnm] at hr
      have UP := Aside0.mk (And.intro hup (And.intro hnm her))
      clear hup hnm her hrow hc' hdat hits0 hx
      by_cases hq : up.toList = p.toList
      · rw [if_pos hq] at hr
        have hqb : (up.toList == p.toList) = true := beq_iff_eq.2 hq
        have HQ := Aside0.mk hq
        clear hq
        rcases hd : x.dir with _ | _
        · -- a file
          rw [if_neg (by rw [hd]; decide)] at hr
          split at hr
          case isFalse => exact absurd hr (by simp)
          case isTrue hxl =>
          have XL := Aside0.mk hxl
          have XD := Aside0.mk hd
          have R2 := Aside0.mk hr
          clear hr hd hxl
          go_wp2_with (first
            | (refine arm_load_row rfl 50 _ rfl g0 (o0 + i' * 3) rfl (icells x A' c') ROW.out row50 size50 ?_
               intro v21 hv
               have V21 := Aside0.mk hv
               clear hv)
            | (refine arm_alloc rfl 50 rfl _ _ info50 ?_; intro W8 b8 hb hWW
               have hN : At W8 b8 50 [.string ⟨#[]⟩, .bool false, .slice none 0 0] := by subst hWW hb; exact At.new _ _ _
               have hBB : Below wr.heap.size wr W8 := by subst hWW; exact (Below.refl _ _).alloc (Nat.le_refl _) _
               have L8 := Aside0.mk (show wr.heap.size ≤ b8 ∧ w.heap.size ≤ b8 ∧ b8 ≠ b6 from ⟨by rw [hb]; exact Nat.le_refl _, by rw [hb]; exact HS.out.only.size, by have := HS.out.cell6.lt; omega⟩)
               have S8 := Aside0.mk ((HS.out.apart L8.out.1).below hBB)
               have DAT := Aside0.mk (DAT.out.below hBB (by have := HB.out; omega))
               have N8 := Aside0.mk hN
               clear hN hb hWW hBB)
            | (refine arm_store_row rfl 50 _ _ rfl b8 50 _ (icells x A' c') rfl V21.out N8.out rfl size50 (one_icells x A' c') ?_
               intro W9 hWW
               have hO : Only (· = b8) W8.heap.size W8 W9 := by subst hWW; exact Only.setRow (S := (· = b8)) (Only.refl _ _ _) (.inl rfl) _
               have hN : At W9 b8 50 (icells x A' c') := by subst hWW; exact N8.out.setRow _
               have kp : W9.cell? ⟨b8, 0, none⟩ = some (.string x.path) := by rw [hN.cell]; rfl
               have S9 := Aside0.mk (S8.out.write rfl L8.out.2.1 L8.out.2.2 hO)
               have DAT := Aside0.mk (DAT.out.only hO (by have h1 := S8.out.ws.big; omega) (fun b hb => by have e : b = b8 := hb; have h1 := HB.out; have h2 := L8.out.2.1; omega))
               have N9 := Aside0.mk hN
               clear hWW hO hN)
            | (go_at_call 75
               refine (split_calls x.path W9 S9.out.ws.glob).mono ?_
               rintro e w10 ⟨rfl, hB⟩
               rw [← UP.out.1, ← UP.out.2.1, ← UP.out.2.2]
               have S10 := Aside0.mk (S9.out.below hB)
               have DAT := Aside0.mk (DAT.out.below hB (by have h1 := S9.out.ws.big; omega))
               have N10 := Aside0.mk (N9.out.below hB N9.out.lt)
               have kat : w10.cell? ⟨B.ba, 0, none⟩ = some (.int .i64 (i' : Int)) := by rw [S10.out.ws.at_.cell]; rfl
               have fat : w10.frozen? ⟨B.ba, 0, none⟩ = false := S10.out.ws.at_.frozen _
               clear kp hB)
            | (refine arm_store_int rfl 3 _ _ rfl ⟨B.ba, 0, none⟩ rfl .i64 ((i' : Int) + 1) rfl _ kat fat size3 rfl ?_
               intro W11 hWW
               have hO : Only (· = B.ba) w10.heap.size w10 W11 := by subst hWW; exact Only.setCell (S := (· = B.ba)) (a := ⟨B.ba, 0, none⟩) (Only.refl _ _ _) (.inl rfl) _
               have hA : At W11 B.ba 3 [.int .i64 ((i' + 1 : Nat) : Int)] := by subst hWW; rw [Int.natCast_add]; exact S10.out.ws.at_.setCell 0 _
               have S11 := Aside0.mk (S10.out.setAt hO hA)
               have DAT := Aside0.mk (DAT.out.only hO (by have h1 := S10.out.ws.big; omega) (fun b hb => by have e : b = B.ba := hb; have h1 := S10.out.ws.ord; omega))
               have N11 := Aside0.mk (hO.at_ N10.out.lt (by have h1 := S10.out.ws.ord; have h2 := S10.out.bn; have h3 := L8.out.2.1; omega) N10.out)
               have kp : W11.cell? ⟨b8, 0, none⟩ = some (.string x.path) := by rw [N11.out.cell]; rfl
               have kd : W11.cell? ⟨b8, 1, none⟩ = some (.bool false) := by rw [N11.out.cell, ← XD.out]; rfl
               have kx : W11.cell? ⟨b8, 2, none⟩ = some (.slice A' x.data.length c') := by rw [N11.out.cell]; rfl
               have kwk : W11.cell? ⟨B.bw, 0, none⟩ = some (.func (.func 74) #[] #[.pointer (some ⟨B.ba, 0, none⟩), .pointer (some ⟨B.lv, 0, none⟩), .pointer (some ⟨B.bw, 0, none⟩), .pointer (some ⟨B.bb, 0, none⟩)]) := by rw [S11.out.ws.wk.cell]; rfl
               have kbb : W11.cell? ⟨B.bb, 0, none⟩ = some (.func (.func 70) #[] #[.pointer (some ⟨B.se, 0, none⟩), .pointer (some ⟨B.bbl, 0, none⟩), .pointer (some ⟨B.wdb, 0, none⟩)]) := by rw [S11.out.ws.bb.cell]; rfl
               clear kat fat hWW hO hA)
            | (go_at_call 70
               have hA : x.data ≠ [] → ∀ ad, A' = some ad → ad.block ≠ B.bm ∧ ad.block ≠ B.bbl ∧ v1.ownBlock ≠ some ad.block := fun hne ad had => by
                 obtain ⟨ad', q1, q2, _⟩ := DAT.out hne
                 rw [had] at q1; injection q1 with q1; subst q1
                 have h1 := S11.out.ws.ord
                 have h2 := S11.out.ws.st.ord
                 exact ⟨by omega, by omega, fun h => by have := S11.out.ws.st.dom _ (S11.out.ws.st.blobs.fresh _ h); omega⟩
               have hRd : RdL W11 A' x.data := DAT.out.rdl (by have h1 := S11.out.ws.big; omega)
               have hbl1 : bl1.length < 1048576 := HBD.out.1
               have hcall := blob_calls W11 _ base B.se B.bbl B.bm B.wdb wd bl1 v1 A' c' x.data S11.out.ws.st hRd hA (by have := XL.out; omega) DC.out hw1 hw2 hbl1
               refine hcall.mono ?_
               rintro e w12 ⟨rfl, v2, hB2, hO2, hv2⟩
               have S12 := Aside0.mk ((S11.out.called (S11.out.ws.blobbed hB2 hO2) (hO2.mono (Nat.le_refl _) (fun b _ h => Or.inr h)) hv2 (fun b h => by have e : b = b8 := h; have := N11.out.lt; omega)).drop)
               obtain ⟨dd, hdd⟩ : ∃ dd, dd = digL wd x.data := ⟨_, rfl⟩
               rw [← hdd]
               obtain ⟨dgv, hdgv⟩ : ∃ dgv, dgv = digV dd := ⟨_, rfl⟩
               rw [← hdgv]
               have DD := Aside0.mk (And.intro hdd hdgv)
               have DL := Aside0.mk (show dd.length = 32 by rw [hdd]; exact digL_len wd _ hw2)
               clear hA hRd hbl1 hcall hB2 hO2 hv2 hdd hdgv)
            | (refine arm_build rfl 101 _ rfl (ecells ⟨nm, 1, dd⟩) (by rw [DD.out.2]; simp only [List.map_toArray, List.map_cons, List.map_nil]; exact fill102 nm 1 dd DL.out) ?_
               intro v42 hv
               have V42 := Aside0.mk hv
               clear hv)
            | (refine arm_slice1 rfl 127 101 _ rfl _ 34 (ecells ⟨nm, 1, dd⟩) v42 rfl (by rw [V42.out]; rfl) tu127 info101 (by decide) (by decide) (ecells_len (x := ⟨nm, 1, dd⟩) DL.out) ?_
               intro W13 b13 hb hWW
               have hBB : Below w12.heap.size w12 W13 := by subst hWW; exact (Below.refl _ _).alloc (Nat.le_refl _) _
               have A13 := Aside0.mk (show At W13 b13 101 (ecells ⟨nm, 1, dd⟩) by subst hWW hb; exact At.new _ _ _)
               have S13 := Aside0.mk (S12.out.below hBB)
               clear hb hWW hBB)
            | (refine arm_appendR rfl _ _ 127 101 rfl _ 34 56 tu127 info101b rfl (by decide) (.slice Ae es.length ce) es.length (eRow es) (ecells ⟨nm, 1, dd⟩) rfl S13.out.own ⟨b13, 0, none⟩ 1 1 rfl (by rw [ecells_len (x := ⟨nm, 1, dd⟩) DL.out]) (fun i u hu => by rw [Addr.add_mid, A13.out.cell, Nat.zero_add]; exact hu) (one_ecells _) (by have := HBD.out.2.1; omega) (by have := HBD.out.2.1; omega) ?_
               intro ve' W14 hV hO hq
               have S14 := Aside0.mk (S13.out.push (x := ⟨nm, 1, dd⟩) DL.out hO hV hq (fun _ h => h.elim))
               clear hV hO hq)
            | fail)
          go_roundg n'
          case measure => have := HN.out; omega
          case rel => exact ⟨n', i' + 1, _, _, v2, ⟨rfl, by have := HN.out; omega⟩, ⟨by have h := R2.out; rw [← DD.out.1] at h; exact h⟩, S14⟩
        · -- a directory
          rw [if_pos hd] at hr
          split at hr
          case h_1 => exact absurd hr (by simp)
          case h_2 es2 j2 bl2 hr2 =>
          split at hr
          case isFalse => exact absurd hr (by simp)
          case isTrue hok2 =>
          have XD := Aside0.mk hd
          have R3 := Aside0.mk hr
          have R2 := Aside0.mk hr2
          have O2 := Aside0.mk hok2
          clear hr hd hr2 hok2
          go_wp2_with (first
            | (refine arm_load_row rfl 50 _ rfl g0 (o0 + i' * 3) rfl (icells x A' c') ROW.out row50 size50 ?_
               intro v21 hv
               have V21 := Aside0.mk hv
               clear hv)
            | (refine arm_alloc rfl 50 rfl _ _ info50 ?_; intro W8 b8 hb hWW
               have hN : At W8 b8 50 [.string ⟨#[]⟩, .bool false, .slice none 0 0] := by subst hWW hb; exact At.new _ _ _
               have hBB : Below wr.heap.size wr W8 := by subst hWW; exact (Below.refl _ _).alloc (Nat.le_refl _) _
               have L8 := Aside0.mk (show wr.heap.size ≤ b8 ∧ w.heap.size ≤ b8 ∧ b8 ≠ b6 from ⟨by rw [hb]; exact Nat.le_refl _, by rw [hb]; exact HS.out.only.size, by have := HS.out.cell6.lt; omega⟩)
               have S8 := Aside0.mk ((HS.out.apart L8.out.1).below hBB)
               have DAT := Aside0.mk (DAT.out.below hBB (by have := HB.out; omega))
               have N8 := Aside0.mk hN
               clear hN hb hWW hBB)
            | (refine arm_store_row rfl 50 _ _ rfl b8 50 _ (icells x A' c') rfl V21.out N8.out rfl size50 (one_icells x A' c') ?_
               intro W9 hWW
               have hO : Only (· = b8) W8.heap.size W8 W9 := by subst hWW; exact Only.setRow (S := (· = b8)) (Only.refl _ _ _) (.inl rfl) _
               have hN : At W9 b8 50 (icells x A' c') := by subst hWW; exact N8.out.setRow _
               have kp : W9.cell? ⟨b8, 0, none⟩ = some (.string x.path) := by rw [hN.cell]; rfl
               have S9 := Aside0.mk (S8.out.write rfl L8.out.2.1 L8.out.2.2 hO)
               have DAT := Aside0.mk (DAT.out.only hO (by have h1 := S8.out.ws.big; omega) (fun b hb => by have e : b = b8 := hb; have h1 := HB.out; have h2 := L8.out.2.1; omega))
               have N9 := Aside0.mk hN
               clear hWW hO hN)
            | (go_at_call 75
               refine (split_calls x.path W9 S9.out.ws.glob).mono ?_
               rintro e w10 ⟨rfl, hB⟩
               rw [← UP.out.1, ← UP.out.2.1, ← UP.out.2.2]
               have S10 := Aside0.mk (S9.out.below hB)
               have DAT := Aside0.mk (DAT.out.below hB (by have h1 := S9.out.ws.big; omega))
               have N10 := Aside0.mk (N9.out.below hB N9.out.lt)
               have kat : w10.cell? ⟨B.ba, 0, none⟩ = some (.int .i64 (i' : Int)) := by rw [S10.out.ws.at_.cell]; rfl
               have fat : w10.frozen? ⟨B.ba, 0, none⟩ = false := S10.out.ws.at_.frozen _
               clear kp hB)
            | (refine arm_store_int rfl 3 _ _ rfl ⟨B.ba, 0, none⟩ rfl .i64 ((i' : Int) + 1) rfl _ kat fat size3 rfl ?_
               intro W11 hWW
               have hO : Only (· = B.ba) w10.heap.size w10 W11 := by subst hWW; exact Only.setCell (S := (· = B.ba)) (a := ⟨B.ba, 0, none⟩) (Only.refl _ _ _) (.inl rfl) _
               have hA : At W11 B.ba 3 [.int .i64 ((i' + 1 : Nat) : Int)] := by subst hWW; rw [Int.natCast_add]; exact S10.out.ws.at_.setCell 0 _
               have S11 := Aside0.mk (S10.out.setAt hO hA)
               have DAT := Aside0.mk (DAT.out.only hO (by have h1 := S10.out.ws.big; omega) (fun b hb => by have e : b = B.ba := hb; have h1 := S10.out.ws.ord; omega))
               have N11 := Aside0.mk (hO.at_ N10.out.lt (by have h1 := S10.out.ws.ord; have h2 := S10.out.bn; have h3 := L8.out.2.1; omega) N10.out)
               have kp : W11.cell? ⟨b8, 0, none⟩ = some (.string x.path) := by rw [N11.out.cell]; rfl
               have kd : W11.cell? ⟨b8, 1, none⟩ = some (.bool true) := by rw [N11.out.cell, ← XD.out]; rfl
               have kx : W11.cell? ⟨b8, 2, none⟩ = some (.slice A' x.data.length c') := by rw [N11.out.cell]; rfl
               have kwk : W11.cell? ⟨B.bw, 0, none⟩ = some (.func (.func 74) #[] #[.pointer (some ⟨B.ba, 0, none⟩), .pointer (some ⟨B.lv, 0, none⟩), .pointer (some ⟨B.bw, 0, none⟩), .pointer (some ⟨B.bb, 0, none⟩)]) := by rw [S11.out.ws.wk.cell]; rfl
               have kbb : W11.cell? ⟨B.bb, 0, none⟩ = some (.func (.func 70) #[] #[.pointer (some ⟨B.se, 0, none⟩), .pointer (some ⟨B.bbl, 0, none⟩), .pointer (some ⟨B.wdb, 0, none⟩)]) := by rw [S11.out.ws.bb.cell]; rfl
               clear kat fat hWW hO hA)
            | (go_at_call 74
               have hcall := IH.out n' (by have := HN.out; omega) W11 _ hi base B x.path (i' + 1) _ cl bl1 v1 es2 j2 bl2 S11.out.ws R2.out O2.out.1 O2.out.2
               refine hcall.mono ?_
               rintro e w12 ⟨rfl, v2, hW2, hO2, hv2⟩
               have S12 := Aside0.mk ((S11.out.called hW2 hO2 hv2 (fun b h => by have e : b = b8 := h; have := N11.out.lt; omega)).drop)
               obtain ⟨dd, hdd⟩ : ∃ dd, dd = digL wd (encL es2) := ⟨_, rfl⟩
               rw [← hdd]
               obtain ⟨dgv, hdgv⟩ : ∃ dgv, dgv = digV dd := ⟨_, rfl⟩
               rw [← hdgv]
               have DD := Aside0.mk (And.intro hdd hdgv)
               have DL := Aside0.mk (show dd.length = 32 by rw [hdd]; exact digL_len wd _ hw2)
               clear hcall hW2 hO2 hv2 hdd hdgv)
            | (refine arm_build rfl 101 _ rfl (ecells ⟨nm, 2, dd⟩) (by rw [DD.out.2]; simp only [List.map_toArray, List.map_cons, List.map_nil]; exact fill102 nm 2 dd DL.out) ?_
               intro v42 hv
               have V42 := Aside0.mk hv
               clear hv)
            | (refine arm_slice1 rfl 127 101 _ rfl _ 34 (ecells ⟨nm, 2, dd⟩) v42 rfl (by rw [V42.out]; rfl) tu127 info101 (by decide) (by decide) (ecells_len (x := ⟨nm, 2, dd⟩) DL.out) ?_
               intro W13 b13 hb hWW
               have hBB : Below w12.heap.size w12 W13 := by subst hWW; exact (Below.refl _ _).alloc (Nat.le_refl _) _
               have A13 := Aside0.mk (show At W13 b13 101 (ecells ⟨nm, 2, dd⟩) by subst hWW hb; exact At.new _ _ _)
               have S13 := Aside0.mk (S12.out.below hBB)
               clear hb hWW hBB)
            | (refine arm_appendR rfl _ _ 127 101 rfl _ 34 56 tu127 info101b rfl (by decide) (.slice Ae es.length ce) es.length (eRow es) (ecells ⟨nm, 2, dd⟩) rfl S13.out.own ⟨b13, 0, none⟩ 1 1 rfl (by rw [ecells_len (x := ⟨nm, 2, dd⟩) DL.out]) (fun i u hu => by rw [Addr.add_mid, A13.out.cell, Nat.zero_add]; exact hu) (one_ecells _) (by have := HBD.out.2.1; omega) (by have := HBD.out.2.1; omega) ?_
               intro ve' W14 hV hO hq
               have S14 := Aside0.mk (S13.out.push (x := ⟨nm, 2, dd⟩) DL.out hO hV hq (fun _ h => h.elim))
               clear hV hO hq)
            | fail)
          go_roundg n'
          case measure => have := HN.out; omega
          case rel => exact ⟨n', j2, _, _, v2, ⟨rfl, by have := HN.out; omega⟩, ⟨by have h := R3.out; rw [← DD.out.1] at h; exact h⟩, S14⟩
      · rw [if_neg hq] at hr
        simp only [Option.some.injEq, Prod.mk.injEq] at hr
        have hqb : (up.toList == p.toList) = false := beq_eq_false_iff_ne.2 hq
        have EQ := Aside0.mk hr
        clear hr hq
        go_wp2_with (first
          | (refine arm_load_row rfl 50 _ rfl g0 (o0 + i' * 3) rfl (icells x A' c') ROW.out row50 size50 ?_
             intro v21 hv
             have V21 := Aside0.mk hv
             clear hv)
          | (refine arm_alloc rfl 50 rfl _ _ info50 ?_; intro W8 b8 hb hWW
             have hN : At W8 b8 50 [.string ⟨#[]⟩, .bool false, .slice none 0 0] := by subst hWW hb; exact At.new _ _ _
             have hBB : Below wr.heap.size wr W8 := by subst hWW; exact (Below.refl _ _).alloc (Nat.le_refl _) _
             have L8 := Aside0.mk (show wr.heap.size ≤ b8 ∧ w.heap.size ≤ b8 ∧ b8 ≠ b6 from ⟨by rw [hb]; exact Nat.le_refl _, by rw [hb]; exact HS.out.only.size, by have := HS.out.cell6.lt; omega⟩)
             have S8 := Aside0.mk ((HS.out.apart L8.out.1).below hBB)
             have DAT := Aside0.mk (DAT.out.below hBB (by have := HB.out; omega))
             have N8 := Aside0.mk hN
             clear hN hb hWW hBB)
          | (refine arm_store_row rfl 50 _ _ rfl b8 50 _ (icells x A' c') rfl V21.out N8.out rfl size50 (one_icells x A' c') ?_
             intro W9 hWW
             have hO : Only (· = b8) W8.heap.size W8 W9 := by subst hWW; exact Only.setRow (S := (· = b8)) (Only.refl _ _ _) (.inl rfl) _
             have hN : At W9 b8 50 (icells x A' c') := by subst hWW; exact N8.out.setRow _
             have kp : W9.cell? ⟨b8, 0, none⟩ = some (.string x.path) := by rw [hN.cell]; rfl
             have S9 := Aside0.mk (S8.out.write rfl L8.out.2.1 L8.out.2.2 hO)
             have DAT := Aside0.mk (DAT.out.only hO (by have h1 := S8.out.ws.big; omega) (fun b hb => by have e : b = b8 := hb; have h1 := HB.out; have h2 := L8.out.2.1; omega))
             have N9 := Aside0.mk hN
             clear hWW hO hN)
          | (go_at_call 75
             refine (split_calls x.path W9 S9.out.ws.glob).mono ?_
             rintro e w10 ⟨rfl, hB⟩
             rw [← UP.out.1, ← UP.out.2.1, ← UP.out.2.2]
             have S10 := Aside0.mk (S9.out.below hB)
             have DAT := Aside0.mk (DAT.out.below hB (by have h1 := S9.out.ws.big; omega))
             have N10 := Aside0.mk (N9.out.below hB N9.out.lt)
             have kat : w10.cell? ⟨B.ba, 0, none⟩ = some (.int .i64 (i' : Int)) := by rw [S10.out.ws.at_.cell]; rfl
             have fat : w10.frozen? ⟨B.ba, 0, none⟩ = false := S10.out.ws.at_.frozen _
             clear kp hB)
          | fail)
        have HS := Aside0.mk S10.out.drop
        have RE := Aside0.mk (show RdE w10 Ae es from fun hne => by
          obtain ⟨A1, c1, e1, _, _, r1⟩ := HS.out.own.shape
          injection e1 with e2 _ e3
          subst e2 e3
          obtain ⟨g, g1, _, g3, g4⟩ := r1 (List.length_pos_iff.2 hne)
          exact ⟨g, g1, g3, g4⟩)
        go_wp2_with (first
          | (go_at_call 76
             have hok1 := EQ.out.1
             have hokr := OKR.out
             rw [← hok1] at hokr
             refine (encode_calls w10 Ae ce es HS.out.digs RE.out (by unfold okRow at hokr; simp at hokr; exact hokr.1) (by unfold okRow at hokr; simp at hokr; exact hokr.2)).mono ?_
             rintro e w13 ⟨vb, rfl, hb1, hb2, hB⟩
             obtain ⟨Ab, cb, hvb, hcb, hrb, hob⟩ := hb1.rdl
             subst hvb
             have RB := Aside0.mk (And.intro hcb (And.intro hrb hob))
             have FB := Aside0.mk (show ∀ k, (Value.slice Ab (encL es).length cb).ownBlock = some k → w10.heap.size ≤ k from hb2)
             have S13 := Aside0.mk (HS.out.below hB)
             have kbb : w13.cell? ⟨B.bb, 0, none⟩ = some (.func (.func 70) #[] #[.pointer (some ⟨B.se, 0, none⟩), .pointer (some ⟨B.bbl, 0, none⟩), .pointer (some ⟨B.wdb, 0, none⟩)]) := by rw [S13.out.ws.bb.cell]; rfl
             clear hok1 hokr hb1 hb2 hB hcb hrb hob)
          | (go_at_call 70
             have hA : encL es ≠ [] → ∀ ad, Ab = some ad → ad.block ≠ B.bm ∧ ad.block ≠ B.bbl ∧ v1.ownBlock ≠ some ad.block := fun hne ad had => by
               obtain ⟨ad', q1, q2⟩ := RB.out.2.2 hne
               rw [had] at q1; injection q1 with q1; subst q1
               have h1 := FB.out _ q2
               have h2 := HS.out.ws.st.ord
               exact ⟨by omega, by omega, fun h => by have := (HS.out.v1x h).2; omega⟩
             have hbl1 : bl1.length < 1048576 := HBD.out.1
             refine (blob_calls w13 _ base B.se B.bbl B.bm B.wdb wd bl1 v1 Ab cb (encL es) S13.out.ws.st RB.out.2.1 hA (encL_le HS.out.digs (by rw [EQ.out.1]; exact OKR.out)) RB.out.1 hw1 hw2 hbl1).mono ?_
             rintro e w14 ⟨rfl, v2, hB2, hO2, hv2⟩
             have S14 := Aside0.mk (S13.out.called (S13.out.ws.blobbed hB2 hO2) (hO2.mono (Nat.le_refl _) (fun b _ h => Or.inr h)) hv2 (fun _ h => h.elim))
             obtain ⟨dgv, hdgv⟩ : ∃ dgv, dgv = digV (digL wd (encL es)) := ⟨_, rfl⟩
             rw [← hdgv]
             have DGV := Aside0.mk hdgv
             clear hA hbl1 hB2 hO2 hv2 hdgv)
          | (refine arm_store_row rfl 27 _ _ rfl b6 27 _ ((digL wd (encL es)).map bv) rfl DGV.out S14.out.cell6 (by rw [List.length_map, digL_len wd _ hw2]; rfl) (by rw [List.length_map, digL_len wd _ hw2]; exact size27) (one_bv _) ?_
             intro W15 hWW
             have hO : Only (· = b6) w14.heap.size w14 W15 := by subst hWW; exact Only.setRow (S := (· = b6)) (Only.refl _ _ _) (.inl rfl) _
             have N15 := Aside0.mk (show At W15 b6 27 ((digL wd (encL es)).map bv) by subst hWW; exact S14.out.cell6.setRow _)
             have O15 := Aside0.mk hO
             clear hWW hO)
          | fail)
        refine bodyPost_ret (results_cell1 rfl _ _ b6 27 _ _ rfl N15.out tu27 rfl (by rw [List.length_map, digL_len wd _ hw2]; exact size27)) rfl ?_
        have hes := EQ.out.1
        rw [← hes, ← EQ.out.2.1, ← EQ.out.2.2]
        refine ⟨rfl, v2, ?_, ?_, S14.out.vown⟩
        · exact (S14.out.ws.only O15.out (fun b hb => by have e : b = b6 := hb; subst e; exact ⟨Nat.le_trans S14.out.bn S14.out.b6n, fun hd => hd.2.1 rfl⟩)).mono (fun b _ hd => hd.1) (fun b hb => hb.elim (S14.out.dom b) (fun h1 => Nat.le_trans S14.out.bn h1))
        · exact S14.out.only.trans (O15.out.mono S14.out.only.size (fun b hb h => by have e : b = b6 := h; have := S14.out.b6n; omega))
end Go.Proofs.YtbpfmlckddhgbaaGreatDoor
/- tree: Check. -/
namespace Go.Proofs.YtbpfmlckddhgbaaGreatDoor
set_option linter.unusedVariables false
set_option linter.unusedSimpArgs false
open Go Go.RowKit Go.Maps Go.WideMaps Go.Proofs.YtbpfmlckddhgbaaGreatDoorW.PrintWords Go.Proofs.YtbpfmlckddhgbaaGreatDoorW.PrintLast
section
variable {ops : Array Oper} {rest : List Oper} {o : Oper} {a : Act} {w : World} {Q : Exit → Act → World → Prop}
theorem arm_insert (hg : o.guard = none) (m x v : Operand) (T : TypeId) (ho : o.op = Op.insert T m x v) (K E : TypeId) (hK : Keyed Tryz.prog K) (ht : Tryz.prog.underlying T = some (.map K E)) (b : Nat) (M : MapF) (sz : Nat)
    (hm : a.eval m = .map (some b)) (hown : OMap w K b M sz) (hn : sz < maxLen) (key val : Value) (d : List UInt8) (hx : a.eval x = key) (hv : a.eval v = val) (hkey : keyOf Tryz.prog K key = some (.string d))
    (h : ∀ W, OMap W K b (M.put d val) (if (M d).isSome then sz else sz + 1) → Only (· = b) w.heap.size w W → wpList Tryz.prog ops Q rest (a.put o.dst undef) W) : wpList Tryz.prog ops Q (o :: rest) a w := by
  refine wpList_plain hg fun K' hK' => ?_
  obtain ⟨D, h1, h2, h3, h4⟩ := hown
  obtain ⟨w', hrun, hown', hgr⟩ := h1.update hK ht hn hkey (show heldR val = some (.held val, []) from rfl)
  unfold Oper.wp
  simp [execOp, ho, hm, hx, hv, hrun, Result.andThen]
  have hs := OMap.put_spec (h1.tidy hK) h2 h3 h4 d val
  refine hK' _ _ (h w' ⟨_, ?_, hs.1, hs.2.1, hs.2.2⟩ ⟨hgr.os, hgr.tape, hgr.output, hgr.size, fun k hk hS => hgr.block k hk (fun e => hS (by injection e))⟩)
  obtain ⟨es, clock, hb, F, hle, hD⟩ := hown'
  refine ⟨es, clock, hb, F, ?_, hD⟩
  have : Maps.size (D.put (.string d) (.held val)) = es.size := by
    rw [hD]; simp [Maps.size, length_sorted]
  rw [← hs.2.2, this]; exact Nat.le_refl _
end
abbrev Cnt := List UInt8 → Option Nat
def cntM (cnt : Cnt) : MapF := fun s => (cnt s).map (fun (n : Nat) => Value.int .i64 (n : Int))
def cnt0 : Cnt := fun s => if s = [] then some 0 else none
def Cnt.put (cnt : Cnt) (k : List UInt8) (n : Nat) : Cnt := fun s => if s = k then some n else cnt s
theorem cntM_put (cnt : Cnt) (k : List UInt8) (n : Nat) : (cntM cnt).put k (.int .i64 (n : Int)) = cntM (cnt.put k n) := by
  funext s
  unfold MapF.put cntM Cnt.put
  split <;> rfl
def upOf (x : Itm) : List UInt8 := (splitP x.path).1.data.toList
def stepC (cnt : Cnt) (x : Itm) : Cnt := let c := cnt.put (upOf x) ((cnt (upOf x)).getD 0 + 1); if x.dir then c.put x.path.data.toList 0 else c
def itemOk (prev : Option ByteArray) (cnt : Cnt) (x : Itm) : Bool :=
  decide ((splitP x.path).2.2 = 0) && ((match cnt (upOf x) with | none => false | some n => decide (n < 1024)) && ((match prev with | none => true | some q => less q x.path) && (!(x.dir && decide (0 < x.data.length)) && decide (x.data.length ≤ 1048576))))
def chkM : List Itm → Option ByteArray → Cnt → Nat → Bool
  | [], _, _, all => decide (all ≤ 67108864)
  | x :: xs, prev, cnt, all => itemOk prev cnt x && chkM xs (some x.path) (stepC cnt x) (all + x.data.length)
def isTreeM (its : List Itm) : Bool := decide (its.length < 65536) && chkM its none cnt0 0
def prevOf (its : List Itm) : Nat → Option ByteArray
  | 0 => none
  | j + 1 => (its[j]?).map (·.path)
theorem splitP_clean {p : ByteArray} (h : (splitP p).2.2 = 0) : p.size ≤ 4096 := by
  unfold splitP at h
  split at h
  · rename_i hc; exact isClean_size hc
  · exact absurd h (by decide)
structure CkSt (w wr : World) (hi : Nat) (A : Option Addr) (its : List Itm) (bm : Nat) (cnt : Cnt) (sz j : Nat) : Prop where
  map : OMap wr 9 bm (cntM cnt) sz
  szb : sz ≤ 1 + 2 * j
  below : Below w.heap.size w wr
  bmn : w.heap.size ≤ bm
  items : RdI wr hi A its
  glob : Glob wr
  hi_ : hi ≤ w.heap.size
  gl : 0 < w.heap.size
  prev : ∀ q, prevOf its j = some q → q.size ≤ 4096
namespace CkSt
variable {w wr w1 : World} {hi : Nat} {A : Option Addr} {its : List Itm} {bm : Nat} {cnt : Cnt} {sz j : Nat}
theorem step (h : CkSt w wr hi A its bm cnt sz j) (hb : Below wr.heap.size wr w1) : CkSt w w1 hi A its bm cnt sz j :=
  ⟨h.map.below hb h.map.lt, h.szb, h.below.trans (hb.mono h.below.size), h.bmn, h.items.only (Only.of_below (S := fun _ => False) hb) (Nat.le_trans h.hi_ h.below.size) (fun _ h => h.elim), h.glob.below hb, h.hi_, h.gl, h.prev⟩
theorem write (h : CkSt w wr hi A its bm cnt sz j) {b8 : Nat} (h8 : w.heap.size ≤ b8) (hne : b8 ≠ bm) (ho : Only (· = b8) wr.heap.size wr w1) : CkSt w w1 hi A its bm cnt sz j :=
  ⟨h.map.only ho h.map.lt (Ne.symm hne), h.szb, h.below.trans (ho.to_below h.below.size (fun b hb => by have e : b = b8 := hb; omega)), h.bmn, h.items.only ho (Nat.le_trans h.hi_ h.below.size) (fun b hb => by have e : b = b8 := hb; have := h.hi_; omega), WSt.globOnly h.glob ho (fun hs => by have e : 0 = b8 := hs; have h5 := h.gl; omega), h.hi_, h.gl, h.prev⟩
theorem put (h : CkSt w wr hi A its bm cnt sz j) {cnt' : Cnt} {sz' j' : Nat} (hM : OMap w1 9 bm (cntM cnt') sz') (ho : Only (· = bm) wr.heap.size wr w1) (hs : sz' ≤ 1 + 2 * j') (hp : ∀ q, prevOf its j' = some q → q.size ≤ 4096) (hhb : hi ≤ bm) : CkSt w w1 hi A its bm cnt' sz' j' :=
  ⟨hM, hs, h.below.trans (ho.to_below h.below.size (fun b hb => by have e : b = bm := hb; have := h.bmn; omega)), h.bmn, h.items.only ho (Nat.le_trans h.hi_ h.below.size) (fun b hb => by have e : b = bm := hb; omega), WSt.globOnly h.glob ho (fun hs => by have e : 0 = bm := hs; have h5 := h.gl; have := h.bmn; omega), h.hi_, h.gl, hp⟩
end CkSt
theorem splitP_up (p : ByteArray) : (splitP p).1.size ≤ 4096 := by
  unfold splitP
  split
  · rename_i hc
    have h := isClean_size hc
    split
    · decide
    · show (p.extract _ _).size ≤ 4096
      rw [ByteArray.size_extract]; omega
  · decide
set_option maxRecDepth 8000 in
set_option maxHeartbeats 4000000 in
theorem check_calls (w : World) (hi : Nat) (A : Option Addr) (c : Nat) (its : List Itm) (hI : RdI w hi A its) (hhi : hi ≤ w.heap.size) (hG : Glob w) (hdl : ∀ x ∈ its, x.data.length ≤ 1099511627776) (hlen : its.length ≤ 1099511627776) :
    Calls Tryz.prog 33 #[.slice A its.length c] w fun e w' => e = .returned (.int .i64 (if isTreeM its then 0 else 64)) ∧ Below w.heap.size w w' := by
  have HI := Aside0.mk hI
  have HG := Aside0.mk (And.intro hG hG.lt)
  have HH := Aside0.mk hhi
  have DL := Aside0.mk hdl
  clear hI hG hhi hdl
  have hmm := @run_makeMap Tryz.prog
  by_cases hl : its.length < 65536
  · have hres : isTreeM its = chkM its none cnt0 0 := by unfold isTreeM; rw [decide_eq_true hl]; rfl
    rw [hres]
    obtain ⟨R, hR⟩ : ∃ R, R = chkM its none cnt0 0 := ⟨_, rfl⟩
    rw [← hR]
    obtain ⟨rn, hrn⟩ : ∃ rn : Int, rn = if R then 0 else 64 := ⟨_, rfl⟩
    rw [← hrn]
    have RN := Aside0.mk hrn
    have RR := Aside0.mk hR
    have t1 : decide ((its.length : Int) ≥ 65536) = false := decide_eq_false (by omega)
    have t1b : decide (65536 ≤ (its.length : Int)) = false := decide_eq_false (by omega)
    clear hres hR hrn
    go_enter Tryz.func33, Tryz.ntmps33
    go_wp2_with (first
      | (refine arm_insert rfl _ _ _ 121 rfl 9 3 strKeyed tu121 w.heap.size (fun _ => none) 0 rfl (OMap.new w 9) (by decide) (.string ⟨#[]⟩) (.int .i64 0) [] rfl rfl (keyOf_str [] (by decide)) ?_
         intro W1 hM hO
         have hB : Below w.heap.size w W1 := ((Below.refl _ _).alloc (Nat.le_refl _) _).trans (hO.to_below (by rw [World.size_alloc]; omega) (fun b hb => by have e : b = w.heap.size := hb; omega))
         have C1 : Aside0 (CkSt w W1 hi A its w.heap.size cnt0 1 0) := ⟨by
           refine ⟨?_, by omega, hB, Nat.le_refl _, HI.out.only (Only.of_below (S := fun _ => False) hB) HH.out (fun _ h => h.elim), HG.out.1.below hB, HH.out, HG.out.2, fun q hq => by simp [prevOf] at hq⟩
           have e : MapF.put (fun _ => none) [] (.int .i64 0) = cntM cnt0 := by
             funext s
             unfold MapF.put cntM cnt0
             split <;> rfl
           rw [e] at hM
           exact hM⟩
         clear hM hO hB)
      | fail)
    go_loopg [4, 19] its.length (fun g a i wr => ∃ (j all sz : Nat) (cnt : Cnt), Aside0 (j + g = its.length) ∧ i = .int .i64 j ∧ a = .int .i64 (all : Int) ∧ Aside0 (CkSt w wr hi A its w.heap.size cnt sz j) ∧ Aside0 (R = chkM (its.drop j) (prevOf its j) cnt all) ∧ all ≤ j * 1099511627776)
    case atStart => exact ⟨0, 0, 1, cnt0, ⟨by omega⟩, rfl, rfl, C1, ⟨RR.out⟩, by omega⟩
    case round =>
      obtain ⟨j, all, sz, cnt, HJ, rfl, rfl, HS, HR, hall⟩ := hrel
      by_cases hlt : j < its.length
      · obtain ⟨x, hx⟩ : ∃ x, its[j]? = some x := ⟨_, List.getElem?_eq_getElem hlt⟩
        obtain ⟨g0, o0, hA, hg0, hits⟩ := HS.out.items (by intro h; rw [h] at hlt; simp at hlt)
        obtain ⟨A', c', hrow, hc', _⟩ := hits j x hx
        subst hA
        have HITS := Aside0.mk hits
        have ROW := Aside0.mk hrow
        have hm := DL.out x (List.mem_of_getElem? hx)
        have hr := HR.out
        rw [List.drop_eq_getElem_cons hlt, (List.getElem?_eq_some_iff.1 hx).2] at hr
        obtain ⟨m, hmm2⟩ : ∃ m, m = x.data.length := ⟨_, rfl⟩
        have MX := Aside0.mk hmm2
        have HX := Aside0.mk hx
        have G0 := Aside0.mk hg0
        rw [← hmm2] at hm
        obtain ⟨up, hup⟩ : ∃ up, up = (splitP x.path).1 := ⟨_, rfl⟩
        obtain ⟨nm, hnm⟩ : ∃ nm, nm = (splitP x.path).2.1 := ⟨_, rfl⟩
        obtain ⟨er, her⟩ : ∃ er, er = (splitP x.path).2.2 := ⟨_, rfl⟩
        have UP := Aside0.mk (And.intro hup (And.intro hnm her))
        have UPK := Aside0.mk (show up.data.toList = upOf x by rw [hup]; rfl)
        have UPS := Aside0.mk (show up.size ≤ maxLen by rw [hup]; exact Nat.le_trans (splitP_up _) (by decide))
        have R2 := Aside0.mk hr
        clear hits hrow hc' hr hmm2 hx hg0 hup hnm her
        go_wp2_with (first
            | (refine arm_load_row rfl 50 _ rfl g0 (o0 + j * 3) rfl (icells x A' c') ROW.out row50 size50 ?_
               intro v21 hv
               have V21 := Aside0.mk hv
               clear hv)
            | (refine arm_alloc rfl 50 rfl _ _ info50 ?_; intro W8 b8 hb hWW
               have hN : At W8 b8 50 [.string ⟨#[]⟩, .bool false, .slice none 0 0] := by subst hWW hb; exact At.new _ _ _
               have hBB : Below wr.heap.size wr W8 := by subst hWW; exact (Below.refl _ _).alloc (Nat.le_refl _) _
               have L8 := Aside0.mk (show w.heap.size ≤ b8 ∧ b8 ≠ w.heap.size ∧ wr.heap.size ≤ b8 from ⟨by rw [hb]; exact HS.out.below.size, by have := HS.out.map.lt; omega, by omega⟩)
               have S8 := Aside0.mk (HS.out.step hBB)
               have N8 := Aside0.mk hN
               clear hN hb hWW hBB)
            | (refine arm_store_row rfl 50 _ _ rfl b8 50 _ (icells x A' c') rfl V21.out N8.out rfl size50 (one_icells x A' c') ?_
               intro W9 hWW
               have hO : Only (· = b8) W8.heap.size W8 W9 := by subst hWW; exact Only.setRow (S := (· = b8)) (Only.refl _ _ _) (.inl rfl) _
               have hN : At W9 b8 50 (icells x A' c') := by subst hWW; exact N8.out.setRow _
               have kp : W9.cell? ⟨b8, 0, none⟩ = some (.string x.path) := by rw [hN.cell]; rfl
               have S9 := Aside0.mk (S8.out.write L8.out.1 L8.out.2.1 hO)
               have N9 := Aside0.mk hN
               clear hWW hO hN)
            | (go_at_call 75
               refine (split_calls x.path W9 S9.out.glob).mono ?_
               rintro e w10 ⟨rfl, hB⟩
               rw [← UP.out.1, ← UP.out.2.1, ← UP.out.2.2]
               have S10 := Aside0.mk (S9.out.step hB)
               have N10 := Aside0.mk (N9.out.below hB N9.out.lt)
               have kp : w10.cell? ⟨b8, 0, none⟩ = some (.string x.path) := by rw [N10.out.cell]; rfl
               have kd : w10.cell? ⟨b8, 1, none⟩ = some (.bool x.dir) := by rw [N10.out.cell]; rfl
               have kx : w10.cell? ⟨b8, 2, none⟩ = some (.slice A' m c') := by rw [N10.out.cell, MX.out]; rfl
               have hlk : (Instr.lookup 121 (.map (some w.heap.size)) (.string up) true).run Tryz.prog w10 = .ok (.tuple #[((cntM cnt) (upOf x)).getD (.int .i64 0), .bool ((cntM cnt) (upOf x)).isSome]) w10 := S10.out.map.look strKeyed tu121 (zero3 w10) (key := .string up) (d := upOf x) (by rw [← UPK.out]; exact keyOf_string_mk tu9s UPS.out)
               clear hB)
            | fail)
        clear hlk
        trace_state
        by_cases he : er = 0
        · subst he
          have XS := Aside0.mk (show x.path.size ≤ 4096 from splitP_clean UP.out.2.2.symm)
          have XB := Aside0.mk (show x.path.size ≤ 1048575 by have := XS.out; omega)
          rcases hc : cnt (upOf x) with _ | n
          · have e1 : cntM cnt (upOf x) = none := by unfold cntM; rw [hc]; rfl
            rw [e1, Option.getD_none, Option.isSome_none]
            have CN := Aside0.mk hc
            clear hc e1
            refine wp_region_quiet_tail 22 (by kernel_rfl) (by kernel_rfl) ?_
            simp only [List.take_succ_cons, List.take_zero, List.drop_succ_cons, List.drop_zero]
            repeat (first | go_big_quiet_skip | (go_big_quiet_want; go_big_quiet_op; first | go_big_quiet_on | (apply Exists.intro; refine ⟨?_, ?_⟩; (· (fail)); go_big_quiet_on)))
            refine wpQuiet_nil ?_
            go_wp2_with fail
            go_ret
            refine ⟨?_, S10.out.below.drew⟩
            have hr := R2.out
            unfold chkM itemOk at hr
            rw [← UP.out.2.2, CN.out] at hr
            simp at hr
            rw [RN.out, hr]; rfl
          · have e1 : cntM cnt (upOf x) = some (.int .i64 (n : Int)) := by unfold cntM; rw [hc]; rfl
            rw [e1, Option.getD_some, Option.isSome_some]
            have CN := Aside0.mk hc
            clear hc e1
            by_cases hn : n < 1024
            · have t3 : decide ((n : Int) ≥ 1024) = false := decide_eq_false (by omega)
              have t3b : decide (1024 ≤ (n : Int)) = false := decide_eq_false (by omega)
              have PV := Aside0.mk (show prevOf its (j + 1) = some x.path by show (its[j]?).map (·.path) = some x.path; rw [HX.out]; rfl)
              rcases Nat.eq_zero_or_pos j with hj | hj
              · have PJ := Aside0.mk (show prevOf its j = none by rw [hj]; rfl)
                have tj : decide ((j : Int) > 0) = false := decide_eq_false (by omega)
                have tjb : decide (0 < (j : Int)) = false := decide_eq_false (by omega)
                rcases hd : x.dir with _ | _
                · rw [hd] at kd
                  have HD := Aside0.mk hd
                  by_cases hbig : m ≤ 1048576
                  · have t4 : decide ((m : Int) > 1048576) = false := decide_eq_false (by omega)
                    have t4b : decide (1048576 < (m : Int)) = false := decide_eq_false (by omega)
                    refine wp_region_quiet_tail 22 (by kernel_rfl) (by kernel_rfl) ?_
                    simp only [List.take_succ_cons, List.take_zero, List.drop_succ_cons, List.drop_zero]
                    repeat (first | go_big_quiet_skip | (go_big_quiet_want; go_big_quiet_op; first | go_big_quiet_on | (apply Exists.intro; refine ⟨?_, ?_⟩; (· (fail)); go_big_quiet_on)))
                    refine wpQuiet_nil ?_
                    have hlk2 : (Instr.lookup 121 (.map (some w.heap.size)) (.string up) false).run Tryz.prog w10.drew = .ok (.int .i64 (n : Int)) w10.drew := by
                      have e := (S10.out.step ((Below.refl _ _).drew)).map.look1 strKeyed tu121 (zero3 w10.drew) (key := .string up) (d := upOf x) (by rw [← UPK.out]; exact keyOf_string_mk tu9s UPS.out)
                      rw [e]; unfold cntM; rw [CN.out]; rfl
                    have SS := Aside0.mk (S10.out.step ((Below.refl _ _).drew))
                    have NN := Aside0.mk N10.out.drew
                    go_wp2_with (first
                      | (refine arm_put rfl _ _ _ 121 rfl 9 3 strKeyed tu121 w.heap.size (cntM cnt) sz rfl SS.out.map (by have h1 := SS.out.szb; unfold maxLen; omega) (.string up) (.int .i64 ((n : Int) + 1)) (upOf x) rfl rfl (by rw [← UPK.out]; exact keyOf_string_mk tu9s UPS.out) ?_
                         intro W13 hM hO
                         rw [show (Value.int .i64 ((n : Int) + 1)) = .int .i64 ((n + 1 : Nat) : Int) by rw [Int.natCast_add]; rfl, cntM_put, show (cntM cnt (upOf x)).isSome = true by unfold cntM; rw [CN.out]; rfl, if_pos rfl] at hM
                         have S13 := Aside0.mk (SS.out.put (j' := j + 1) hM hO (by have h1 := SS.out.szb; omega) (fun q hq => by rw [PV.out] at hq; injection hq with hq; rw [← hq]; exact XS.out) (Nat.le_trans SS.out.hi_ (Nat.le_refl _)))
                         have N13 := Aside0.mk (hO.at_ NN.out.lt L8.out.2.1 NN.out)
                         have kp : W13.cell? ⟨b8, 0, none⟩ = some (.string x.path) := by rw [N13.out.cell]; rfl
                         have kd : W13.cell? ⟨b8, 1, none⟩ = some (.bool x.dir) := by rw [N13.out.cell]; rfl
                         have M13 := Aside0.mk True.intro
                         clear hM hO)
                      | fail)
                    go_roundg (its.length - (j + 1))
                    case measure => have := HJ.out; omega
                    case rel =>
                      have hr := R2.out
                      unfold chkM at hr
                      have hk : itemOk (prevOf its (j)) cnt x = true := by
                        unfold itemOk
                        rw [← UP.out.2.2, CN.out, PJ.out]
                        simp [hn, ← MX.out, HD.out, hbig]
                      rw [hk, Bool.true_and] at hr
                      have hs := S13.out
                      rw [← show stepC cnt x = cnt.put (upOf x) (n + 1) by unfold stepC; rw [HD.out, CN.out]; rfl] at hs
                      exact ⟨j + 1, all + m, _, stepC cnt x, ⟨by have := HJ.out; omega⟩, by go_num, by go_num, ⟨hs⟩, ⟨by rw [PV.out, MX.out]; exact hr⟩, by omega⟩
                  · have t4 : decide ((m : Int) > 1048576) = true := decide_eq_true (by omega)
                    have t4b : decide (1048576 < (m : Int)) = true := decide_eq_true (by omega)
                    refine wp_region_quiet_tail 22 (by kernel_rfl) (by kernel_rfl) ?_
                    simp only [List.take_succ_cons, List.take_zero, List.drop_succ_cons, List.drop_zero]
                    repeat (first | go_big_quiet_skip | (go_big_quiet_want; go_big_quiet_op; first | go_big_quiet_on | (apply Exists.intro; refine ⟨?_, ?_⟩; (· (fail)); go_big_quiet_on)))
                    refine wpQuiet_nil ?_
                    go_wp2_with fail
                    go_ret
                    refine ⟨?_, S10.out.below.drew⟩
                    have hr := R2.out
                    unfold chkM itemOk at hr
                    rw [← UP.out.2.2, CN.out, PJ.out] at hr
                    simp [hn, ← MX.out, HD.out, hbig] at hr
                    rw [RN.out, hr]; rfl
                · rw [hd] at kd
                  have HD := Aside0.mk hd
                  rcases Nat.eq_zero_or_pos m with hm0 | hm0
                  · have HM0 := Aside0.mk hm0
                    have t5 : decide ((m : Int) > 0) = false := decide_eq_false (by omega)
                    have t5b : decide (0 < (m : Int)) = false := decide_eq_false (by omega)
                    have t4 : decide ((m : Int) > 1048576) = false := decide_eq_false (by omega)
                    have t4b : decide (1048576 < (m : Int)) = false := decide_eq_false (by omega)
                    refine wp_region_quiet_tail 22 (by kernel_rfl) (by kernel_rfl) ?_
                    simp only [List.take_succ_cons, List.take_zero, List.drop_succ_cons, List.drop_zero]
                    repeat (first | go_big_quiet_skip | (go_big_quiet_want; go_big_quiet_op; first | go_big_quiet_on | (apply Exists.intro; refine ⟨?_, ?_⟩; (· (fail)); go_big_quiet_on)))
                    refine wpQuiet_nil ?_
                    have hlk2 : (Instr.lookup 121 (.map (some w.heap.size)) (.string up) false).run Tryz.prog w10.drew = .ok (.int .i64 (n : Int)) w10.drew := by
                      have e := (S10.out.step ((Below.refl _ _).drew)).map.look1 strKeyed tu121 (zero3 w10.drew) (key := .string up) (d := upOf x) (by rw [← UPK.out]; exact keyOf_string_mk tu9s UPS.out)
                      rw [e]; unfold cntM; rw [CN.out]; rfl
                    have SS := Aside0.mk (S10.out.step ((Below.refl _ _).drew))
                    have NN := Aside0.mk N10.out.drew
                    go_wp2_with (first
                      | (have G := M13.out
                         refine arm_put rfl _ _ _ 121 rfl 9 3 strKeyed tu121 w.heap.size (cntM (cnt.put (upOf x) (n + 1))) sz rfl S13.out.map (by have h1 := S13.out.szb; unfold maxLen; omega) (.string x.path) (.int .i64 0) x.path.data.toList rfl rfl (keyOf_string_mk tu9s (by have := XS.out; unfold maxLen; omega)) ?_
                         intro W14 hM hO
                         rw [show (Value.int .i64 0) = .int .i64 ((0 : Nat) : Int) from rfl, cntM_put] at hM
                         have S14 := Aside0.mk (S13.out.put (j' := j + 1) hM hO (by have h1 := SS.out.szb; split <;> omega) (fun q hq => by rw [PV.out] at hq; injection hq with hq; rw [← hq]; exact XS.out) (Nat.le_trans S13.out.hi_ (Nat.le_refl _)))
                         clear hM hO)
                      | (refine arm_put rfl _ _ _ 121 rfl 9 3 strKeyed tu121 w.heap.size (cntM cnt) sz rfl SS.out.map (by have h1 := SS.out.szb; unfold maxLen; omega) (.string up) (.int .i64 ((n : Int) + 1)) (upOf x) rfl rfl (by rw [← UPK.out]; exact keyOf_string_mk tu9s UPS.out) ?_
                         intro W13 hM hO
                         rw [show (Value.int .i64 ((n : Int) + 1)) = .int .i64 ((n + 1 : Nat) : Int) by rw [Int.natCast_add]; rfl, cntM_put, show (cntM cnt (upOf x)).isSome = true by unfold cntM; rw [CN.out]; rfl, if_pos rfl] at hM
                         have S13 := Aside0.mk (SS.out.put (j' := j + 1) hM hO (by have h1 := SS.out.szb; omega) (fun q hq => by rw [PV.out] at hq; injection hq with hq; rw [← hq]; exact XS.out) (Nat.le_trans SS.out.hi_ (Nat.le_refl _)))
                         have N13 := Aside0.mk (hO.at_ NN.out.lt L8.out.2.1 NN.out)
                         have kp : W13.cell? ⟨b8, 0, none⟩ = some (.string x.path) := by rw [N13.out.cell]; rfl
                         have kd : W13.cell? ⟨b8, 1, none⟩ = some (.bool x.dir) := by rw [N13.out.cell]; rfl
                         have M13 := Aside0.mk True.intro
                         clear hM hO)
                      | fail)
                    go_roundg (its.length - (j + 1))
                    case measure => have := HJ.out; omega
                    case rel =>
                      have hr := R2.out
                      unfold chkM at hr
                      have hk : itemOk (prevOf its (j)) cnt x = true := by
                        unfold itemOk
                        rw [← UP.out.2.2, CN.out, PJ.out]
                        simp [hn, ← MX.out, HD.out, HM0.out]
                      rw [hk, Bool.true_and] at hr
                      have hs := S14.out
                      rw [← show stepC cnt x = (cnt.put (upOf x) (n + 1)).put x.path.data.toList 0 by unfold stepC; rw [HD.out, CN.out]; rfl] at hs
                      exact ⟨j + 1, all + m, _, stepC cnt x, ⟨by have := HJ.out; omega⟩, by go_num, by go_num, ⟨hs⟩, ⟨by rw [PV.out, MX.out]; exact hr⟩, by omega⟩
                  · have HM0 := Aside0.mk hm0
                    have t5 : decide ((m : Int) > 0) = true := decide_eq_true (by omega)
                    have t5b : decide (0 < (m : Int)) = true := decide_eq_true (by omega)
                    refine wp_region_quiet_tail 22 (by kernel_rfl) (by kernel_rfl) ?_
                    simp only [List.take_succ_cons, List.take_zero, List.drop_succ_cons, List.drop_zero]
                    repeat (first | go_big_quiet_skip | (go_big_quiet_want; go_big_quiet_op; first | go_big_quiet_on | (apply Exists.intro; refine ⟨?_, ?_⟩; (· (fail)); go_big_quiet_on)))
                    refine wpQuiet_nil ?_
                    go_wp2_with fail
                    go_ret
                    refine ⟨?_, S10.out.below.drew⟩
                    have hr := R2.out
                    unfold chkM itemOk at hr
                    rw [← UP.out.2.2, CN.out, PJ.out] at hr
                    simp [hn, ← MX.out, HD.out, HM0.out] at hr
                    rw [RN.out, hr]; rfl
              · obtain ⟨k, rfl⟩ : ∃ k, j = k + 1 := ⟨j - 1, by omega⟩
                rw [show ((k + 1 : Nat) : Int) = (k : Int) + 1 by omega]
                obtain ⟨y, hy⟩ : ∃ y, its[k]? = some y := ⟨_, List.getElem?_eq_getElem (by omega)⟩
                have PJ := Aside0.mk (show prevOf its (k + 1) = some y.path by show (its[k]?).map (·.path) = _; rw [hy]; rfl)
                have YB := Aside0.mk (show y.path.size ≤ 1048575 by have := S10.out.prev _ PJ.out; omega)
                obtain ⟨g1, o1, hA1, _, hits1⟩ := S10.out.items (by intro h; rw [h] at hlt; simp at hlt)
                have hgo : g1 = g0 ∧ o1 = o0 := by injection hA1 with e; injection e with e1 e2 e3; exact ⟨e1.symm, e2.symm⟩
                obtain ⟨hg1, ho1⟩ := hgo
                subst hg1 ho1
                obtain ⟨Ay, cy, hrowy, _, _⟩ := hits1 k y hy
                have ky : w10.cell? ⟨g1, o1 + k * 3, none⟩ = some (.string y.path) := hrowy 0 _ rfl
                have tj : decide (((k : Int) + 1) > 0) = true := decide_eq_true (by omega)
                have tjb : decide (0 < ((k : Int) + 1)) = true := decide_eq_true (by omega)
                clear hits1 hrowy hy hA1
                rcases hls : less y.path x.path with _ | _
                · have LS := Aside0.mk hls
                  rcases hd : x.dir with _ | _
                  · rw [hd] at kd
                    refine wp_region_quiet_tail 22 (by kernel_rfl) (by kernel_rfl) ?_
                    simp only [List.take_succ_cons, List.take_zero, List.drop_succ_cons, List.drop_zero]
                    repeat (first | go_big_quiet_skip | (go_big_quiet_want; go_big_quiet_op; first | go_big_quiet_on | (apply Exists.intro; refine ⟨?_, ?_⟩; (· (fail)); go_big_quiet_on)))
                    refine wpQuiet_nil ?_
                    go_wp2_with (first
                      | (go_at_call 60
                         refine (less_calls y.path x.path w10.drew (S10.out.glob.below ((Below.refl _ _).drew)) YB.out XB.out).mono ?_
                         rintro e w12 ⟨rfl, hB⟩
                         rw [LS.out]
                         have S12 := Aside0.mk ((S10.out.step ((Below.refl _ _).drew)).step hB)
                         have N12 := Aside0.mk ((N10.out.drew).below hB N10.out.lt)
                         have kp : w12.cell? ⟨b8, 0, none⟩ = some (.string x.path) := by rw [N12.out.cell]; rfl
                         have kd : w12.cell? ⟨b8, 1, none⟩ = some (.bool x.dir) := by rw [N12.out.cell]; rfl
                         have kx : w12.cell? ⟨b8, 2, none⟩ = some (.slice A' m c') := by rw [N12.out.cell, MX.out]; rfl
                         clear hB)
                      | fail)
                    go_ret
                    refine ⟨?_, S12.out.below⟩
                    have hr := R2.out
                    unfold chkM itemOk at hr
                    rw [← UP.out.2.2, CN.out, PJ.out] at hr
                    simp [hn, LS.out] at hr
                    rw [RN.out, hr]; rfl
                  · rw [hd] at kd
                    refine wp_region_quiet_tail 22 (by kernel_rfl) (by kernel_rfl) ?_
                    simp only [List.take_succ_cons, List.take_zero, List.drop_succ_cons, List.drop_zero]
                    repeat (first | go_big_quiet_skip | (go_big_quiet_want; go_big_quiet_op; first | go_big_quiet_on | (apply Exists.intro; refine ⟨?_, ?_⟩; (· (fail)); go_big_quiet_on)))
                    refine wpQuiet_nil ?_
                    go_wp2_with (first
                      | (go_at_call 60
                         refine (less_calls y.path x.path w10.drew (S10.out.glob.below ((Below.refl _ _).drew)) YB.out XB.out).mono ?_
                         rintro e w12 ⟨rfl, hB⟩
                         rw [LS.out]
                         have S12 := Aside0.mk ((S10.out.step ((Below.refl _ _).drew)).step hB)
                         have N12 := Aside0.mk ((N10.out.drew).below hB N10.out.lt)
                         have kp : w12.cell? ⟨b8, 0, none⟩ = some (.string x.path) := by rw [N12.out.cell]; rfl
                         have kd : w12.cell? ⟨b8, 1, none⟩ = some (.bool x.dir) := by rw [N12.out.cell]; rfl
                         have kx : w12.cell? ⟨b8, 2, none⟩ = some (.slice A' m c') := by rw [N12.out.cell, MX.out]; rfl
                         clear hB)
                      | fail)
                    go_ret
                    refine ⟨?_, S12.out.below⟩
                    have hr := R2.out
                    unfold chkM itemOk at hr
                    rw [← UP.out.2.2, CN.out, PJ.out] at hr
                    simp [hn, LS.out] at hr
                    rw [RN.out, hr]; rfl
                · have LS := Aside0.mk hls
                  rcases hd : x.dir with _ | _
                  · rw [hd] at kd
                    have HD := Aside0.mk hd
                    by_cases hbig : m ≤ 1048576
                    · have t4 : decide ((m : Int) > 1048576) = false := decide_eq_false (by omega)
                      have t4b : decide (1048576 < (m : Int)) = false := decide_eq_false (by omega)
                      refine wp_region_quiet_tail 22 (by kernel_rfl) (by kernel_rfl) ?_
                      simp only [List.take_succ_cons, List.take_zero, List.drop_succ_cons, List.drop_zero]
                      repeat (first | go_big_quiet_skip | (go_big_quiet_want; go_big_quiet_op; first | go_big_quiet_on | (apply Exists.intro; refine ⟨?_, ?_⟩; (· (fail)); go_big_quiet_on)))
                      refine wpQuiet_nil ?_
                      go_wp2_with (first
                        | (go_at_call 60
                           refine (less_calls y.path x.path w10.drew (S10.out.glob.below ((Below.refl _ _).drew)) YB.out XB.out).mono ?_
                           rintro e w12 ⟨rfl, hB⟩
                           rw [LS.out]
                           have S12 := Aside0.mk ((S10.out.step ((Below.refl _ _).drew)).step hB)
                           have N12 := Aside0.mk ((N10.out.drew).below hB N10.out.lt)
                           have kp : w12.cell? ⟨b8, 0, none⟩ = some (.string x.path) := by rw [N12.out.cell]; rfl
                           have kd : w12.cell? ⟨b8, 1, none⟩ = some (.bool x.dir) := by rw [N12.out.cell]; rfl
                           have kx : w12.cell? ⟨b8, 2, none⟩ = some (.slice A' m c') := by rw [N12.out.cell, MX.out]; rfl
                           have hlk2 : (Instr.lookup 121 (.map (some w.heap.size)) (.string up) false).run Tryz.prog w12 = .ok (.int .i64 (n : Int)) w12 := by
                             have e := S12.out.map.look1 strKeyed tu121 (zero3 w12) (key := .string up) (d := upOf x) (by rw [← UPK.out]; exact keyOf_string_mk tu9s UPS.out)
                             rw [e]; unfold cntM; rw [CN.out]; rfl
                           have SS := Aside0.mk S12.out
                           have NN := Aside0.mk N12.out
                           clear hB)
                        | (refine arm_put rfl _ _ _ 121 rfl 9 3 strKeyed tu121 w.heap.size (cntM cnt) sz rfl SS.out.map (by have h1 := SS.out.szb; unfold maxLen; omega) (.string up) (.int .i64 ((n : Int) + 1)) (upOf x) rfl rfl (by rw [← UPK.out]; exact keyOf_string_mk tu9s UPS.out) ?_
                           intro W13 hM hO
                           rw [show (Value.int .i64 ((n : Int) + 1)) = .int .i64 ((n + 1 : Nat) : Int) by rw [Int.natCast_add]; rfl, cntM_put, show (cntM cnt (upOf x)).isSome = true by unfold cntM; rw [CN.out]; rfl, if_pos rfl] at hM
                           have S13 := Aside0.mk (SS.out.put (j' := k + 1 + 1) hM hO (by have h1 := SS.out.szb; omega) (fun q hq => by rw [PV.out] at hq; injection hq with hq; rw [← hq]; exact XS.out) (Nat.le_trans SS.out.hi_ (Nat.le_refl _)))
                           have N13 := Aside0.mk (hO.at_ NN.out.lt L8.out.2.1 NN.out)
                           have kp : W13.cell? ⟨b8, 0, none⟩ = some (.string x.path) := by rw [N13.out.cell]; rfl
                           have kd : W13.cell? ⟨b8, 1, none⟩ = some (.bool x.dir) := by rw [N13.out.cell]; rfl
                           have M13 := Aside0.mk True.intro
                           clear hM hO)
                        | fail)
                      go_roundg (its.length - (k + 1 + 1))
                      case measure => have := HJ.out; omega
                      case rel =>
                        have hr := R2.out
                        unfold chkM at hr
                        have hk : itemOk (prevOf its (k + 1)) cnt x = true := by
                          unfold itemOk
                          rw [← UP.out.2.2, CN.out, PJ.out]
                          simp [hn, LS.out, ← MX.out, HD.out, hbig]
                        rw [hk, Bool.true_and] at hr
                        have hs := S13.out
                        rw [← show stepC cnt x = cnt.put (upOf x) (n + 1) by unfold stepC; rw [HD.out, CN.out]; rfl] at hs
                        exact ⟨k + 1 + 1, all + m, _, stepC cnt x, ⟨by have := HJ.out; omega⟩, by go_num, by go_num, ⟨hs⟩, ⟨by rw [PV.out, MX.out]; exact hr⟩, by omega⟩
                    · have t4 : decide ((m : Int) > 1048576) = true := decide_eq_true (by omega)
                      have t4b : decide (1048576 < (m : Int)) = true := decide_eq_true (by omega)
                      refine wp_region_quiet_tail 22 (by kernel_rfl) (by kernel_rfl) ?_
                      simp only [List.take_succ_cons, List.take_zero, List.drop_succ_cons, List.drop_zero]
                      repeat (first | go_big_quiet_skip | (go_big_quiet_want; go_big_quiet_op; first | go_big_quiet_on | (apply Exists.intro; refine ⟨?_, ?_⟩; (· (fail)); go_big_quiet_on)))
                      refine wpQuiet_nil ?_
                      go_wp2_with (first
                        | (go_at_call 60
                           refine (less_calls y.path x.path w10.drew (S10.out.glob.below ((Below.refl _ _).drew)) YB.out XB.out).mono ?_
                           rintro e w12 ⟨rfl, hB⟩
                           rw [LS.out]
                           have S12 := Aside0.mk ((S10.out.step ((Below.refl _ _).drew)).step hB)
                           have N12 := Aside0.mk ((N10.out.drew).below hB N10.out.lt)
                           have kp : w12.cell? ⟨b8, 0, none⟩ = some (.string x.path) := by rw [N12.out.cell]; rfl
                           have kd : w12.cell? ⟨b8, 1, none⟩ = some (.bool x.dir) := by rw [N12.out.cell]; rfl
                           have kx : w12.cell? ⟨b8, 2, none⟩ = some (.slice A' m c') := by rw [N12.out.cell, MX.out]; rfl
                           clear hB)
                        | fail)
                      go_ret
                      refine ⟨?_, S12.out.below⟩
                      have hr := R2.out
                      unfold chkM itemOk at hr
                      rw [← UP.out.2.2, CN.out, PJ.out] at hr
                      simp [hn, LS.out, ← MX.out, HD.out, hbig] at hr
                      rw [RN.out, hr]; rfl
                  · rw [hd] at kd
                    have HD := Aside0.mk hd
                    rcases Nat.eq_zero_or_pos m with hm0 | hm0
                    · have HM0 := Aside0.mk hm0
                      have t5 : decide ((m : Int) > 0) = false := decide_eq_false (by omega)
                      have t5b : decide (0 < (m : Int)) = false := decide_eq_false (by omega)
                      have t4 : decide ((m : Int) > 1048576) = false := decide_eq_false (by omega)
                      have t4b : decide (1048576 < (m : Int)) = false := decide_eq_false (by omega)
                      refine wp_region_quiet_tail 22 (by kernel_rfl) (by kernel_rfl) ?_
                      simp only [List.take_succ_cons, List.take_zero, List.drop_succ_cons, List.drop_zero]
                      repeat (first | go_big_quiet_skip | (go_big_quiet_want; go_big_quiet_op; first | go_big_quiet_on | (apply Exists.intro; refine ⟨?_, ?_⟩; (· (fail)); go_big_quiet_on)))
                      refine wpQuiet_nil ?_
                      go_wp2_with (first
                        | (go_at_call 60
                           refine (less_calls y.path x.path w10.drew (S10.out.glob.below ((Below.refl _ _).drew)) YB.out XB.out).mono ?_
                           rintro e w12 ⟨rfl, hB⟩
                           rw [LS.out]
                           have S12 := Aside0.mk ((S10.out.step ((Below.refl _ _).drew)).step hB)
                           have N12 := Aside0.mk ((N10.out.drew).below hB N10.out.lt)
                           have kp : w12.cell? ⟨b8, 0, none⟩ = some (.string x.path) := by rw [N12.out.cell]; rfl
                           have kd : w12.cell? ⟨b8, 1, none⟩ = some (.bool x.dir) := by rw [N12.out.cell]; rfl
                           have kx : w12.cell? ⟨b8, 2, none⟩ = some (.slice A' m c') := by rw [N12.out.cell, MX.out]; rfl
                           have hlk2 : (Instr.lookup 121 (.map (some w.heap.size)) (.string up) false).run Tryz.prog w12 = .ok (.int .i64 (n : Int)) w12 := by
                             have e := S12.out.map.look1 strKeyed tu121 (zero3 w12) (key := .string up) (d := upOf x) (by rw [← UPK.out]; exact keyOf_string_mk tu9s UPS.out)
                             rw [e]; unfold cntM; rw [CN.out]; rfl
                           have SS := Aside0.mk S12.out
                           have NN := Aside0.mk N12.out
                           clear hB)
                        | (have G := M13.out
                           refine arm_put rfl _ _ _ 121 rfl 9 3 strKeyed tu121 w.heap.size (cntM (cnt.put (upOf x) (n + 1))) sz rfl S13.out.map (by have h1 := S13.out.szb; unfold maxLen; omega) (.string x.path) (.int .i64 0) x.path.data.toList rfl rfl (keyOf_string_mk tu9s (by have := XS.out; unfold maxLen; omega)) ?_
                           intro W14 hM hO
                           rw [show (Value.int .i64 0) = .int .i64 ((0 : Nat) : Int) from rfl, cntM_put] at hM
                           have S14 := Aside0.mk (S13.out.put (j' := k + 1 + 1) hM hO (by have h1 := SS.out.szb; split <;> omega) (fun q hq => by rw [PV.out] at hq; injection hq with hq; rw [← hq]; exact XS.out) (Nat.le_trans S13.out.hi_ (Nat.le_refl _)))
                           clear hM hO)
                        | (refine arm_put rfl _ _ _ 121 rfl 9 3 strKeyed tu121 w.heap.size (cntM cnt) sz rfl SS.out.map (by have h1 := SS.out.szb; unfold maxLen; omega) (.string up) (.int .i64 ((n : Int) + 1)) (upOf x) rfl rfl (by rw [← UPK.out]; exact keyOf_string_mk tu9s UPS.out) ?_
                           intro W13 hM hO
                           rw [show (Value.int .i64 ((n : Int) + 1)) = .int .i64 ((n + 1 : Nat) : Int) by rw [Int.natCast_add]; rfl, cntM_put, show (cntM cnt (upOf x)).isSome = true by unfold cntM; rw [CN.out]; rfl, if_pos rfl] at hM
                           have S13 := Aside0.mk (SS.out.put (j' := k + 1 + 1) hM hO (by have h1 := SS.out.szb; omega) (fun q hq => by rw [PV.out] at hq; injection hq with hq; rw [← hq]; exact XS.out) (Nat.le_trans SS.out.hi_ (Nat.le_refl _)))
                           have N13 := Aside0.mk (hO.at_ NN.out.lt L8.out.2.1 NN.out)
                           have kp : W13.cell? ⟨b8, 0, none⟩ = some (.string x.path) := by rw [N13.out.cell]; rfl
                           have kd : W13.cell? ⟨b8, 1, none⟩ = some (.bool x.dir) := by rw [N13.out.cell]; rfl
                           have M13 := Aside0.mk True.intro
                           clear hM hO)
                        | fail)
                      go_roundg (its.length - (k + 1 + 1))
                      case measure => have := HJ.out; omega
                      case rel =>
                        have hr := R2.out
                        unfold chkM at hr
                        have hk : itemOk (prevOf its (k + 1)) cnt x = true := by
                          unfold itemOk
                          rw [← UP.out.2.2, CN.out, PJ.out]
                          simp [hn, LS.out, ← MX.out, HD.out, HM0.out]
                        rw [hk, Bool.true_and] at hr
                        have hs := S14.out
                        rw [← show stepC cnt x = (cnt.put (upOf x) (n + 1)).put x.path.data.toList 0 by unfold stepC; rw [HD.out, CN.out]; rfl] at hs
                        exact ⟨k + 1 + 1, all + m, _, stepC cnt x, ⟨by have := HJ.out; omega⟩, by go_num, by go_num, ⟨hs⟩, ⟨by rw [PV.out, MX.out]; exact hr⟩, by omega⟩
                    · have HM0 := Aside0.mk hm0
                      have t5 : decide ((m : Int) > 0) = true := decide_eq_true (by omega)
                      have t5b : decide (0 < (m : Int)) = true := decide_eq_true (by omega)
                      refine wp_region_quiet_tail 22 (by kernel_rfl) (by kernel_rfl) ?_
                      simp only [List.take_succ_cons, List.take_zero, List.drop_succ_cons, List.drop_zero]
                      repeat (first | go_big_quiet_skip | (go_big_quiet_want; go_big_quiet_op; first | go_big_quiet_on | (apply Exists.intro; refine ⟨?_, ?_⟩; (· (fail)); go_big_quiet_on)))
                      refine wpQuiet_nil ?_
                      go_wp2_with (first
                        | (go_at_call 60
                           refine (less_calls y.path x.path w10.drew (S10.out.glob.below ((Below.refl _ _).drew)) YB.out XB.out).mono ?_
                           rintro e w12 ⟨rfl, hB⟩
                           rw [LS.out]
                           have S12 := Aside0.mk ((S10.out.step ((Below.refl _ _).drew)).step hB)
                           have N12 := Aside0.mk ((N10.out.drew).below hB N10.out.lt)
                           have kp : w12.cell? ⟨b8, 0, none⟩ = some (.string x.path) := by rw [N12.out.cell]; rfl
                           have kd : w12.cell? ⟨b8, 1, none⟩ = some (.bool x.dir) := by rw [N12.out.cell]; rfl
                           have kx : w12.cell? ⟨b8, 2, none⟩ = some (.slice A' m c') := by rw [N12.out.cell, MX.out]; rfl
                           clear hB)
                        | fail)
                      go_ret
                      refine ⟨?_, S12.out.below⟩
                      have hr := R2.out
                      unfold chkM itemOk at hr
                      rw [← UP.out.2.2, CN.out, PJ.out] at hr
                      simp [hn, LS.out, ← MX.out, HD.out, HM0.out] at hr
                      rw [RN.out, hr]; rfl
            · have t3 : decide ((n : Int) ≥ 1024) = true := decide_eq_true (by omega)
              have t3b : decide (1024 ≤ (n : Int)) = true := decide_eq_true (by omega)
              refine wp_region_quiet_tail 22 (by kernel_rfl) (by kernel_rfl) ?_
              simp only [List.take_succ_cons, List.take_zero, List.drop_succ_cons, List.drop_zero]
              repeat (first | go_big_quiet_skip | (go_big_quiet_want; go_big_quiet_op; first | go_big_quiet_on | (apply Exists.intro; refine ⟨?_, ?_⟩; (· (fail)); go_big_quiet_on)))
              refine wpQuiet_nil ?_
              go_wp2_with fail
              go_ret
              refine ⟨?_, S10.out.below.drew⟩
              have hr := R2.out
              unfold chkM itemOk at hr
              rw [← UP.out.2.2, CN.out] at hr
              simp [hn] at hr
              rw [RN.out, hr]; rfl
        · have he1 : (er == 0) = false := beq_eq_false_iff_ne.2 he
          have he2 : (er != 0) = true := by rw [bne, he1]; rfl
          have he3 : (!(er == 0)) = true := by rw [he1]; rfl
          refine wp_region_quiet_tail 22 (by kernel_rfl) (by kernel_rfl) ?_
          simp only [List.take_succ_cons, List.take_zero, List.drop_succ_cons, List.drop_zero]
          repeat (first | go_big_quiet_skip | (go_big_quiet_want; go_big_quiet_op; first | go_big_quiet_on | (apply Exists.intro; refine ⟨?_, ?_⟩; (· (fail)); go_big_quiet_on)))
          refine wpQuiet_nil ?_
          go_wp2_with fail
          go_ret
          refine ⟨?_, S10.out.below.drew⟩
          have hr := R2.out
          unfold chkM itemOk at hr
          rw [← UP.out.2.2] at hr
          simp [he] at hr
          rw [RN.out, hr]; rfl
      · obtain rfl : j = its.length := by have := HJ.out; omega
        have hr := HR.out
        rw [List.drop_length] at hr
        unfold chkM at hr
        by_cases hbig : all ≤ 67108864
        · rw [decide_eq_true hbig] at hr
          have t2 : decide ((all : Int) > 67108864) = false := decide_eq_false (by omega)
          have t2b : decide (67108864 < (all : Int)) = false := decide_eq_false (by omega)
          have HRR := Aside0.mk hr
          clear hr
          go_wp2_with fail
          go_ret
          exact ⟨by rw [RN.out, HRR.out]; rfl, HS.out.below⟩
        · rw [decide_eq_false hbig] at hr
          have t2 : decide ((all : Int) > 67108864) = true := decide_eq_true (by omega)
          have t2b : decide (67108864 < (all : Int)) = true := decide_eq_true (by omega)
          have HRR := Aside0.mk hr
          clear hr
          go_wp2_with fail
          go_ret
          exact ⟨by rw [RN.out, HRR.out]; rfl, HS.out.below⟩
  · have hres : isTreeM its = false := by unfold isTreeM; rw [decide_eq_false hl]; rfl
    rw [hres]
    have t1 : decide ((its.length : Int) ≥ 65536) = true := decide_eq_true (by omega)
    have t1b : decide (65536 ≤ (its.length : Int)) = true := decide_eq_true (by omega)
    clear hres
    go_enter Tryz.func33, Tryz.ntmps33
    go_wp2_with fail
    go_ret
    exact ⟨rfl, Below.refl _ _⟩
end Go.Proofs.YtbpfmlckddhgbaaGreatDoor
