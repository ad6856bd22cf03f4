/- Lists that are lent: what lend lays. -/
import Derived.Test.YtbpfmlckddhgbaaGreatDoorQg
import Derived.Test.YtbpfmlckddhgbaaGreatDoorQl
import Derived.Test.YtbpfmlckddhgbaaGreatDoorQh
namespace Go.Proofs.YtbpfmlckddhgbaaGreatDoor
set_option linter.unusedVariables false
set_option linter.unusedSimpArgs false
open Go Go.RowKit Go.Maps Go.WideMaps Go.Proofs.YtbpfmlckddhgbaaGreatDoorW.PrintWords Go.Proofs.YtbpfmlckddhgbaaGreatDoorW.PrintLast
section
variable {P : Program} {ops : Array Oper} {rest : List Oper} {o : Oper} {a : Act} {w : World} {Q : Exit → Act → World → Prop}
theorem arm_makeR (hg : o.guard = none) (l c : Operand) (t e : TypeId) (hop : o.op = Op.makeSlice t l c) (z : Value) (size n bytes : Nat) (hu : P.underlying t = some (.slice e)) (hi : (P.info? e).map (fun i => (i.zero, i.size, i.bytes)) = some (some z, size, bytes))
    (hl : a.eval l = .int .i64 (n : Int)) (hc : a.eval c = .int .i64 (n : Int)) (b2 : bytes * n ≤ 281474976710656) (b3 : n ≤ 1099511627776)
    (h : ∀ W b cs, b = w.heap.size → At W b e cs → cs.length = n * size → Below w.heap.size w W → wpList P ops Q rest (a.put o.dst (.slice (some ⟨b, 0, none⟩) n n)) W) : wpList P ops Q (o :: rest) a w := by
  cases hq : P.info? e with
  | none => simp [hq] at hi
  | some i =>
    simp [hq] at hi
    obtain ⟨h1, h2, h3⟩ := hi
    refine wpList_make_full w hg l c t hop w.heap.size e i z size hu hq h1 h2 .i64 .i64 n n n hl hc rfl rfl (by rw [h3]; exact b2) (by simp [maxLen]; omega) (Nat.le_refl _) ?_
    intro w' ho hgr
    obtain ⟨_, h5 | ⟨g, cap, cur, hv, _, hcell, _, _, hs, htake⟩⟩ := ho
    · exact absurd h5.1 (by simp)
    · simp at hv
      obtain ⟨rfl, rfl⟩ := hv
      refine h w' _ cur.toList rfl ?_ (by simpa using hs) ((Below.refl _ _).grown hgr (Nat.le_refl _) (fun k hk => by cases hk))
      unfold At
      rw [hcell]
theorem arm_store_mid (hg : o.guard = none) (ty : TypeId) (x y : Operand) (ho : o.op = .store ty x y) (b off : Nat) (t : TypeId) (old cells : List Value) (hx : a.eval x = .pointer (some ⟨b, off, none⟩)) (hy : a.eval y = .agg cells.toArray)
    (hA : At w b t old) (hl : off + cells.length ≤ old.length) (hi : (P.info? ty).map (·.size) = some cells.length) (h1 : ∀ v ∈ cells, v.oneCell' = true)
    (h : ∀ W, At W b t (splice old off cells) → Only (· = b) w.heap.size w W → wpList P ops Q rest (a.put o.dst undef) W) : wpList P ops Q (o :: rest) a w :=
  wpList_store_mid hg ty x y ho b off cells.toArray hx hy
    (fun j hj => by
      have hj : j < cells.length := by simpa using hj
      refine ⟨by rw [hA.cell, List.getElem?_eq_getElem (by omega)]; rfl, hA.frozen _⟩)
    (by simpa using hi) (all_oneCell_toArray h1)
    (h _ (by simpa using hA.setCells cells off hl) (Only.setCells (S := (· = b)) (.inl rfl) _ off (Only.refl _ _ _)))
theorem arm_copy_bytes (hgd : o.guard = none) (d s : Operand) (ho : o.op = .call { callee := .builtin .copy, args := #[d, s], argTypes := #[35, 35] }) (hu : P.underlying 35 = some (.slice 5)) (hsz : (P.info? 5).map (·.size) = some 1)
    (g dLen dCap : Nat) (A : Option Addr) (m c : Nat) (hd : a.eval d = .slice (some ⟨g, 0, none⟩) dLen dCap) (hs : a.eval s = .slice A m c) (xs : List UInt8) (hm : m = xs.length) (hR : RdL w A xs)
    (cur : List Value) (t : TypeId) (hA : At w g t cur) (hfit : m ≤ cur.length) (hdl : m ≤ dLen)
    (h : ∀ W, At W g t (splice cur 0 (xs.map bv)) → Only (· = g) w.heap.size w W → wpList P ops Q rest (a.put o.dst (goInt m)) W) : wpList P ops Q (o :: rest) a w := by
  subst hm
  cases xs with
  | nil =>
    refine wpList_copy_nothing hgd d s 35 35 ho 5 hu hsz _ _ _ _ _ _ hd hs (by show Nat.min 0 dLen = 0; exact Nat.zero_min _) ?_
    refine h w ?_ (Only.refl _ _ _)
    have e : splice cur 0 (([] : List UInt8).map bv) = cur := by unfold splice; simp
    rw [e]; exact hA
  | cons y ys =>
    obtain ⟨ad, rfl, hb, hc⟩ := hR (by simp)
    refine arm_copy hgd d s 35 35 ho 5 hu hsz g 0 dLen dCap ad _ c hd hs cur t hA ((y :: ys).map bv) (by rw [List.length_map]; exact (Nat.min_eq_left hdl).symm) (fun j v hv => ?_) (by rw [List.length_map]; omega) (by intro v hv; obtain ⟨b, _, rfl⟩ := List.mem_map.1 hv; rfl) ?_
    · have hj : j < (y :: ys).length := by have := (List.getElem?_eq_some_iff.1 hv).1; rwa [List.length_map] at this
      rw [hc j hj, ← hv, List.getElem?_map, List.getElem?_eq_getElem hj, List.getD_eq_getElem?_getD, List.getElem?_eq_getElem hj]
      rfl
    · intro W hW
      rw [List.length_map]
      refine h W (by subst hW; exact hA.setRow _) (by subst hW; exact Only.setRow (S := (· = g)) (Only.refl _ _ _) (.inl rfl) _)
end
theorem splice_at {cs vs : List Value} {o : Nat} (h : o + vs.length ≤ cs.length) (k : Nat) : (splice cs o vs)[k]? = if o ≤ k ∧ k < o + vs.length then vs[k - o]? else cs[k]? := by
  have hl : (cs.take o).length = o := by rw [List.length_take]; omega
  unfold splice
  by_cases h1 : k < o
  · rw [if_neg (by omega), List.getElem?_append_left (by omega), List.getElem?_take, if_pos h1]
  · rw [List.getElem?_append_right (by omega), hl]
    by_cases h2 : k < o + vs.length
    · rw [if_pos (by omega), List.getElem?_append_left (by omega)]
    · rw [if_neg (by omega), List.getElem?_append_right (by omega), List.getElem?_drop]
      congr 1; omega
def markB : ByteArray := ⟨#[109, 97, 114, 107]⟩
theorem markB_list : (markB.toList == [109, 97, 114, 107]) = true := by rw [Lib.toList_data]; rfl
def RowAt (cs : List Value) (j : Nat) (x : Itm) (A : Option Addr) (c : Nat) : Prop := cs[j * 3]? = some (.string x.path) ∧ cs[j * 3 + 1]? = some (.bool x.dir) ∧ cs[j * 3 + 2]? = some (.slice A x.data.length c)
def lentC (x : Itm) : List Value := x.data.map bv ++ List.replicate 5 (bv 201)
def fillC (x : Itm) (k : Nat) : List Value := x.data.map bv ++ (List.replicate (k - x.data.length) (bv 201) ++ List.replicate (x.data.length + 5 - k) (bv 0))
theorem fillC_start (x : Itm) : splice (List.replicate (x.data.length + 5) (bv 0)) 0 (x.data.map bv) = fillC x x.data.length := by
  unfold splice fillC
  simp
theorem fillC_end (x : Itm) : fillC x (x.data.length + 5) = lentC x := by unfold fillC lentC; simp
theorem fillC_at (x : Itm) {k : Nat} (h1 : x.data.length ≤ k) (h2 : k < x.data.length + 5) : (fillC x k)[k]? = some (bv 0) := by
  unfold fillC
  rw [List.getElem?_append_right (by simpa using h1), List.getElem?_append_right (by simp), List.getElem?_replicate, if_pos (by simp; omega)]
theorem fillC_next (x : Itm) {k : Nat} (h1 : x.data.length ≤ k) (h2 : k < x.data.length + 5) : (fillC x k).set k (bv 201) = fillC x (k + 1) := by
  unfold fillC
  rw [List.set_append_right _ _ (by simpa using h1), List.set_append_right _ _ (by simp), show x.data.length + 5 - k = (x.data.length + 5 - (k + 1)) + 1 by omega, List.replicate_succ, show k + 1 - x.data.length = (k - x.data.length) + 1 by omega, List.replicate_succ']
  simp
structure Lent (w wr : World) (bl : Nat) (l : List Itm) (ds : List Nat) (cs : List Value) (i m : Nat) : Prop where
  tab : At wr bl 50 cs
  len : cs.length = (l.length + 3) * 3
  rows : ∀ (j : Nat) (x : Itm) (d : Nat), l[j]? = some x → ds[j]? = some d → RowAt cs j x (some ⟨d, 0, none⟩) (x.data.length + 5)
  marks : ∀ j, l.length ≤ j → j < m → cs[j * 3]? = some (.string markB)
  dl : ds.length = i
  dat : ∀ (j : Nat) (x : Itm) (d : Nat), l[j]? = some x → ds[j]? = some d → At wr d 5 (lentC x)
  fresh : ∀ d ∈ ds, w.heap.size ≤ d ∧ d ≠ bl ∧ d < wr.heap.size
  dist : ds.Nodup
  below : Below w.heap.size w wr
  own : w.heap.size ≤ bl
namespace Lent
variable {w wr w1 : World} {bl i m : Nat} {l : List Itm} {ds : List Nat} {cs cs' : List Value} {x : Itm} {d : Nat}
theorem only {S : Nat → Prop} (h : Lent w wr bl l ds cs i m) (ho : Only S wr.heap.size wr w1) (hS : ∀ b, S b → w.heap.size ≤ b ∧ b ≠ bl ∧ b ∉ ds) : Lent w w1 bl l ds cs i m :=
  ⟨ho.at_ h.tab.lt (fun hs => (hS _ hs).2.1 rfl) h.tab, h.len, h.rows, h.marks, h.dl, fun j x d h1 h2 => ho.at_ (h.dat j x d h1 h2).lt (fun hs => (hS _ hs).2.2 (List.mem_of_getElem? h2)) (h.dat j x d h1 h2),
    fun d hd => by have := h.fresh d hd; have := ho.size; omega, h.dist, h.below.trans (ho.to_below h.below.size (fun b hb => (hS b hb).1)), h.own⟩
theorem step (h : Lent w wr bl l ds cs i m) (hb : Below wr.heap.size wr w1) : Lent w w1 bl l ds cs i m := h.only (Only.of_below (S := fun _ => False) hb) (fun _ h => h.elim)
theorem touch (h : Lent w wr bl l ds cs i m) (hA : At w1 bl 50 cs') (hl : cs'.length = cs.length) (ho : Only (· = bl) wr.heap.size wr w1) (hk : ∀ k, k < i * 3 ∨ k < m * 3 → cs'[k]? = cs[k]?) : Lent w w1 bl l ds cs' i m := by
  refine ⟨hA, by rw [hl, h.len], fun j x d h1 h2 => ?_, fun j h1 h2 => by rw [hk _ (.inr (by omega))]; exact h.marks j h1 h2, h.dl, fun j x d h1 h2 => ho.at_ (h.dat j x d h1 h2).lt (fun hs => (h.fresh d (List.mem_of_getElem? h2)).2.1 hs) (h.dat j x d h1 h2),
    fun d hd => by have := h.fresh d hd; have := ho.size; omega, h.dist, h.below.trans (ho.to_below h.below.size (fun b hb => by have e : b = bl := hb; have := h.own; omega)), h.own⟩
  have hj : j < i := by have := (List.getElem?_eq_some_iff.1 h2).1; have := h.dl; omega
  obtain ⟨r1, r2, r3⟩ := h.rows j x d h1 h2
  exact ⟨by rw [hk _ (.inl (by omega))]; exact r1, by rw [hk _ (.inl (by omega))]; exact r2, by rw [hk _ (.inl (by omega))]; exact r3⟩
theorem push (h : Lent w wr bl l ds cs i m) (hx : l[i]? = some x) (hrow : RowAt cs i x (some ⟨d, 0, none⟩) (x.data.length + 5)) (hd : At wr d 5 (lentC x)) (hf : w.heap.size ≤ d ∧ d ≠ bl ∧ d ∉ ds) : Lent w wr bl l (ds ++ [d]) cs (i + 1) m := by
  have hsp : ∀ (j : Nat) (e : Nat), (ds ++ [d])[j]? = some e → ds[j]? = some e ∨ (j = i ∧ e = d) := fun j e he => by
    by_cases hj : j < ds.length
    · rw [List.getElem?_append_left hj] at he; exact .inl he
    · rw [List.getElem?_append_right (by omega)] at he
      have h0 : j - ds.length = 0 := by
        rcases Nat.eq_zero_or_pos (j - ds.length) with h0 | h0
        · exact h0
        · rw [List.getElem?_eq_none (by show 1 ≤ _; omega)] at he; simp at he
      rw [h0] at he
      exact .inr ⟨by have := h.dl; omega, by simpa using he.symm⟩
  refine ⟨h.tab, h.len, fun j y e h1 h2 => ?_, h.marks, by simp [h.dl], fun j y e h1 h2 => ?_, fun e he => ?_, ?_, h.below, h.own⟩
  · rcases hsp j e h2 with h2 | ⟨rfl, rfl⟩
    · exact h.rows j y e h1 h2
    · rw [hx] at h1; injection h1 with h1; rw [← h1]; exact hrow
  · rcases hsp j e h2 with h2 | ⟨rfl, rfl⟩
    · exact h.dat j y e h1 h2
    · rw [hx] at h1; injection h1 with h1; rw [← h1]; exact hd
  · rcases List.mem_append.1 he with he | he
    · exact h.fresh e he
    · rw [List.mem_singleton.1 he]; exact ⟨hf.1, hf.2.1, hd.lt⟩
  · rw [List.nodup_append]
    exact ⟨h.dist, by simp, fun a ha b hb => by rw [List.mem_singleton.1 hb]; intro e; exact hf.2.2 (e ▸ ha)⟩
theorem mark (h : Lent w wr bl l ds cs i m) (hc : cs[m * 3]? = some (.string markB)) : Lent w wr bl l ds cs i (m + 1) :=
  ⟨h.tab, h.len, h.rows, fun j h1 h2 => by
    rcases Nat.lt_or_ge j m with hj | hj
    · exact h.marks j h1 hj
    · have : j = m := by omega
      subst this; exact hc, h.dl, h.dat, h.fresh, h.dist, h.below, h.own⟩
theorem more (h : Lent w wr bl l ds cs i 0) (hi : i = l.length) : Lent w wr bl l ds cs i i :=
  ⟨h.tab, h.len, h.rows, fun j h1 h2 => by omega, h.dl, h.dat, h.fresh, h.dist, h.below, h.own⟩
theorem items (h : Lent w wr bl l ds cs l.length m) : RdI wr wr.heap.size (some ⟨bl, 0, none⟩) l := fun hne => by
  refine ⟨bl, 0, rfl, h.tab.lt, fun j x hx => ?_⟩
  have hj : j < l.length := (List.getElem?_eq_some_iff.1 hx).1
  obtain ⟨d, hd⟩ : ∃ d, ds[j]? = some d := ⟨_, List.getElem?_eq_getElem (by rw [h.dl]; exact hj)⟩
  obtain ⟨r1, r2, r3⟩ := h.rows j x d hx hd
  refine ⟨some ⟨d, 0, none⟩, x.data.length + 5, fun k v hv => ?_, by omega, fun hn => ⟨_, rfl, (h.dat j x d hx hd).lt, fun k hk => ?_⟩⟩
  · rw [Nat.zero_add, h.tab.cell]
    match k, hv with
    | 0, hv => rw [Nat.add_zero, r1]; exact hv
    | 1, hv => rw [r2]; exact hv
    | 2, hv => rw [r3]; exact hv
    | k + 3, hv => simp [icells] at hv
  · rw [Addr.add_mid, Nat.zero_add, (h.dat j x d hx hd).cell]
    unfold lentC
    rw [List.getElem?_append_left (by simpa using hk), List.getElem?_map, List.getElem?_eq_getElem hk, List.getD_eq_getElem?_getD, List.getElem?_eq_getElem hk]
    rfl
end Lent
end Go.Proofs.YtbpfmlckddhgbaaGreatDoor
/- lend, the walk. -/
namespace Go.Proofs.YtbpfmlckddhgbaaGreatDoor
set_option linter.unusedVariables false
set_option linter.unusedSimpArgs false
open Go Go.RowKit Go.Maps Go.WideMaps Go.Proofs.YtbpfmlckddhgbaaGreatDoorW.PrintWords Go.Proofs.YtbpfmlckddhgbaaGreatDoorW.PrintLast
set_option maxRecDepth 8000 in
set_option maxHeartbeats 8000000 in
theorem lend_calls (w : World) (hi : Nat) (A : Option Addr) (c : Nat) (l : List Itm) (hI : RdI w hi A l) (hhi : hi ≤ w.heap.size) (hn : l.length ≤ 3000) (hd : ∀ x ∈ l, x.data.length ≤ 4194304) :
    Calls Tryz.prog 18 #[.slice A l.length c] w fun e w' => ∃ bl ds cs, e = .returned (.slice (some ⟨bl, 0, none⟩) l.length (l.length + 3)) ∧ Lent w w' bl l ds cs l.length (l.length + 3) := by
  have HI := Aside0.mk hI
  have HH := Aside0.mk hhi
  have DL := Aside0.mk hd
  obtain ⟨n, hnn⟩ : ∃ n, n = l.length := ⟨_, rfl⟩
  rw [← hnn] at hn ⊢
  have NN := Aside0.mk hnn
  clear hI hhi hd hnn
  go_enter Tryz.func18, Tryz.ntmps18
  go_wp2_with (first
    | (refine arm_makeR rfl _ _ 22 50 rfl (.agg #[.string ⟨#[]⟩, .bool false, .slice none 0 0]) 3 (n + 3) 48 tu22 info50c rfl rfl (by omega) (by omega) ?_
       intro W3 bl cs0 hb hA hl hB
       have L3 := Aside0.mk (show Lent w W3 bl l [] cs0 0 0 from ⟨hA, by rw [hl, NN.out], fun j x d _ h => by simp at h, fun j _ h => by omega, rfl, fun j x d _ h => by simp at h, fun d h => by simp at h, List.nodup_nil, hB, by omega⟩)
       clear hb hA hl hB)
    | fail)
  go_loopg [4] n (fun g s4 wr => ∃ (i : Nat) (ds : List Nat) (cs : List Value), Aside0 (i + g = n) ∧ s4 = .int .i64 i ∧ Aside0 (Lent w wr bl l ds cs i 0))
  case atStart => exact ⟨0, _, _, ⟨by omega⟩, rfl, L3⟩
  case round =>
    obtain ⟨i, ds, cs, HJ, rfl, HL⟩ := hrel
    by_cases hlt : i < n
    · obtain ⟨x, hx⟩ : ∃ x, l[i]? = some x := ⟨_, List.getElem?_eq_getElem (by have := NN.out; omega)⟩
      have HX := Aside0.mk hx
      have DX0 := DL.out x (List.mem_of_getElem? hx)
      obtain ⟨m, hm⟩ : ∃ m, m = x.data.length := ⟨_, rfl⟩
      rw [← hm] at DX0
      have MX := Aside0.mk hm
      obtain ⟨g0, o0, hA, hg0, hits⟩ := (HI.out.only (Only.of_below (S := fun _ => False) HL.out.below) HH.out (fun _ h => h.elim)) (by intro h; rw [h] at hx; simp at hx)
      subst hA
      obtain ⟨A0, c0, r0, rc0, u0⟩ := hits i x hx
      have IB := Aside0.mk (show ∀ W, Below w.heap.size w W → RdI W hi (some ⟨g0, o0, none⟩) l from fun W hB => HI.out.only (Only.of_below (S := fun _ => False) hB) HH.out (fun _ h => h.elim))
      have ROW := Aside0.mk r0
      have G0 := Aside0.mk (show g0 < w.heap.size by have := HH.out; omega)
      have U0 := Aside0.mk u0
      have RW := Aside0.mk (show ∀ W, Below w.heap.size wr W → W.cell? ⟨g0, o0 + i * 3 + 2, none⟩ = some (.slice A0 m c0) from fun W hB => by
        rw [hB.cell (p := ⟨g0, o0 + i * 3 + 2, none⟩) (by show g0 < _; have := HH.out; omega)]
        have e := r0 2 _ rfl
        rw [hm]; exact e)
      clear hx hm hits r0 rc0 u0 hg0
      go_wp2_with (first
        | (refine arm_load_row rfl 50 _ rfl g0 (o0 + i * 3) rfl (icells x A0 c0) ROW.out row50 size50 ?_
           intro v23 hv
           have V23 := Aside0.mk hv
           clear hv)
        | (refine arm_store_mid rfl 50 _ _ rfl bl (i * 3) 50 cs (icells x A0 c0) (by simp [Act.eval]) V23.out HL.out.tab (by rw [HL.out.len, ← NN.out]; show i * 3 + 3 ≤ _; omega) size50 (one_icells _ _ _) ?_
           intro W5 hA hO
           have hB5 : Below w.heap.size wr W5 := hO.to_below HL.out.below.size (fun b hb => by have e : b = bl := hb; have := HL.out.own; omega)
           have k5 : W5.cell? ⟨g0, o0 + i * 3 + 2, none⟩ = some (.slice A0 m c0) := RW.out W5 hB5
           obtain ⟨cs5, hcs5⟩ : ∃ X, X = splice cs (i * 3) (icells x A0 c0) := ⟨_, rfl⟩
           have hsp : ∀ k, cs5[k]? = if i * 3 ≤ k ∧ k < i * 3 + 3 then (icells x A0 c0)[k - i * 3]? else cs[k]? := fun k => by rw [hcs5]; exact splice_at (by rw [HL.out.len, ← NN.out]; show i * 3 + 3 ≤ _; omega) k
           rw [← hcs5] at hA
           have L5 := Aside0.mk (HL.out.touch hA (by rw [hcs5, length_splice _ _ _ (by rw [HL.out.len, ← NN.out]; show i * 3 + 3 ≤ _; omega)]) hO (fun k hk => by rw [hsp k, if_neg (by omega)]))
           have P5 := Aside0.mk (And.intro (hsp (i * 3)) (And.intro (hsp (i * 3 + 1)) (hsp (i * 3 + 2))))
           have B5 := Aside0.mk hB5
           clear hA hO hB5 hcs5 hsp)
        | (refine arm_make rfl _ _ 35 5 rfl (.int .u8 0) rfl (m + 5) 1 tu35 info5 rfl rfl (by omega) (by omega) ?_
           intro W6 d hb hA hB
           have L6 := Aside0.mk (L5.out.step hB)
           have D6 := Aside0.mk (show At W6 d 5 (List.replicate (m + 5) (bv 0)) from hA)
           have B6 := Aside0.mk (B5.out.trans (hB.mono (by have := L5.out.below.size; omega)))
           have F6 := Aside0.mk (show w.heap.size ≤ d ∧ d ≠ bl ∧ d ∉ ds from ⟨by have := L5.out.below.size; omega, by have := L5.out.tab.lt; omega, fun hm => by have := (L5.out.fresh d hm).2.2; omega⟩)
           have k6 : W6.cell? ⟨g0, o0 + i * 3 + 2, none⟩ = some (.slice A0 m c0) := RW.out W6 B6.out
           clear hb hA hB)
        | (refine arm_copy_bytes rfl _ _ rfl tu35 size5 d (m + 5) (m + 5) A0 m c0 rfl rfl x.data MX.out (fun hne => by
             obtain ⟨ad, q1, q2, q3⟩ := U0.out hne
             have h1 := HL.out.below.size
             have h2 := HH.out
             exact ⟨ad, q1, by have := B6.out.size; omega, fun k hk => by rw [B6.out.cell (by rw [add_block]; omega)]; exact q3 k hk⟩) _ 5 D6.out (by rw [List.length_replicate]; omega) (by omega) ?_
           intro W7 hA hO
           rw [MX.out, fillC_start] at hA
           have hf := F6.out
           have D7 := Aside0.mk hA
           have L7 := Aside0.mk (L6.out.only hO (fun b hb => by have e : b = d := hb; rw [e]; exact hf))
           have B7 := Aside0.mk (B6.out.trans (hO.to_below (by have := L5.out.below.size; have := L6.out.below.size; omega) (fun b hb => by have e : b = d := hb; omega)))
           have k7 : W7.cell? ⟨g0, o0 + i * 3 + 2, none⟩ = some (.slice A0 m c0) := RW.out W7 B7.out
           clear hA hO hf k5 k6)
        | fail)
      clear k7
      obtain ⟨wo, rfl⟩ : ∃ wo : World, wo = wr := ⟨_, rfl⟩
      go_loopg [6] 5 (fun g2 s6 wr => ∃ k : Nat, Aside0 (k + g2 = m + 5 ∧ m ≤ k) ∧ s6 = .int .i64 k ∧ Aside0 (Lent w wr bl l ds cs5 i 0) ∧ Aside0 (At wr d 5 (fillC x k)) ∧ Aside0 (Below w.heap.size wo wr))
      case atStart => exact ⟨m, ⟨by omega, Nat.le_refl _⟩, rfl, L7, ⟨by rw [MX.out]; exact D7.out⟩, B7⟩
      case round =>
        obtain ⟨k, HK, rfl, LK, DK, BK⟩ := hrel
        have hmk := HK.out.2
        by_cases hkt : k < m + 5
        · have kd : wr.cell? ⟨d, k, none⟩ = some (.int .u8 0) := by rw [DK.out.cell, fillC_at x (by rw [← MX.out]; omega) (by rw [← MX.out]; omega)]; rfl
          have fd : wr.frozen? ⟨d, k, none⟩ = false := DK.out.frozen k
          have hk1 : (0 : Int) ≤ (k : Int) := Int.natCast_nonneg _
          have hk2 : (k : Int) < (m : Int) + 5 := by omega
          go_wp2_with fail
          have hO : Only (· = d) wr.heap.size wr (wr.setCell ⟨d, k, none⟩ (.int .u8 201)) := Only.setCell (S := (· = d)) (a := ⟨d, k, none⟩) (Only.refl _ _ _) (.inl rfl) _
          have hf := F6.out
          go_roundg (m + 5 - (k + 1))
          case measure => have := HK.out; omega
          case rel =>
            refine ⟨k + 1, ⟨by have := HK.out; omega, by omega⟩, by go_num, ⟨LK.out.only hO (fun b hb => by have e : b = d := hb; rw [e]; exact hf)⟩, ⟨?_⟩, ⟨BK.out.trans (hO.to_below (by have := LK.out.below.size; omega) (fun b hb => by have e : b = d := hb; omega))⟩⟩
            have e := DK.out.setCell k (.int .u8 201)
            rw [show (Value.int .u8 201) = bv 201 from rfl, fillC_next x (by rw [← MX.out]; omega) (by rw [← MX.out]; omega)] at e
            exact e
        · obtain rfl : k = m + 5 := by have := HK.out; omega
          have DE := Aside0.mk (show At wr d 5 (lentC x) by have e := DK.out; rw [MX.out, fillC_end] at e; exact e)
          have kr : wr.cell? ⟨g0, o0 + i * 3 + 2, none⟩ = some (.slice A0 m c0) := RW.out wr BK.out
          have k2 : wr.cell? ⟨bl, i * 3 + 2, none⟩ = some (.slice A0 m c0) := by rw [LK.out.tab.cell, P5.out.2.2, if_pos (by omega), show i * 3 + 2 - i * 3 = 2 by omega, MX.out]; rfl
          have f2 : wr.frozen? ⟨bl, i * 3 + 2, none⟩ = false := LK.out.tab.frozen _
          clear DK
          go_wp2_with (first
            | (refine arm_store1 rfl 35 _ _ rfl ⟨bl, i * 3 + 2, none⟩ rfl (.slice (some ⟨d, 0, none⟩) m (m + 5)) rfl _ k2 f2 size35 rfl rfl ?_
               intro W9 hW
               have hO : Only (· = bl) wr.heap.size wr W9 := by subst hW; exact Only.setCell (S := (· = bl)) (a := ⟨bl, i * 3 + 2, none⟩) (Only.refl _ _ _) (.inl rfl) _
               have hA : At W9 bl 50 (cs5.set (i * 3 + 2) (.slice (some ⟨d, 0, none⟩) m (m + 5))) := by subst hW; exact LK.out.tab.setCell _ _
               have hf := F6.out
               have hcl : i * 3 + 2 < cs5.length := by have := LK.out.len; have := NN.out; omega
               have LT := LK.out.touch hA (by rw [List.length_set]) hO (fun k hk => by rw [List.getElem?_set, if_neg (by omega)])
               have L9 := Aside0.mk (LT.push HX.out (⟨by rw [List.getElem?_set, if_neg (by omega), P5.out.1, if_pos (by omega), Nat.sub_self]; rfl, by rw [List.getElem?_set, if_neg (by omega), P5.out.2.1, if_pos (by omega), show i * 3 + 1 - i * 3 = 1 by omega]; rfl, by rw [List.getElem?_set, if_pos rfl, if_pos hcl, MX.out]⟩) (hO.at_ DE.out.lt (fun hs => hf.2.1 hs) DE.out) hf)
               clear hW hO hA hf hcl LT)
            | fail)
          go_roundg (n - (i + 1))
          case measure => have := HJ.out; omega
          case rel => exact ⟨i + 1, _, _, ⟨by have := HJ.out; omega⟩, by go_num, L9⟩
    · obtain rfl : n = i := by have := HJ.out; omega
      clear HJ hlt
      obtain ⟨wo, rfl⟩ : ∃ wo : World, wo = wr := ⟨_, rfl⟩
      go_wp2_with fail
      go_loopg [7] 3 (fun g2 s7 wr => ∃ (k : Nat) (cs2 : List Value), Aside0 (k + g2 = n + 3 ∧ n ≤ k) ∧ s7 = .int .i64 k ∧ Aside0 (Lent w wr bl l ds cs2 n k))
      case atStart => exact ⟨n, cs, ⟨by omega, Nat.le_refl _⟩, rfl, ⟨HL.out.more NN.out⟩⟩
      case round =>
        obtain ⟨k, cs2, HK, rfl, LK⟩ := hrel
        have hmk := HK.out.2
        by_cases hkt : k < n + 3
        · have hk1 : (0 : Int) ≤ (k : Int) := Int.natCast_nonneg _
          have hk2 : (k : Int) < (n : Int) + 3 := by omega
          go_wp2_with (first
            | (refine arm_build rfl 50 _ rfl (icells ⟨markB, false, []⟩ none 0) (by as_aux_lemma => kernel_rfl) ?_
               intro v77 hv
               have V77 := Aside0.mk hv
               clear hv)
            | (refine arm_store_mid rfl 50 _ _ rfl bl (k * 3) 50 cs2 (icells ⟨markB, false, []⟩ none 0) (by simp [Act.eval]) V77.out LK.out.tab (by rw [LK.out.len, ← NN.out]; show k * 3 + 3 ≤ _; omega) size50 (one_icells _ _ _) ?_
               intro W5 hA hO
               have hfit : k * 3 + (icells ⟨markB, false, []⟩ none 0).length ≤ cs2.length := by rw [LK.out.len, ← NN.out]; show k * 3 + 3 ≤ _; omega
               have L5 := Aside0.mk ((LK.out.touch hA (length_splice _ _ _ hfit) hO (fun j hj => by rw [splice_at hfit, if_neg (by omega)])).mark (by rw [splice_at hfit, if_pos ⟨Nat.le_refl _, by show k * 3 < k * 3 + 3; omega⟩, Nat.sub_self]; rfl))
               clear hA hO hfit)
            | fail)
          go_roundg (n + 3 - (k + 1))
          case measure => have := HK.out; omega
          case rel => exact ⟨k + 1, _, ⟨by have := HK.out; omega, by omega⟩, by go_num, L5⟩
        · obtain rfl : k = n + 3 := by have := HK.out; omega
          go_wp2_with fail
          go_ret
          exact ⟨bl, ds, cs2, rfl, LK.out⟩
end Go.Proofs.YtbpfmlckddhgbaaGreatDoor
/- lendTexts, keptTexts. -/
namespace Go.Proofs.YtbpfmlckddhgbaaGreatDoor
set_option linter.unusedVariables false
set_option linter.unusedSimpArgs false
open Go Go.RowKit Go.Maps Go.WideMaps Go.Proofs.YtbpfmlckddhgbaaGreatDoorW.PrintWords Go.Proofs.YtbpfmlckddhgbaaGreatDoorW.PrintLast
section
variable {P : Program} {ops : Array Oper} {rest : List Oper} {o : Oper} {a : Act} {w : World} {Q : Exit → Act → World → Prop}
theorem arm_copy_texts (hgd : o.guard = none) (d s : Operand) (ho : o.op = .call { callee := .builtin .copy, args := #[d, s], argTypes := #[66, 66] }) (hu : P.underlying 66 = some (.slice 9)) (hsz : (P.info? 9).map (·.size) = some 1)
    (g dLen dCap : Nat) (A : Option Addr) (m c : Nat) (hd : a.eval d = .slice (some ⟨g, 0, none⟩) dLen dCap) (hs : a.eval s = .slice A m c) (ps : List ByteArray) (hm : m = ps.length) (hi : Nat) (hR : RdS w hi A ps)
    (cur : List Value) (t : TypeId) (hA : At w g t cur) (hfit : m ≤ cur.length) (hdl : m ≤ dLen)
    (h : ∀ W, At W g t (splice cur 0 (ps.map Value.string)) → Only (· = g) w.heap.size w W → wpList P ops Q rest (a.put o.dst (goInt m)) W) : wpList P ops Q (o :: rest) a w := by
  subst hm
  cases ps with
  | nil =>
    refine wpList_copy_nothing hgd d s 66 66 ho 9 hu hsz _ _ _ _ _ _ hd hs (by show Nat.min 0 dLen = 0; exact Nat.zero_min _) ?_
    refine h w ?_ (Only.refl _ _ _)
    have e : splice cur 0 (([] : List ByteArray).map Value.string) = cur := by unfold splice; simp
    rw [e]; exact hA
  | cons y ys =>
    obtain ⟨g1, o1, rfl, hb, hc⟩ := hR (by simp)
    refine arm_copy hgd d s 66 66 ho 9 hu hsz g 0 dLen dCap ⟨g1, o1, none⟩ _ c hd hs cur t hA ((y :: ys).map Value.string) (by rw [List.length_map]; exact (Nat.min_eq_left hdl).symm) (fun j v hv => ?_) (by rw [List.length_map]; omega) (by intro v hv; obtain ⟨b, _, rfl⟩ := List.mem_map.1 hv; rfl) ?_
    · have hj : j < (y :: ys).length := by have := (List.getElem?_eq_some_iff.1 hv).1; rwa [List.length_map] at this
      rw [Addr.add_mid, hc j _ (List.getElem?_eq_getElem hj), ← hv, List.getElem?_map, List.getElem?_eq_getElem hj]
      rfl
    · intro W hW
      rw [List.length_map]
      refine h W (by subst hW; exact hA.setRow _) (by subst hW; exact Only.setRow (S := (· = g)) (Only.refl _ _ _) (.inl rfl) _)
end
def lentT (ps : List ByteArray) : List Value := ps.map Value.string ++ [.string markB, .string markB]
theorem lentT_rd {w : World} {bp : Nat} {ps : List ByteArray} (h : At w bp 9 (lentT ps)) : RdS w w.heap.size (some ⟨bp, 0, none⟩) ps := fun _ => by
  refine ⟨bp, 0, rfl, h.lt, fun j p hp => ?_⟩
  rw [Nat.zero_add, h.cell]
  unfold lentT
  rw [List.getElem?_append_left (by rw [List.length_map]; exact (List.getElem?_eq_some_iff.1 hp).1), List.getElem?_map, hp]
  rfl
theorem info9m : (Tryz.prog.info? 9).map (fun i => (i.zero, i.size, i.bytes)) = some (some (.string ⟨#[]⟩), 1, 16) := by kernel_rfl
theorem size9 : (Tryz.prog.info? 9).map (·.size) = some 1 := by kernel_rfl
set_option maxRecDepth 8000 in
set_option maxHeartbeats 4000000 in
theorem lendTexts_calls (w : World) (hi : Nat) (A : Option Addr) (c : Nat) (ps : List ByteArray) (hS : RdS w hi A ps) (hhi : hi ≤ w.heap.size) (hn : ps.length ≤ 1048576) :
    Calls Tryz.prog 34 #[.slice A ps.length c] w fun e w' => ∃ bp, e = .returned (.slice (some ⟨bp, 0, none⟩) ps.length (ps.length + 2)) ∧ At w' bp 9 (lentT ps) ∧ w.heap.size ≤ bp ∧ Below w.heap.size w w' := by
  have HS := Aside0.mk hS
  have HH := Aside0.mk hhi
  obtain ⟨n, hnn⟩ : ∃ n, n = ps.length := ⟨_, rfl⟩
  rw [← hnn] at hn ⊢
  have NN := Aside0.mk hnn
  clear hS hhi hnn
  have hn1 : (n : Int) < (n : Int) + 2 := by omega
  have hn2 : (0 : Int) ≤ (n : Int) := Int.natCast_nonneg _
  have hn3 : (n : Int) + 1 < (n : Int) + 2 := by omega
  go_enter Tryz.func34, Tryz.ntmps34
  go_wp2_with (first
    | (refine arm_make rfl _ _ 66 9 rfl (.string ⟨#[]⟩) rfl (n + 2) 16 Tryz.underlying66 info9m rfl rfl (by omega) (by omega) ?_
       intro W3 bp hb hA hB
       have A3 := Aside0.mk hA
       have B3 := Aside0.mk hB
       have F3 := Aside0.mk (show w.heap.size ≤ bp by omega)
       clear hb hA hB)
    | (refine arm_copy_texts rfl _ _ rfl Tryz.underlying66 size9 bp (n + 2) (n + 2) A n c rfl rfl ps NN.out hi (HS.out.below B3.out HH.out) _ 9 A3.out (by rw [List.length_replicate]; omega) (by omega) ?_
       intro W4 hA hO
       have hf := F3.out
       have hA : At W4 bp 9 (ps.map Value.string ++ [.string ⟨#[]⟩, .string ⟨#[]⟩]) := by
         have e : splice (List.replicate (n + 2) (Value.string ⟨#[]⟩)) 0 (ps.map Value.string) = ps.map Value.string ++ [.string ⟨#[]⟩, .string ⟨#[]⟩] := by
           unfold splice
           rw [List.take_zero, List.nil_append, Nat.zero_add, List.length_map, List.drop_replicate, NN.out, show ps.length + 2 - ps.length = 2 by omega]
           rfl
         rw [e] at hA; exact hA
       have A4 := Aside0.mk hA
       have B4 := Aside0.mk (B3.out.trans (hO.to_below B3.out.size (fun b hb => by have e : b = bp := hb; omega)))
       have k0 : W4.cell? ⟨bp, n, none⟩ = some (.string ⟨#[]⟩) := by rw [hA.cell, List.getElem?_append_right (by rw [List.length_map]; have := NN.out; omega), List.length_map, NN.out, Nat.sub_self]; rfl
       have f0 : W4.frozen? ⟨bp, n, none⟩ = false := hA.frozen _
       have k1 : W4.cell? ⟨bp, n + 1, none⟩ = some (.string ⟨#[]⟩) := by rw [hA.cell, List.getElem?_append_right (by rw [List.length_map]; have := NN.out; omega), List.length_map, NN.out, show ps.length + 1 - ps.length = 1 by omega]; rfl
       have f1 : W4.frozen? ⟨bp, n + 1, none⟩ = false := hA.frozen _
       clear hA hO hf)
    | (refine arm_store1 rfl 9 _ _ rfl ⟨bp, n, none⟩ rfl (.string markB) rfl _ k0 f0 size9 rfl rfl ?_
       intro W5 hW
       have hO : Only (· = bp) W4.heap.size W4 W5 := by subst hW; exact Only.setCell (S := (· = bp)) (a := ⟨bp, n, none⟩) (Only.refl _ _ _) (.inl rfl) _
       have hA : At W5 bp 9 (ps.map Value.string ++ [.string markB, .string ⟨#[]⟩]) := by
         have e := A4.out.setCell n (.string markB)
         rw [← hW, List.set_append_right _ _ (by rw [List.length_map]; have := NN.out; omega), List.length_map, NN.out, Nat.sub_self] at e
         exact e
       have hf := F3.out
       have A5 := Aside0.mk hA
       have B5 := Aside0.mk (B4.out.trans (hO.to_below B4.out.size (fun b hb => by have e : b = bp := hb; omega)))
       have k1 : W5.cell? ⟨bp, n + 1, none⟩ = some (.string ⟨#[]⟩) := by rw [hA.cell, List.getElem?_append_right (by rw [List.length_map]; have := NN.out; omega), List.length_map, NN.out, show ps.length + 1 - ps.length = 1 by omega]; rfl
       have f1 : W5.frozen? ⟨bp, n + 1, none⟩ = false := hA.frozen _
       clear hA hO hf hW k0 f0)
    | (refine arm_store1 rfl 9 _ _ rfl ⟨bp, n + 1, none⟩ rfl (.string markB) rfl _ k1 f1 size9 rfl rfl ?_
       intro W6 hW
       have G := A5.out
       have hO : Only (· = bp) W5.heap.size W5 W6 := by subst hW; exact Only.setCell (S := (· = bp)) (a := ⟨bp, n + 1, none⟩) (Only.refl _ _ _) (.inl rfl) _
       have hA : At W6 bp 9 (lentT ps) := by
         have e := A5.out.setCell (n + 1) (.string markB)
         rw [← hW, List.set_append_right _ _ (by rw [List.length_map]; have := NN.out; omega), List.length_map, NN.out, show ps.length + 1 - ps.length = 1 by omega] at e
         exact e
       have hf := F3.out
       have A6 := Aside0.mk hA
       have B6 := Aside0.mk (B5.out.trans (hO.to_below B5.out.size (fun b hb => by have e : b = bp := hb; omega)))
       clear hA hO hf hW G)
    | fail)
  go_ret
  exact ⟨bp, rfl, A6.out, F3.out, B6.out⟩
set_option maxRecDepth 8000 in
set_option maxHeartbeats 4000000 in
theorem keptTexts_calls (w : World) (hi : Nat) (A : Option Addr) (c bp : Nat) (ps : List ByteArray) (hS : RdS w hi A ps) (hhi : hi ≤ w.heap.size) (hn : ps.length ≤ 1048576) (hA : At w bp 9 (lentT ps)) :
    Calls Tryz.prog 38 #[.slice (some ⟨bp, 0, none⟩) ps.length (ps.length + 2), .slice A ps.length c] w fun e w' => e = .returned (.bool true) ∧ Below w.heap.size w w' := by
  have h1 := lentT_rd hA
  have hk0 : w.cell? ⟨bp, ps.length, none⟩ = some (.string markB) := by rw [hA.cell]; unfold lentT; rw [List.getElem?_append_right (by rw [List.length_map]; omega), List.length_map, Nat.sub_self]; rfl
  have hk1 : w.cell? ⟨bp, ps.length + 1, none⟩ = some (.string markB) := by rw [hA.cell]; unfold lentT; rw [List.getElem?_append_right (by rw [List.length_map]; omega), List.length_map, show ps.length + 1 - ps.length = 1 by omega]; rfl
  have hc := sameT_calls w w.heap.size (some ⟨bp, 0, none⟩) A (ps.length + 2) c ps ps h1 (hS.lt hhi) (Nat.le_refl _) ⟨by omega, by omega⟩
  rw [sameT_refl] at hc
  obtain ⟨n, hnn⟩ : ∃ n, n = ps.length := ⟨_, rfl⟩
  rw [← hnn] at hn hk0 hk1 hc ⊢
  have HC := Aside0.mk hc
  have BL := Aside0.mk (show bp < w.heap.size from hA.lt)
  have K0 := Aside0.mk hk0
  have K1 := Aside0.mk hk1
  clear hS hhi hA h1 hk0 hk1 hc hnn
  have hn1 : (n : Int) < (n : Int) + 2 := by omega
  have hn2 : (0 : Int) ≤ (n : Int) := Int.natCast_nonneg _
  have hn3 : (n : Int) + 1 < (n : Int) + 2 := by omega
  have hmk := markB_list
  go_enter Tryz.func38, Tryz.ntmps38
  go_wp2_with (first
    | (go_at_call 37
       refine HC.out.mono ?_
       rintro e w1 ⟨rfl, hB⟩
       have k0 : w1.cell? ⟨bp, n, none⟩ = some (.string markB) := by rw [hB.cell (p := ⟨bp, n, none⟩) BL.out]; exact K0.out
       have k1 : w1.cell? ⟨bp, n + 1, none⟩ = some (.string markB) := by rw [hB.cell (p := ⟨bp, n + 1, none⟩) BL.out]; exact K1.out
       have B1 := Aside0.mk hB
       clear hB)
    | fail)
  go_ret
  refine ⟨?_, B1.out⟩
  rfl
end Go.Proofs.YtbpfmlckddhgbaaGreatDoor
/- kept: what was lent is as it was; then it is written over. -/
namespace Go.Proofs.YtbpfmlckddhgbaaGreatDoor
set_option linter.unusedVariables false
set_option linter.unusedSimpArgs false
open Go Go.RowKit Go.Maps Go.WideMaps Go.Proofs.YtbpfmlckddhgbaaGreatDoorW.PrintWords Go.Proofs.YtbpfmlckddhgbaaGreatDoorW.PrintLast
def spoiltB : ByteArray := ⟨#[115, 112, 111, 105, 108, 116]⟩
structure SpSt (w wr : World) (bl : Nat) (l : List Itm) (ds : List Nat) (cs : List Value) (i : Nat) : Prop where
  tab : At wr bl 50 cs
  len : cs.length = (l.length + 3) * 3
  rows : ∀ (j : Nat) (x : Itm) (d : Nat), i ≤ j → l[j]? = some x → ds[j]? = some d → RowAt cs j x (some ⟨d, 0, none⟩) (x.data.length + 5)
  dl : ds.length = l.length
  dat : ∀ (j : Nat) (x : Itm) (d : Nat), i ≤ j → l[j]? = some x → ds[j]? = some d → ∃ zs : List Int, zs.length = x.data.length + 5 ∧ At wr d 5 (zs.map (Value.int .u8))
  fresh : ∀ d ∈ ds, d ≠ bl ∧ d < w.heap.size
  bll : bl < w.heap.size
  dist : ds.Nodup
  only : Only (fun b => b = bl ∨ b ∈ ds) w.heap.size w wr
namespace SpSt
variable {w wr w1 : World} {bl i : Nat} {l : List Itm} {ds : List Nat} {cs cs' : List Value} {x : Itm} {d : Nat}
theorem start {w0 : World} (h : Lent w0 w bl l ds cs l.length (l.length + 3)) (hb : Below w.heap.size w wr) : SpSt w wr bl l ds cs 0 :=
  ⟨h.tab.below hb h.tab.lt, h.len, fun j x d _ h1 h2 => h.rows j x d h1 h2, h.dl, fun j x d _ h1 h2 => ⟨x.data.map (fun (b : UInt8) => (b.toNat : Int)) ++ List.replicate 5 201, by simp, by
    have e := (h.dat j x d h1 h2).below hb (h.dat j x d h1 h2).lt
    have e2 : lentC x = (x.data.map (fun (b : UInt8) => (b.toNat : Int)) ++ List.replicate 5 201).map (Value.int .u8) := by unfold lentC; rw [List.map_append, List.map_map, List.map_replicate]; rfl
    rw [← e2]; exact e⟩, fun d hd => ⟨(h.fresh d hd).2.1, (h.fresh d hd).2.2⟩, h.tab.lt, h.dist, Only.of_below hb⟩
theorem draw (h : SpSt w wr bl l ds cs i) (n : Nat) : SpSt w (wr.drewN n) bl l ds cs i :=
  ⟨h.tab.drewN n, h.len, h.rows, h.dl, fun j x d h0 h1 h2 => by obtain ⟨zs, g1, g2⟩ := h.dat j x d h0 h1 h2; exact ⟨zs, g1, g2.drewN n⟩, h.fresh, h.bll, h.dist, h.only.drewN n⟩
theorem byte (h : SpSt w wr bl l ds cs i) (hd : ds[i]? = some d) (k : Nat) (z : Int) : SpSt w (wr.setCell ⟨d, k, none⟩ (.int .u8 z)) bl l ds cs i := by
  have hm := List.mem_of_getElem? hd
  have hf := h.fresh d hm
  refine ⟨h.tab.setCell_other (a := ⟨d, k, none⟩) (fun e => hf.1 e.symm) _, h.len, h.rows, h.dl, fun j x e h0 h1 h2 => ?_, h.fresh, h.bll, h.dist, h.only.setCell (a := ⟨d, k, none⟩) (.inl (.inr hm)) _⟩
  obtain ⟨zs, g1, g2⟩ := h.dat j x e h0 h1 h2
  by_cases he : e = d
  · subst he
    exact ⟨zs.set k z, by rw [List.length_set]; exact g1, by rw [List.map_set]; exact g2.setCell k _⟩
  · exact ⟨zs, g1, g2.setCell_other (a := ⟨d, k, none⟩) he _⟩
theorem row (h : SpSt w wr bl l ds cs i) (hA : At w1 bl 50 cs') (hl : cs'.length = cs.length) (ho : Only (· = bl) wr.heap.size wr w1) (hk : ∀ k, (i + 1) * 3 ≤ k → cs'[k]? = cs[k]?) : SpSt w w1 bl l ds cs' (i + 1) := by
  refine ⟨hA, by rw [hl, h.len], fun j x d h0 h1 h2 => ?_, h.dl, fun j x d h0 h1 h2 => ?_, h.fresh, h.bll, h.dist, h.only.then_only ho h.only.size (fun b _ hb => .inl hb)⟩
  · obtain ⟨r1, r2, r3⟩ := h.rows j x d (by omega) h1 h2
    exact ⟨by rw [hk _ (by omega)]; exact r1, by rw [hk _ (by omega)]; exact r2, by rw [hk _ (by omega)]; exact r3⟩
  · obtain ⟨zs, g1, g2⟩ := h.dat j x d (by omega) h1 h2
    exact ⟨zs, g1, ho.at_ g2.lt (fun hs => (h.fresh d (List.mem_of_getElem? h2)).1 hs) g2⟩
end SpSt
set_option maxRecDepth 8000 in
set_option maxHeartbeats 8000000 in
theorem kept_calls (w0 w : World) (hi : Nat) (A : Option Addr) (c bl : Nat) (l : List Itm) (ds : List Nat) (cs : List Value) (hI : RdI w hi A l) (hhi : hi ≤ w.heap.size) (hn : l.length ≤ 3000) (hd : ∀ x ∈ l, x.data.length ≤ 4194304) (hL : Lent w0 w bl l ds cs l.length (l.length + 3)) :
    Calls Tryz.prog 21 #[.slice (some ⟨bl, 0, none⟩) l.length (l.length + 3), .slice A l.length c] w fun e w' => e = .returned (.bool true) ∧ Only (fun b => b = bl ∨ b ∈ ds) w.heap.size w w' := by
  have HI := Aside0.mk hI
  have HH := Aside0.mk hhi
  have DL := Aside0.mk hd
  obtain ⟨n, hnn⟩ : ∃ n, n = l.length := ⟨_, rfl⟩
  rw [← hnn] at hn ⊢
  have NN := Aside0.mk hnn
  have HL := Aside0.mk (show Lent w0 w bl l ds cs n (n + 3) by rw [hnn]; exact hL)
  clear hI hhi hd hnn hL
  have hmk := markB_list
  have hn2 : (0 : Int) ≤ (n : Int) := Int.natCast_nonneg _
  go_enter Tryz.func21, Tryz.ntmps21
  go_wp2_with fail
  go_loopg [6] (n + 3) (fun g s6 wr => ∃ i : Nat, Aside0 (i + g = n + 3) ∧ s6 = .int .i64 i ∧ Aside0 (Below w.heap.size w wr))
  case atStart => exact ⟨0, ⟨by omega⟩, rfl, ⟨Below.refl _ _⟩⟩
  case round =>
    obtain ⟨i, HJ, rfl, HB⟩ := hrel
    by_cases hlt3 : i < n + 3
    · by_cases hlt : i < n
      · obtain ⟨x, hx⟩ : ∃ x, l[i]? = some x := ⟨_, List.getElem?_eq_getElem (by have := NN.out; omega)⟩
        obtain ⟨d, hdd⟩ : ∃ d, ds[i]? = some d := ⟨_, List.getElem?_eq_getElem (by have := HL.out.dl; omega)⟩
        have HX := Aside0.mk hx
        have HDD := Aside0.mk hdd
        have DX0 := DL.out x (List.mem_of_getElem? hx)
        obtain ⟨m, hm⟩ : ∃ m, m = x.data.length := ⟨_, rfl⟩
        rw [← hm] at DX0
        have MX := Aside0.mk hm
        obtain ⟨g0, o0, hA, hg0, hits⟩ := (HI.out.only (Only.of_below (S := fun _ => False) HB.out) HH.out (fun _ h => h.elim)) (by intro h; rw [h] at hx; simp at hx)
        subst hA
        obtain ⟨A0, c0, r0, rc0, u0⟩ := hits i x hx
        obtain ⟨q1, q2, q3⟩ := HL.out.rows i x d hx hdd
        have hT : At wr bl 50 cs := HL.out.tab.below HB.out HL.out.tab.lt
        have hD : At wr d 5 (lentC x) := (HL.out.dat i x d hx hdd).below HB.out (HL.out.dat i x d hx hdd).lt
        have DD := Aside0.mk hD
        have kp : wr.cell? ⟨bl, i * 3, none⟩ = some (.string x.path) := by rw [hT.cell]; exact q1
        have kd : wr.cell? ⟨bl, i * 3 + 1, none⟩ = some (.bool x.dir) := by rw [hT.cell]; exact q2
        have ks : wr.cell? ⟨bl, i * 3 + 2, none⟩ = some (.slice (some ⟨d, 0, none⟩) m (m + 5)) := by rw [hT.cell, hm]; exact q3
        have lp : wr.cell? ⟨g0, o0 + i * 3, none⟩ = some (.string x.path) := by have e := r0 0 _ rfl; exact e
        have ld : wr.cell? ⟨g0, o0 + i * 3 + 1, none⟩ = some (.bool x.dir) := by have e := r0 1 _ rfl; exact e
        have ls : wr.cell? ⟨g0, o0 + i * 3 + 2, none⟩ = some (.slice A0 m c0) := by rw [hm]; have e := r0 2 _ rfl; exact e
        have v1 : RdL wr (some ⟨d, 0, none⟩) x.data := fun _ => ⟨_, rfl, hD.lt, fun k hk => by
          rw [Addr.add_mid, Nat.zero_add, hD.cell]
          unfold lentC
          rw [List.getElem?_append_left (by simpa using hk), List.getElem?_map, List.getElem?_eq_getElem hk, List.getD_eq_getElem?_getD, List.getElem?_eq_getElem hk]
          rfl⟩
        have v2 : RdL wr A0 x.data := fun hne => by obtain ⟨ad, a1, a2, a3⟩ := u0 hne; exact ⟨ad, a1, by have := HH.out; have := HB.out.size; omega, a3⟩
        have hc1 : ∀ q, (convert 35 9 (.slice (some ⟨d, 0, none⟩) m (m + 5))).run Tryz.prog (wr.drewN q) = .ok (.string ⟨x.data.toArray⟩) (wr.drewN q) := fun q => by rw [hm, ← str_of_bytes]; exact (RdL.below v1 (show Below wr.heap.size wr (wr.drewN q) from ⟨rfl, rfl, rfl, Nat.le_refl _, fun _ _ => rfl⟩)).bytesIn.convert (by simp) _ 35 5 9 tu35 tu5 tu9
        have hc2 : ∀ q, (convert 35 9 (.slice A0 m c0)).run Tryz.prog (wr.drewN q) = .ok (.string ⟨x.data.toArray⟩) (wr.drewN q) := fun q => by rw [hm, ← str_of_bytes]; exact (RdL.below v2 (show Below wr.heap.size wr (wr.drewN q) from ⟨rfl, rfl, rfl, Nat.le_refl _, fun _ _ => rfl⟩)).bytesIn.convert (by simp) _ 35 5 9 tu35 tu5 tu9
        clear hx hdd hm hits r0 rc0 u0 hg0 q1 q2 q3 hT hD v1 v2
        have hb1 : (0 : Int) ≤ (m : Int) := Int.natCast_nonneg _
        go_wp2_with fail
        go_quiet (fail)
        go_wp2_with fail
        go_quiet (fail)
        go_wp2_with fail
        clear kp kd ks lp ld ls hc1 hc2
        have BQ := Aside0.mk (show ∀ q, Below w.heap.size w (wr.drewN q) from fun q => pw_below_drewN HB.out q)
        have DW := Aside0.mk (show At w d 5 (lentC x) from HL.out.dat i x d HX.out HDD.out)
        obtain ⟨wo, rfl⟩ : ∃ wo : World, wo = wr := ⟨_, rfl⟩
        go_loopg [8] 5 (fun g s8 wr => ∃ k : Nat, Aside0 (k + g = m + 5 ∧ m ≤ k) ∧ s8 = .int .i64 k ∧ Aside0 (Below w.heap.size w wr))
        case atStart => exact ⟨m, ⟨by omega, Nat.le_refl _⟩, rfl, ⟨BQ.out _⟩⟩
        case round =>
          obtain ⟨k, HK, rfl, HB2⟩ := hrel
          have hmk2 := HK.out.2
          by_cases hkt : k < m + 5
          · have kz : wr.cell? ⟨d, k, none⟩ = some (.int .u8 201) := by
              rw [(DW.out.below HB2.out DW.out.lt).cell]
              unfold lentC
              rw [List.getElem?_append_right (by rw [List.length_map, ← MX.out]; omega), List.getElem?_replicate, if_pos (by rw [List.length_map, ← MX.out]; omega)]
              rfl
            have hk1 : (0 : Int) ≤ (k : Int) := Int.natCast_nonneg _
            have hk2 : (k : Int) < (m : Int) + 5 := by omega
            go_wp2_with fail
            go_roundg (m + 5 - (k + 1))
            case measure => have := HK.out; omega
            case rel => exact ⟨k + 1, ⟨by have := HK.out; omega, by omega⟩, by go_num, HB2⟩
          · obtain rfl : k = m + 5 := by have := HK.out; omega
            go_wp2_with fail
            go_roundg (n + 3 - (i + 1))
            case measure => have := HJ.out; omega
            case rel => exact ⟨i + 1, ⟨by have := HJ.out; omega⟩, by go_num, HB2⟩
      · obtain ⟨q, rfl⟩ : ∃ q, i = n + q := ⟨i - n, by omega⟩
        have kp : wr.cell? ⟨bl, (n + q) * 3, none⟩ = some (.string markB) := by rw [(HL.out.tab.below HB.out HL.out.tab.lt).cell]; exact HL.out.marks (n + q) (by rw [← NN.out]; omega) (by omega)
        have hq1 : (0 : Int) ≤ (n : Int) + (q : Int) := by omega
        have hq2 : (n : Int) + (q : Int) < (n : Int) + 3 := by omega
        have hq3 : ¬ (n : Int) + (q : Int) < (n : Int) := by omega
        go_wp2_with fail
        go_roundg (n + 3 - (n + q + 1))
        case measure => have := HJ.out; omega
        case rel => exact ⟨n + q + 1, ⟨by have := HJ.out; omega⟩, by go_num, HB⟩
    · obtain rfl : i = n + 3 := by have := HJ.out; omega
      clear HJ hlt3
      obtain ⟨wo, rfl⟩ : ∃ wo : World, wo = wr := ⟨_, rfl⟩
      have S0 := Aside0.mk (show SpSt w wo bl l ds cs 0 from SpSt.start (w0 := w0) (by have e := HL.out; rw [NN.out] at e; exact e) HB.out)
      go_wp2_with fail
      go_loopg [9] n (fun g s9 wr => ∃ (i : Nat) (cs2 : List Value), Aside0 (i + g = n) ∧ s9 = .int .i64 i ∧ Aside0 (SpSt w wr bl l ds cs2 i))
      case atStart => exact ⟨0, cs, ⟨by omega⟩, rfl, S0⟩
      case round =>
        obtain ⟨i, cs2, HJ, rfl, SP⟩ := hrel
        by_cases hlt : i < n
        · obtain ⟨x, hx⟩ : ∃ x, l[i]? = some x := ⟨_, List.getElem?_eq_getElem (by have := NN.out; omega)⟩
          obtain ⟨d, hdd⟩ : ∃ d, ds[i]? = some d := ⟨_, List.getElem?_eq_getElem (by have := HL.out.dl; omega)⟩
          have HX := Aside0.mk hx
          have HD := Aside0.mk hdd
          have DX0 := DL.out x (List.mem_of_getElem? hx)
          obtain ⟨m, hm⟩ : ∃ m, m = x.data.length := ⟨_, rfl⟩
          rw [← hm] at DX0
          have MX := Aside0.mk hm
          clear hx hdd hm
          obtain ⟨wo2, rfl⟩ : ∃ wo : World, wo = wr := ⟨_, rfl⟩
          have hi1 : (0 : Int) ≤ (i : Int) := Int.natCast_nonneg _
          go_wp2_with fail
          go_loopg [10] m (fun g s10 wr => ∃ k : Nat, Aside0 (k + g = m) ∧ s10 = .int .i64 k ∧ Aside0 (SpSt w wr bl l ds cs2 i))
          case atStart => exact ⟨0, ⟨by omega⟩, rfl, SP⟩
          case round =>
            obtain ⟨k, HK, rfl, SK⟩ := hrel
            have ks : wr.cell? ⟨bl, i * 3 + 2, none⟩ = some (.slice (some ⟨d, 0, none⟩) m (m + 5)) := by rw [SK.out.tab.cell, (SK.out.rows i x d (Nat.le_refl _) HX.out HD.out).2.2, MX.out]
            by_cases hkt : k < m
            · obtain ⟨zs, hz1, hz2⟩ := SK.out.dat i x d (Nat.le_refl _) HX.out HD.out
              obtain ⟨z, hz⟩ : ∃ z, zs[k]? = some z := ⟨_, List.getElem?_eq_getElem (by rw [hz1, ← MX.out]; omega)⟩
              have kz : wr.cell? ⟨d, k, none⟩ = some (.int .u8 z) := by rw [hz2.cell, List.getElem?_map, hz]; rfl
              have fz : wr.frozen? ⟨d, k, none⟩ = false := hz2.frozen k
              have hk1 : (0 : Int) ≤ (k : Int) := Int.natCast_nonneg _
              have hk2 : (k : Int) < (m : Int) := by omega
              clear hz1 hz2 hz
              go_wp2_with fail
              refine wp_region_quiet_tail 16 (by kernel_rfl) (by kernel_rfl) ?_
              simp only [List.take_succ_cons, List.take_zero, List.drop_succ_cons, List.drop_zero]
              repeat (first | go_big_quiet_skip | (go_big_quiet_want; go_big_quiet_op; first | go_big_quiet_on | (apply Exists.intro; refine ⟨?_, ?_⟩; (· (fail)); go_big_quiet_on)))
              refine wpQuiet_nil ?_
              go_wp2_with fail
              go_roundg (m - (k + 1))
              case measure => have := HK.out; omega
              case rel => exact ⟨k + 1, ⟨by have := HK.out; omega⟩, by go_num, ⟨(SK.out.draw _).byte HD.out k _⟩⟩
            · obtain rfl : k = m := by have := HK.out; omega
              go_wp2_with (first
                | (refine arm_build rfl 50 _ rfl (icells ⟨spoiltB, false, []⟩ none 0) (by as_aux_lemma => kernel_rfl) ?_
                   intro v138 hv
                   have V138 := Aside0.mk hv
                   clear hv)
                | (refine arm_store_mid rfl 50 _ _ rfl bl (i * 3) 50 cs2 (icells ⟨spoiltB, false, []⟩ none 0) (by simp [Act.eval]) V138.out SK.out.tab (by rw [SK.out.len, ← NN.out]; show i * 3 + 3 ≤ _; omega) size50 (one_icells _ _ _) ?_
                   intro W5 hA hO
                   have hfit : i * 3 + (icells ⟨spoiltB, false, []⟩ none 0).length ≤ cs2.length := by rw [SK.out.len, ← NN.out]; show i * 3 + 3 ≤ _; omega
                   have L5 := Aside0.mk (SK.out.row hA (length_splice _ _ _ hfit) hO (fun j hj => by rw [splice_at hfit, if_neg (by show ¬ (i * 3 ≤ j ∧ j < i * 3 + 3); omega)]))
                   clear hA hO hfit)
                | fail)
              go_roundg (n - (i + 1))
              case measure => have := HJ.out; omega
              case rel => exact ⟨i + 1, _, ⟨by have := HJ.out; omega⟩, by go_num, L5⟩
        · obtain rfl : i = n := by have := HJ.out; omega
          go_wp2_with fail
          go_ret
          exact ⟨rfl, SP.out.only⟩
end Go.Proofs.YtbpfmlckddhgbaaGreatDoor
/- The law TreeTaken answers true for every list of items and every row of paths that hold together at most 1048576 values and letters, and leaves them as they were.
   Conditions: the program's listed tables hold what its text lays (the card ties them to it); what is read is of bulk at most 1048576. -/
namespace Go.Proofs.YtbpfmlckddhgbaaGreatDoor
set_option linter.unusedVariables false
set_option linter.unusedSimpArgs false
open Go Go.RowKit Go.Maps Go.WideMaps Go.Proofs.YtbpfmlckddhgbaaGreatDoorW.PrintWords Go.Proofs.YtbpfmlckddhgbaaGreatDoorW.PrintLast
theorem sameL_refl : ∀ xs : List Itm, sameL xs xs = true
  | [] => rfl
  | x :: xs => by rw [sameL, sameL_refl xs, Bool.and_true]; unfold sameI; simp
theorem RdI.up {w : World} {hi hi' : Nat} {A : Option Addr} {its : List Itm} (h : RdI w hi A its) (hh : hi ≤ hi') : RdI w hi' A its := fun hne => by
  obtain ⟨g, o, h1, h2, h3⟩ := h hne
  refine ⟨g, o, h1, by omega, fun j x hx => ?_⟩
  obtain ⟨A', c', g1, g2, g3⟩ := h3 j x hx
  exact ⟨A', c', g1, g2, fun hd => by obtain ⟨ad, q1, q2, q3⟩ := g3 hd; exact ⟨ad, q1, by omega, q3⟩⟩
structure TSt (w wr : World) (h2 : Nat) (A B Am Ai : Option Addr) (its ms : List Itm) (keep mi : List ByteArray) : Prop where
  items : RdI wr w.heap.size A its
  keeps : RdS wr w.heap.size B keep
  ms_ : RdI wr h2 Am ms
  mi_ : RdS wr h2 Ai mi
  below : Below w.heap.size w wr
  h2_ : h2 ≤ wr.heap.size
theorem TSt.step {w wr w1 : World} {h2 : Nat} {A B Am Ai : Option Addr} {its ms : List Itm} {keep mi : List ByteArray} (h : TSt w wr h2 A B Am Ai its ms keep mi) (hb : Below wr.heap.size wr w1) : TSt w w1 h2 A B Am Ai its ms keep mi :=
  ⟨h.items.only (Only.of_below (S := fun _ => False) hb) h.below.size (fun _ h => h.elim), h.keeps.below hb h.below.size, h.ms_.only (Only.of_below (S := fun _ => False) hb) h.h2_ (fun _ h => h.elim), h.mi_.below hb h.h2_, h.below.trans (hb.mono h.below.size), Nat.le_trans h.h2_ hb.size⟩
end Go.Proofs.YtbpfmlckddhgbaaGreatDoor
/- The law TreeCuts, the walk. -/
namespace Go.Proofs.YtbpfmlckddhgbaaGreatDoor
set_option linter.unusedVariables false
set_option linter.unusedSimpArgs false
open Go Go.RowKit Go.Maps Go.WideMaps Go.Proofs.YtbpfmlckddhgbaaGreatDoorW.PrintWords Go.Proofs.YtbpfmlckddhgbaaGreatDoorW.PrintLast
def cutI (its : List Itm) (keep : List ByteArray) : List Itm := if isTreeM its && isKeepM keep then cutM keep its else []
def cutP (its : List Itm) (keep : List ByteArray) : List ByteArray := if isTreeM its && isKeepM keep then missM keep its else []
def cutE (its : List Itm) (keep : List ByteArray) : Int := if isTreeM its then (if isKeepM keep then 0 else 65) else 64
theorem cutI_len (its : List Itm) (keep : List ByteArray) : (cutI its keep).length ≤ its.length := by
  unfold cutI
  split
  · exact pick_len _ _
  · simp
theorem cutP_len (its : List Itm) (keep : List ByteArray) : (cutP its keep).length ≤ keep.length := by
  unfold cutP
  split
  · exact List.length_filter_le _ _
  · simp
def CutPost (w : World) (its : List Itm) (keep : List ByteArray) (e : Ending) (w' : World) : Prop :=
  ∃ A1 c1 A2 c2, e = .returned (.tuple #[.slice A1 (cutI its keep).length c1, .slice A2 (cutP its keep).length c2, .int .i64 (cutE its keep)]) ∧ RdI w' w'.heap.size A1 (cutI its keep) ∧ RdS w' w'.heap.size A2 (cutP its keep) ∧ Below w.heap.size w w'
theorem cutPost_ok {w w' : World} {D : Nat → Prop} {its : List Itm} {keep : List ByteArray} {v1 v2 : Value} (hT : isTreeM its = true) (hK : isKeepM keep = true) (hr : ItRow w' D v1 (cutM keep its)) (ho : Own w' 9 v2 ((missM keep its).map Value.string)) (hB : Below w.heap.size w w') :
    CutPost w its keep (.returned (.tuple #[v1, v2, .int .i64 0])) w' := by
  obtain ⟨As, _, hs, _⟩ := hr.row
  obtain ⟨A1, c1, hv1, _⟩ := hs.shape
  subst hv1
  obtain ⟨A2, c2, hv2, hr2⟩ := ho.rdS
  subst hv2
  refine ⟨A1, c1, A2, c2, ?_, ?_, ?_, hB⟩
  · unfold cutI cutP cutE; rw [hT, hK]; rfl
  · unfold cutI; rw [hT, hK]; exact hr.rdI.1
  · unfold cutP; rw [hT, hK]; exact hr2
theorem cutPost_bad {w w' : World} {its : List Itm} {keep : List ByteArray} (hT : isTreeM its = false) (hB : Below w.heap.size w w') : CutPost w its keep (.returned (.tuple #[.slice none 0 0, .slice none 0 0, .int .i64 64])) w' := by
  refine ⟨none, 0, none, 0, ?_, ?_, ?_, hB⟩
  · unfold cutI cutP cutE; rw [hT]; rfl
  · unfold cutI; rw [hT]; exact fun h => absurd rfl h
  · unfold cutP; rw [hT]; exact fun h => absurd rfl h
theorem cutPost_bad2 {w w' : World} {its : List Itm} {keep : List ByteArray} (hT : isTreeM its = true) (hK : isKeepM keep = false) (hB : Below w.heap.size w w') : CutPost w its keep (.returned (.tuple #[.slice none 0 0, .slice none 0 0, .int .i64 65])) w' := by
  refine ⟨none, 0, none, 0, ?_, ?_, ?_, hB⟩
  · unfold cutI cutP cutE; rw [hT, hK]; rfl
  · unfold cutI; rw [hT, hK]; exact fun h => absurd rfl h
  · unfold cutP; rw [hT, hK]; exact fun h => absurd rfl h
theorem cut_any (w : World) (hi : Nat) (A B : Option Addr) (c c' : Nat) (its : List Itm) (keep : List ByteArray) (hI : RdI w hi A its) (hS : RdS w hi B keep) (hhi : hi ≤ w.heap.size) (hG : Glob w) (hdl : ∀ x ∈ its, x.data.length ≤ 1099511627776) (hlen : its.length ≤ 1099511627776) (hkl : keep.length ≤ 1099511627776) :
    Calls Tryz.prog 35 #[.slice A its.length c, .slice B keep.length c'] w (CutPost w its keep) := by
  cases hT : isTreeM its with
  | false => exact (cut_bad w hi A B c c' its keep hI hhi hG hdl hlen hT).mono fun e w' h => by obtain ⟨rfl, hB⟩ := h; exact cutPost_bad hT hB
  | true =>
    cases hK : isKeepM keep with
    | false => exact (cut_bad2 w hi A B c c' its keep hI hS hhi hG hT hK hkl).mono fun e w' h => by obtain ⟨rfl, hB⟩ := h; exact cutPost_bad2 hT hK hB
    | true => exact (cut_ok w hi A B c c' its keep hI hS hhi hG hT hK).mono fun e w' h => by obtain ⟨v1, v2, rfl, hr, ho, _, hB⟩ := h; exact cutPost_ok hT hK hr ho hB
theorem refCut_any (w : World) (hi : Nat) (A B : Option Addr) (c c' : Nat) (its : List Itm) (keep : List ByteArray) (hI : RdI w hi A its) (hS : RdS w hi B keep) (hhi : hi ≤ w.heap.size) (hG : Glob w) (hc : its.length ≤ c) (hps : ∀ x ∈ its, x.path.size ≤ 1048575 ∧ x.data.length ≤ 1099511627776) (hlen : its.length ≤ 1099511627776) (hkl : keep.length ≤ 1099511627776) (hks : ∀ p ∈ keep, p.size ≤ 1048575) :
    Calls Tryz.prog 36 #[.slice A its.length c, .slice B keep.length c'] w (CutPost w its keep) := by
  cases hT : isTreeM its with
  | false => exact (refCut_bad w hi A B c c' its keep hI hhi hps hlen hc hT).mono fun e w' h => by obtain ⟨rfl, hB⟩ := h; exact cutPost_bad hT hB
  | true =>
    cases hK : isKeepM keep with
    | false => exact (refCut_bad2 w hi A B c c' its keep hI hS hhi hc hT hK hkl hks).mono fun e w' h => by obtain ⟨rfl, hB⟩ := h; exact cutPost_bad2 hT hK hB
    | true => exact (refCut_ok w hi A B c c' its keep hI hS hhi hG hc hT hK).mono fun e w' h => by obtain ⟨v1, v2, rfl, hr, ho, hB⟩ := h; exact cutPost_ok hT hK hr ho hB
set_option maxRecDepth 8000 in
theorem cuts_many (w : World) (A B : Option Addr) (c c' : Nat) (its : List Itm) (keep : List ByteArray) (hI : RdI w w.heap.size A its) (hG : Glob w) (hlen : its.length ≤ 1099511627776) (hdl : ∀ x ∈ its, x.data.length ≤ 1099511627776) (hF : fewM its = false) :
    Calls Tryz.prog 6 #[.slice A its.length c, .slice B keep.length c'] w fun e w' => e = .returned (.bool true) ∧ Below w.heap.size w w' := by
  have HI := Aside0.mk hI
  have HG := Aside0.mk hG
  have DL := Aside0.mk hdl
  have FW := Aside0.mk hF
  clear hI hG hdl hF
  go_enter Tryz.func6, Tryz.ntmps6
  go_wp2_with (first
    | (go_at_call 16
       refine (known_calls w HG.out).mono ?_
       rintro e w1 ⟨rfl, hB⟩
       have B1 := Aside0.mk hB
       have I1 := Aside0.mk (HI.out.only (Only.of_below (S := fun _ => False) hB) (Nat.le_refl _) (fun _ h => h.elim))
       clear hB)
    | (go_at_call 17
       have hcall := few_calls w1 w.heap.size A c its I1.out DL.out hlen
       rw [FW.out] at hcall
       refine hcall.mono ?_
       rintro e wx ⟨rfl, hw⟩
       rw [hw]
       clear hw hcall)
    | fail)
  go_ret
  exact ⟨rfl, B1.out⟩
theorem few_bounds {its : List Itm} (h : fewM its = true) : its.length ≤ 3000 ∧ ∀ x ∈ its, x.data.length ≤ 4194304 := by
  unfold fewM at h
  rw [Bool.and_eq_true, decide_eq_true_eq, decide_eq_true_eq] at h
  refine ⟨h.1, fun x hx => ?_⟩
  have hs : ∀ (l : List Itm), x ∈ l → x.data.length ≤ dataSum l := by
    intro l hl
    induction l with
    | nil => simp at hl
    | cons y ys ih =>
      unfold dataSum
      rcases List.mem_cons.1 hl with rfl | hl
      · omega
      · have := ih hl; omega
  have := hs its hx
  omega
set_option maxRecDepth 8000 in
set_option maxHeartbeats 4000000 in
theorem cuts_few (w : World) (A B : Option Addr) (c c' : Nat) (its : List Itm) (keep : List ByteArray) (hI : RdI w w.heap.size A its) (hS : RdS w w.heap.size B keep) (hG : Glob w) (hc : its.length ≤ c) (hps : ∀ x ∈ its, x.path.size ≤ 1048575 ∧ x.data.length ≤ 1048576) (hlen : its.length ≤ 1048576) (hkl : keep.length ≤ 1048576) (hks : ∀ p ∈ keep, p.size ≤ 1048575) (hF : fewM its = true) :
    Calls Tryz.prog 6 #[.slice A its.length c, .slice B keep.length c'] w fun e w' => e = .returned (.bool true) ∧ Below w.heap.size w w' := by
  have fb := few_bounds hF
  have HI := Aside0.mk hI
  have HS := Aside0.mk hS
  have HG := Aside0.mk hG
  have PS := Aside0.mk hps
  have KS := Aside0.mk hks
  have FW := Aside0.mk hF
  have FB := Aside0.mk fb.2
  have fb1 := fb.1
  clear hI hS hG hps hks hF fb
  go_enter Tryz.func6, Tryz.ntmps6
  go_wp2_with (first
    | (go_at_call 16
       refine (known_calls w HG.out).mono ?_
       rintro e w1 ⟨rfl, hB⟩
       have B1 := Aside0.mk hB
       have I1 := Aside0.mk (HI.out.only (Only.of_below (S := fun _ => False) hB) (Nat.le_refl _) (fun _ h => h.elim))
       have G1 := Aside0.mk (HG.out.below hB)
       clear hB)
    | (go_at_call 17
       have hcall := few_calls w1 w.heap.size A c its I1.out (fun x hx => by have := PS.out x hx; omega) (by omega)
       rw [FW.out] at hcall
       refine hcall.mono ?_
       rintro e wx ⟨rfl, hw⟩
       rw [hw]
       clear hw hcall)
    | (go_at_call 18
       refine (lend_calls w1 w.heap.size A c its I1.out B1.out.size fb1 FB.out).mono ?_
       rintro e w2 ⟨bl, ds, cs, rfl, hL⟩
       have L2 := Aside0.mk hL
       have B2 := Aside0.mk (B1.out.trans (hL.below.mono B1.out.size))
       have G2 := Aside0.mk (G1.out.below hL.below)
       clear hL)
    | (go_at_call 34
       refine (lendTexts_calls w2 w.heap.size B c' keep (HS.out.below B2.out (Nat.le_refl _)) B2.out.size hkl).mono ?_
       rintro e w3 ⟨bp, rfl, hA, hf, hB⟩
       have L3 := Aside0.mk (L2.out.step hB)
       have A3 := Aside0.mk hA
       have P3 := Aside0.mk (show w2.heap.size ≤ bp ∧ bp ≠ bl ∧ bp ∉ ds from ⟨hf, by have := L2.out.tab.lt; omega, fun hm => by have := (L2.out.fresh bp hm).2.2; omega⟩)
       have B3 := Aside0.mk (B2.out.trans (hB.mono B2.out.size))
       have G3 := Aside0.mk (G2.out.below hB)
       clear hA hf hB)
    | (go_at_call 35
       refine (cut_any w3 w3.heap.size (some ⟨bl, 0, none⟩) (some ⟨bp, 0, none⟩) (its.length + 3) (keep.length + 2) its keep L3.out.items (lentT_rd A3.out) (Nat.le_refl _) G3.out (fun x hx => by have := PS.out x hx; omega) (by omega) (by omega)).mono ?_
       rintro e w4 ⟨Aa, ca, Am, cm, rfl, hr, hs, hB⟩
       have L4 := Aside0.mk (L3.out.step hB)
       have A4 := Aside0.mk (A3.out.below hB A3.out.lt)
       have B4 := Aside0.mk (B3.out.trans (hB.mono B3.out.size))
       have G4 := Aside0.mk (G3.out.below hB)
       have RI4 := Aside0.mk hr
       have RS4 := Aside0.mk hs
       clear hr hs hB)
    | (go_at_call 36
       refine (refCut_any w4 w.heap.size A B c c' its keep (HI.out.only (Only.of_below (S := fun _ => False) B4.out) (Nat.le_refl _) (fun _ h => h.elim)) (HS.out.below B4.out (Nat.le_refl _)) B4.out.size G4.out hc (fun x hx => by have := PS.out x hx; omega) (by omega) (by omega) KS.out).mono ?_
       rintro e w5 ⟨Ab, cb, An, cn, rfl, hr, hs, hB⟩
       have L5 := Aside0.mk (L4.out.step hB)
       have A5 := Aside0.mk (A4.out.below hB A4.out.lt)
       have B5 := Aside0.mk (B4.out.trans (hB.mono B4.out.size))
       have RI5 := Aside0.mk (RI4.out.only (Only.of_below (S := fun _ => False) hB) (Nat.le_refl _) (fun _ h => h.elim))
       have RS5 := Aside0.mk (RS4.out.below hB (Nat.le_refl _))
       have L45 := Aside0.mk hB.size
       have RJ5 := Aside0.mk hr
       have RT5 := Aside0.mk hs
       clear hr hs hB)
    | (go_at_call 26
       have hcall := same_items_calls w5 w5.heap.size Aa Ab ca cb (cutI its keep) (cutI its keep) (RI5.out.up L45.out) RJ5.out (Nat.le_refl _) ⟨by have := cutI_len its keep; omega, by have := cutI_len its keep; omega⟩
       rw [sameL_refl] at hcall
       refine hcall.mono ?_
       rintro e w6 ⟨rfl, hB⟩
       have L6 := Aside0.mk (L5.out.step hB)
       have A6 := Aside0.mk (A5.out.below hB A5.out.lt)
       have B6 := Aside0.mk (B5.out.trans (hB.mono B5.out.size))
       have RS6 := Aside0.mk ((RS5.out.lt L45.out).below hB (Nat.le_refl _))
       have RT6 := Aside0.mk (RT5.out.below hB (Nat.le_refl _))
       have L56 := Aside0.mk hB.size
       clear hcall hB)
    | (go_at_call 37
       have hcall := sameT_calls w6 w5.heap.size Am An cm cn (cutP its keep) (cutP its keep) RS6.out RT6.out L56.out ⟨by have := cutP_len its keep; omega, by have := cutP_len its keep; omega⟩
       rw [sameT_refl] at hcall
       refine hcall.mono ?_
       rintro e w7 ⟨rfl, hB⟩
       have L7 := Aside0.mk (L6.out.step hB)
       have A7 := Aside0.mk (A6.out.below hB A6.out.lt)
       have B7 := Aside0.mk (B6.out.trans (hB.mono B6.out.size))
       clear hcall hB)
    | (go_at_call 21
       refine (kept_calls w1 w7 w.heap.size A c bl its ds cs (HI.out.only (Only.of_below (S := fun _ => False) B7.out) (Nat.le_refl _) (fun _ h => h.elim)) B7.out.size fb1 FB.out L7.out).mono ?_
       rintro e w8 ⟨rfl, hO⟩
       have hp := P3.out
       have A8 := Aside0.mk (hO.at_ A7.out.lt (fun hs => hs.elim hp.2.1 hp.2.2) A7.out)
       have B8 := Aside0.mk (B7.out.trans (hO.to_below B7.out.size (fun b hb => by
         have h1 := B1.out.size
         rcases hb with rfl | hb
         · have := L7.out.own; omega
         · have := (L7.out.fresh b hb).1; omega)))
       clear hO hp)
    | (go_at_call 38
       refine (keptTexts_calls w8 w.heap.size B c' bp keep (HS.out.below B8.out (Nat.le_refl _)) B8.out.size hkl A8.out).mono ?_
       rintro e w9 ⟨rfl, hB⟩
       have B9 := Aside0.mk (B8.out.trans (hB.mono B8.out.size))
       clear hB)
    | fail)
  go_ret
  refine ⟨?_, B9.out⟩
  simp
end Go.Proofs.YtbpfmlckddhgbaaGreatDoor
