/- Maps keyed by digests and by texts. -/
import Derived.Test.YtbpfmlckddhgbaaGreatDoorQc
import Derived.Maps.OwnSet
import Derived.Maps.OwnOps
import Derived.DeepKeys4
import Derived.Test.YtbpfmlckddhgbaaGreatDoorQz
namespace Go.Proofs.YtbpfmlckddhgbaaGreatDoor
open Go Go.RowKit Go.Maps Go.Proofs.YtbpfmlckddhgbaaGreatDoorW.PrintWords
theorem digKeyed : Keyed Tryz.prog 27 := Keyed.of_law (deep_law_laid (by kernel_rfl) (m := 2) (by omega) (Nat.lt_of_lt_of_le (by decide) (Nat.le_of_ble_eq_true (show Nat.ble 300 Tryz.prog.types.size = true by kernel_rfl))) (by kernel_rfl) (by kernel_rfl))
theorem strKeyed : Keyed Tryz.prog 9 := string_keyed (by kernel_rfl)
theorem tu147 : Tryz.prog.underlying 147 = some (.map 27 232) := by kernel_rfl
theorem tu121 : Tryz.prog.underlying 121 = some (.map 9 3) := by kernel_rfl
theorem typesSize : ∃ n, Tryz.prog.types.size = n + 1 := ⟨Tryz.prog.types.size - 1, by kernel_rfl⟩
theorem cells27 : Tryz.prog.cellsOf 27 = 32 := by kernel_rfl
theorem cells5 : Tryz.prog.cellsOf 5 = 1 := by kernel_rfl
theorem keyType27 : Tryz.prog.keyType 27 = true := by kernel_rfl
theorem mapM_of {α β : Type} (f : α → Option β) (g : α → β) : ∀ (l : List α), (∀ x ∈ l, f x = some (g x)) → l.mapM f = some (l.map g)
  | [], _ => rfl
  | x :: l, h => by
    rw [List.mapM_cons, h x List.mem_cons_self, mapM_of f g l (fun y hy => h y (List.mem_cons_of_mem _ hy))]
    rfl
theorem byte_wf : ∀ m : Nat, m < 256 → (Lit.int .u8 (m : Int)).wf = true := by decide +kernel
theorem byte_key : ∀ m : Nat, m < 256 → Lit.keyBytes (.int .u8 (m : Int)) = [UInt8.ofNat m] := by decide +kernel
theorem keyLits_byte (b : UInt8) (n : Nat) : Tryz.prog.keyLits (n + 1) 5 [bv b] = some [.int .u8 (b.toNat : Int)] := by
  have hw : (Lit.int .u8 (b.toNat : Int)).wf = true := byte_wf _ b.toNat_lt
  unfold Program.keyLits
  rw [tu5]
  simp [bv, hw]
theorem keyLits_bytes (d : List UInt8) (hd : d.length = 32) (n : Nat) : Tryz.prog.keyLits (n + 2) 27 (d.map bv) = some (d.map fun b => Lit.int .u8 (b.toNat : Int)) := by
  have e : ∀ i ∈ List.range 32, Tryz.prog.keyLits (n + 1) 5 (((d.map bv).drop (i * Tryz.prog.cellsOf 5)).take (Tryz.prog.cellsOf 5)) = some [Lit.int .u8 ((d.getD i 0).toNat : Int)] := by
    intro i hi
    have hl : i < d.length := by rw [hd]; exact List.mem_range.1 hi
    rw [cells5, Nat.mul_one, List.drop_eq_getElem_cons (by simpa using hl), List.getElem_map]
    have e2 : (d.getD i 0) = d[i] := by rw [List.getD_eq_getElem?_getD, List.getElem?_eq_getElem hl]; rfl
    rw [e2]
    exact keyLits_byte _ _
  unfold Program.keyLits
  rw [tu27]
  simp only [cells27, List.length_map, hd, if_true]
  rw [mapM_of _ _ _ e]
  simp only [Option.map_some, Option.some.injEq]
  apply List.ext_getElem?
  intro j
  rw [← List.flatMap_def]
  have e3 : ((List.range 32).flatMap fun i => [Lit.int .u8 ((d.getD i 0).toNat : Int)]) = (List.range 32).map fun i => Lit.int .u8 ((d.getD i 0).toNat : Int) := by
    rw [← List.map_eq_flatMap]
  rw [e3, List.getElem?_map, List.getElem?_map]
  by_cases hj : j < 32
  · rw [List.getElem?_range hj, List.getElem?_eq_getElem (by omega)]
    simp [List.getD_eq_getElem?_getD, List.getElem?_eq_getElem (show j < d.length by omega)]
  · rw [List.getElem?_eq_none (by simp; omega), List.getElem?_eq_none (by omega)]; rfl
theorem keyBytes_bytes (d : List UInt8) : keyBytes (d.map fun b => Lit.int .u8 (b.toNat : Int)) = d := by
  unfold keyBytes
  rw [List.flatMap_map]
  induction d with
  | nil => rfl
  | cons b d ih =>
    rw [List.flatMap_cons, ih]
    have : Lit.keyBytes (.int .u8 (b.toNat : Int)) = [b] := by rw [byte_key _ b.toNat_lt, UInt8.ofNat_toNat]
    rw [this]; rfl
theorem keyOf_dig (d : List UInt8) (hd : d.length = 32) : keyOf Tryz.prog 27 (digV d) = some (.string d) := by
  obtain ⟨n, hn⟩ := typesSize
  unfold keyOf
  rw [tu27]
  have hf : (digV d).formed Tryz.prog 27 = true := by
    unfold digV Value.formed
    rw [tu27]
    simp [cells27, hd]
  simp only [keyType27, hf, Bool.and_self, if_true]
  rw [hn]
  show ((Tryz.prog.keyLits (n + 2) 27 ((d.map bv).toArray.toList)).map fun ls => Lit.string (keyBytes ls)) = _
  rw [List.toList_toArray, keyLits_bytes d hd n]
  simp [keyBytes_bytes]
end Go.Proofs.YtbpfmlckddhgbaaGreatDoor
/- A map, key by key. -/
namespace Go.Proofs.YtbpfmlckddhgbaaGreatDoor
open Go Go.RowKit Go.Maps Go.Proofs.YtbpfmlckddhgbaaGreatDoorW.PrintWords
def heldR (v : Value) : Option (DataW Value × List MemPlace) := some (.held v, [])
abbrev MapF := List UInt8 → Option Value
def MapF.put (M : MapF) (d : List UInt8) (v : Value) : MapF := fun d' => if d' = d then some v else M d'
def OMap (w : World) (K : TypeId) (b : Nat) (M : MapF) (sz : Nat) : Prop :=
  ∃ D : DataW Value, w.ownsMap Tryz.prog K heldR b sz D ∧ (∀ d z, D.atKey (.string d) (.held z) = .held ((M d).getD z)) ∧ (∀ d, Maps.has D (.string d) = (M d).isSome) ∧ Maps.size D = sz
namespace OMap
variable {w w1 : World} {K E T b sz : Nat} {M : MapF}
theorem lt (h : OMap w K b M sz) : b < w.heap.size := by obtain ⟨D, h1, _⟩ := h; exact h1.lt
theorem new (w : World) (K : TypeId) : OMap (w.alloc (.map #[] 0)) K w.heap.size (fun _ => none) 0 :=
  ⟨.map [], World.ownsMap_made _ _ _ _, fun _ _ => rfl, fun _ => rfl, rfl⟩
theorem block (h : OMap w K b M sz) (hb : w1.heap[b]? = w.heap[b]?) : OMap w1 K b M sz := by
  obtain ⟨D, ⟨es, clock, hbb, h1⟩, h2⟩ := h
  exact ⟨D, ⟨es, clock, hb.trans hbb, h1⟩, h2⟩
theorem only {S : Nat → Prop} {B : Nat} (h : OMap w K b M sz) (ho : Only S B w w1) (hb : b < B) (hs : ¬ S b) : OMap w1 K b M sz := h.block (ho.block b hb hs)
theorem below {B : Nat} (h : OMap w K b M sz) (ho : Below B w w1) (hb : b < B) : OMap w1 K b M sz := h.block (ho.block b hb)
theorem look (h : OMap w K b M sz) (hK : Keyed Tryz.prog K) (ht : Tryz.prog.underlying T = some (.map K E)) {z : Value} (hz : (zeroValue E).run Tryz.prog w = .ok z w) {key : Value} {d : List UInt8} (hk : keyOf Tryz.prog K key = some (.string d)) :
    (Instr.lookup T (.map (some b)) key true).run Tryz.prog w = .ok (.tuple #[(M d).getD z, .bool (M d).isSome]) w := by
  obtain ⟨D, h1, h2, h3, _⟩ := h
  obtain ⟨v, ps, hrun, hv⟩ := h1.look_ok hK ht hz (zd := .held z) (zp := []) rfl hk
  rw [h2, heldR] at hv
  simp only [Option.some.injEq, Prod.mk.injEq, DataW.held.injEq] at hv
  rw [hrun, h3, hv.1]
theorem look1 (h : OMap w K b M sz) (hK : Keyed Tryz.prog K) (ht : Tryz.prog.underlying T = some (.map K E)) {z : Value} (hz : (zeroValue E).run Tryz.prog w = .ok z w) {key : Value} {d : List UInt8} (hk : keyOf Tryz.prog K key = some (.string d)) :
    (Instr.lookup T (.map (some b)) key false).run Tryz.prog w = .ok ((M d).getD z) w := by
  obtain ⟨D, h1, h2, h3, _⟩ := h
  obtain ⟨v, ps, hrun, hv⟩ := h1.lookup hK ht hz (zd := .held z) (zp := []) rfl hk
  rw [h2, heldR] at hv
  simp only [Option.some.injEq, Prod.mk.injEq, DataW.held.injEq] at hv
  rw [hrun, hv.1]
theorem len (h : OMap w K b M sz) (ht : Tryz.prog.underlying T = some (.map K E)) (ty : TypeId) : (Builtin.len_ #[T] ty #[.map (some b)]).run Tryz.prog w = .ok (.int .i64 (sz : Int)) w := by
  obtain ⟨D, h1, _, _, h4⟩ := h
  rw [h1.len ht ty, h4]
theorem put_spec {D : DataW Value} (hD : Tidy D) (h2 : ∀ d z, D.atKey (.string d) (.held z) = .held ((M d).getD z)) (h3 : ∀ d, Maps.has D (.string d) = (M d).isSome) (h4 : Maps.size D = sz) (d : List UInt8) (v : Value) :
    (∀ d' z, (D.put (.string d) (.held v)).atKey (.string d') (.held z) = .held ((M.put d v d').getD z)) ∧ (∀ d', Maps.has (D.put (.string d) (.held v)) (.string d') = (M.put d v d').isSome) ∧
      Maps.size (D.put (.string d) (.held v)) = if (M d).isSome then sz else sz + 1 := by
  have hk : WideAt.IsKeyLit (.string d) := by trivial
  refine ⟨fun d' z => ?_, fun d' => ?_, ?_⟩
  · unfold MapF.put
    by_cases h : d' = d
    · subst h; rw [if_pos rfl, atKey_put_same hD.isMap hk]; rfl
    · rw [if_neg h, atKey_put_other (by intro e; injection e with e; exact h e), h2]
  · unfold MapF.put
    by_cases h : d' = d
    · subst h; rw [if_pos rfl, has_put_same hD.isMap hk]; rfl
    · rw [if_neg h, has_put_other (by intro e; injection e with e; exact h e), h3]
  · rw [size_put hD, h3, h4]
end OMap
section
variable {ops : Array Oper} {rest : List Oper} {o : Oper} {a : Act} {w : World} {Q : Exit → Act → World → Prop}
theorem arm_put (hg : o.guard = none) (m x v : Operand) (T : TypeId) (ho : o.op = Op.mapUpdate T m x v) (K E : TypeId) (hK : Keyed Tryz.prog K) (ht : Tryz.prog.underlying T = some (.map K E)) (b : Nat) (M : MapF) (sz : Nat)
    (hm : a.eval m = .map (some b)) (hown : OMap w K b M sz) (hn : sz < maxLen) (key val : Value) (d : List UInt8) (hx : a.eval x = key) (hv : a.eval v = val) (hkey : keyOf Tryz.prog K key = some (.string d))
    (h : ∀ W, OMap W K b (M.put d val) (if (M d).isSome then sz else sz + 1) → Only (· = b) w.heap.size w W → wpList Tryz.prog ops Q rest (a.put o.dst undef) W) : wpList Tryz.prog ops Q (o :: rest) a w := by
  obtain ⟨D, h1, h2, h3, h4⟩ := hown
  refine wpList_mapUpdate_own w hg m x v T ho K E hK ht heldR b sz D hm h1 hn key val (.string d) hx hv hkey (.held val) [] rfl ?_
  intro w' hown' hgr
  have hs := OMap.put_spec (h1.tidy hK) h2 h3 h4 d val
  refine h w' ⟨_, ?_, hs.1, hs.2.1, hs.2.2⟩ ⟨hgr.os, hgr.tape, hgr.output, hgr.size, fun k hk hS => hgr.block k hk (fun e => hS (by injection e))⟩
  obtain ⟨es, clock, hb, F, hle, hD⟩ := hown'
  refine ⟨es, clock, hb, F, ?_, hD⟩
  have : Maps.size (D.put (.string d) (.held val)) = es.size := by
    rw [hD]; simp [Maps.size, length_sorted]
  rw [← hs.2.2, this]; exact Nat.le_refl _
end
end Go.Proofs.YtbpfmlckddhgbaaGreatDoor
/- A region that draws its order: what only reads is taken first, in one go; then what is left, step by step. -/
namespace Go.Proofs.YtbpfmlckddhgbaaGreatDoor
open Go Go.RowKit Go.Maps Go.Proofs.YtbpfmlckddhgbaaGreatDoorW.PrintWords Go.Proofs.YtbpfmlckddhgbaaGreatDoorW.PrintLast
section
variable {P : Program} {ops : Array Oper} {Q : Exit → Act → World → Prop} {md : Region.Mode} {S : World → Prop} {ds : List Nat}
def takesB (md : Region.Mode) (ops : Array Oper) (ds : List Nat) : List (Nat × Bool) → Array Bool → Bool
  | [], _ => true
  | (i, p) :: is, l => (if p then anyB md ops l (l.setIfInBounds i true) i else takeB md ops ds l (l.setIfInBounds i true) i) && takesB md ops ds is (l.setIfInBounds i true)
def setAll : List (Nat × Bool) → Array Bool → Array Bool
  | [], l => l
  | (i, _) :: is, l => setAll is (l.setIfInBounds i true)
def takesP (P : Program) (ops : Array Oper) (S : World → Prop) (R : Act → Prop) : List (Nat × Bool) → Act → Prop
  | [], a => R a
  | (i, p) :: is, a => ∃ oi v, ops[i]? = some oi ∧ Region.wanted oi (yielded ops a.tmps) = true ∧ (∀ w, (p = true ∨ S w) → (execOp a.eval oi).run P w = .ok (.value v) w) ∧ takesP P ops S R is (a.put oi.dst v)
theorem takes_first {R : Act → Prop} {w : World} {n : Nat} (hQ : ∀ c (a : Act) d v w, Q (.panic c) (a.put d v) w → Q (.panic c) a w) (hS : S w) : ∀ (is : List (Nat × Bool)) (l : Array Bool) (a : Act), takesB md ops ds is l = true → takesP P ops S R is a →
    (∀ a', R a' → wpAnyLast P md ops Q S ds n (setAll is l) a' w) → wpAnyLast P md ops Q S ds (n + is.length) l a w
  | [], _, a, _, h, hn => hn a h
  | (i, p) :: is, l, a, hB, ⟨oi, v, hi, hw, hrun, h⟩, hn => by
    simp only [takesB, Bool.and_eq_true] at hB
    have ih := takes_first hQ hS is (l.setIfInBounds i true) (a.put oi.dst v) hB.2 h hn
    rw [List.length_cons, ← Nat.add_assoc]
    cases p with
    | true => exact pure_ (l.setIfInBounds i true) hi rfl (by simpa using hB.1) (fun c a w => hQ c a _ _ w) (.inl ⟨hw, fun w => hrun w (.inl rfl)⟩) rfl ih
    | false => exact take_ (l.setIfInBounds i true) hi rfl (by simpa using hB.1) (fun c a w => hQ c a _ _ w) (.inl ⟨hw, fun w hSw => hrun w (.inr hSw)⟩) hS rfl ih
theorem takes_region {id : Nat} {a : Act} {w : World} (is : List (Nat × Bool)) (m : Nat) (hm : P.follows .mixedOrders = true) (hn : ops.size = m + is.length) (hB : takesB .any ops ds is (Array.replicate ops.size false) = true)
    (hQ : ∀ c (a : Act) d v w, Q (.panic c) (a.put d v) w → Q (.panic c) a w) (hS : S w.drew) (l : Array Bool) (hl : setAll is (Array.replicate ops.size false) = l)
    (h : takesP P ops S (fun a' => wpAnyLast P .any ops Q S ds m l a' w.drew) is a) : (Code.region id ops true).wp P Q a w := by
  refine wp_region_last (ds := ds) (S := S) hm ?_
  have := takes_first (n := m) hQ hS is _ a hB h (fun a' h => by rw [hl]; exact h)
  rw [hn]
  rw [hn] at this
  exact this
theorem frame_ {n : Nat} {l : Array Bool} {a a' : Act} {w : World} (ha : a = a') (h : wpAnyLast P md ops Q S ds n l a' w) : wpAnyLast P md ops Q S ds n l a w := ha ▸ h
theorem takes_done {R : Act → Prop} {a : Act} (h : R a) : takesP P ops S R [] a := h
theorem tk {R : Act → Prop} {i : Nat} {N : Option Tmp} {p : Bool} {is : List (Nat × Bool)} {a a' : Act} {oi : Oper} {v : Value} (hi : ops[i]? = some oi) (hN : oi.dst = N) (hw : Region.wanted oi (yielded ops a.tmps) = true) (hrun : ∀ w, (p = true ∨ S w) → (execOp a.eval oi).run P w = .ok (.value v) w)
    (ha : a.put N v = a') (h : takesP P ops S R is a') : takesP P ops S R ((i, p) :: is) a := by subst ha; subst hN; exact ⟨oi, v, hi, hw, hrun, h⟩
end
section
variable {P : Program} {o : Oper} {a : Act} {w : World} {K : Act → World → Prop} {Q : Exit → Act → World → Prop}
theorem wpo_alloc (N : Option Tmp) (hN : o.dst = N) (t : TypeId) (ho : o.op = .alloc t) (z : Value) (n : Nat) (hz : (P.info? t).map (fun i => (i.zero, i.size)) = some (some z, n))
    (h : ∀ W b, b = w.heap.size → W = w.alloc (.cells z.cells t) → K (a.put N (.pointer (some ⟨b, 0, none⟩))) W) : o.wp P a w K Q := by
  subst hN
  have hz' := (zero_of_info hz).1
  have hr : (execOp a.eval o).run P w = .ok (.value (.pointer (some ⟨w.heap.size, 0, none⟩))) (w.alloc (.cells z.cells t)) := by
    unfold execOp
    simp [ho, Instr.alloc, Sem.run_bind, hz', newVar, newRow]
  unfold Oper.wp
  rw [hr, Oper.upon_value]
  exact h _ _ rfl rfl
theorem wpo_store_row (N : Option Tmp) (hN : o.dst = N) (ty : TypeId) (x y : Operand) (ho : o.op = .store ty x y) (b : Nat) (t : TypeId) (old cells : List Value) (hx : a.eval x = .pointer (some ⟨b, 0, none⟩)) (hy : a.eval y = .agg cells.toArray)
    (hA : At w b t old) (hl : old.length = cells.length) (hi : (P.info? ty).map (·.size) = some cells.length) (h1 : ∀ v ∈ cells, v.oneCell' = true)
    (h : ∀ W, W = w.setRow b cells.toArray → K (a.put N undef) W) : o.wp P a w K Q :=
  wp_store_row ty x y ho b cells.toArray hx hy t old.toArray hA (by simpa using hi) (by simpa using hl) (all_oneCell_toArray h1) (hN ▸ h _ rfl)
theorem run_load_op {ty : TypeId} {x : Operand} {v p : Value} (h : (Instr.loadAt ty p).run P w = .ok v w) (ho : o.op = .load ty x) (hx : a.eval x = p) : (execOp a.eval o).run P w = .ok (.value v) w := by
  unfold execOp
  simp only [ho, hx, Sem.run_bind, h, Result.andThen_ok, Sem.run_pure]
theorem wpo_run (N : Option Tmp) (hN : o.dst = N) {v : Value} {w' : World} (hr : (execOp a.eval o).run P w = .ok (.value v) w') (h : K (a.put N v) w') : o.wp P a w K Q := by
  subst hN
  unfold Oper.wp
  rw [hr, Oper.upon_value]
  exact h
theorem wpo_assign (N : Option Tmp) (hN : o.dst = N) (x : Operand) (ho : o.op = .assign x) (v : Value) (hv : a.eval x = v) (h : K (a.put N v) w) : o.wp P a w K Q := by
  subst hN hv
  unfold Oper.wp
  rw [BigFrame.run_assign x ho, Oper.upon_value]
  exact h
end
end Go.Proofs.YtbpfmlckddhgbaaGreatDoor
/- cas: the Store. -/
namespace Go.Proofs.YtbpfmlckddhgbaaGreatDoor
set_option linter.unusedSimpArgs false
open Go Go.RowKit Go.Maps Go.Proofs.YtbpfmlckddhgbaaGreatDoorW.PrintWords Go.Proofs.YtbpfmlckddhgbaaGreatDoorW.PrintLast
theorem info232 : (Tryz.prog.info? 232).map (fun i => (i.zero, i.size)) = some (some (.agg #[.slice none 0 0, .int .i64 0]), 2) := by kernel_rfl
theorem zero232 (w : World) : (zeroValue 232).run Tryz.prog w = .ok (.agg #[.slice none 0 0, .int .i64 0]) w := by kernel_rfl
set_option maxRecDepth 4000 in
theorem has_calls (w : World) (s bm : Nat) (M : MapF) (sz : Nat) (d : List UInt8) (hd : d.length = 32) (h4 : w.cell? ⟨s, 4, none⟩ = some (.map (some bm))) (hM : OMap w 27 bm M sz) (hv : ∀ d v, M d = some v → ∃ A n c k, v = .agg #[.slice A n c, .int .i64 k]) :
    Calls Tryz.prog 149 #[.pointer (some ⟨s, 0, none⟩), digV d] w fun e w' => e = .returned (.bool (M d).isSome) ∧ Below w.heap.size w w' := by
  have HM := Aside0.mk hM
  have HV := Aside0.mk hv
  have H4 := Aside0.mk h4
  have hsl : s < w.heap.size := World.block_lt_of_cell? w _ h4
  have HD := Aside0.mk hd
  obtain ⟨dv, hdv⟩ : ∃ dv, dv = digV d := ⟨_, rfl⟩
  rw [← hdv]
  have DV := Aside0.mk hdv
  clear hM hv h4 hd hdv
  go_enter Tryz.func149, Tryz.ntmps149
  go_wp2_with (first
    | (refine arm_box rfl 27 _ rfl (d.map bv) DV.out ?_; intro W b3 hb hW
       have hA : At W b3 27 (d.map bv) := by subst hW hb; exact At.new _ _ _
       have hB : Below w.heap.size w W := by subst hW; exact (Below.refl _ _).alloc (Nat.le_refl _) _
       have L3 := Aside0.mk (show w.heap.size ≤ b3 by rw [hb]; exact Nat.le_refl _)
       have A := Aside0.mk hA
       have B := Aside0.mk hB
       clear hA hB hb hW)
    | fail)
  obtain ⟨A0, n0, c0, k0, hev⟩ : ∃ A n c k, (M d).getD (.agg #[.slice none 0 0, .int .i64 0]) = .agg #[.slice A n c, .int .i64 k] := by
    cases h : M d with
    | none => exact ⟨_, _, _, _, rfl⟩
    | some v => obtain ⟨A, n, c, k, rfl⟩ := HV.out d v h; exact ⟨A, n, c, k, rfl⟩
  have hall : ∀ w', Below W.heap.size W w' → w'.cell? ⟨s, 4, none⟩ = some (.map (some bm)) ∧ (Instr.loadAt 27 (.pointer (some ⟨b3, 0, none⟩))).run Tryz.prog w' = .ok dv w' ∧
      (Instr.lookup 147 (.map (some bm)) dv true).run Tryz.prog w' = .ok (.tuple #[.agg #[.slice A0 n0 c0, .int .i64 k0], .bool (M d).isSome]) w' := by
    intro w' hB
    rw [← hev]
    refine ⟨?_, ?_, ?_⟩
    · rw [hB.cell (Nat.lt_of_lt_of_le hsl B.out.size), B.out.cell hsl]; exact H4.out
    · rw [DV.out]
      exact run_loadAt_mid w' b3 0 27 (d.map bv) (.array 32 5) (A.out.below hB A.out.lt).rangeAll tu27 rfl (by rw [List.length_map, HD.out]; exact size27)
    · exact ((HM.out.below B.out HM.out.lt).below hB (Nat.lt_of_lt_of_le HM.out.lt B.out.size)).look digKeyed tu147 (zero232 _) (by rw [DV.out]; exact keyOf_dig d HD.out)
  have HALL := Aside0.mk hall
  clear hall
  refine takes_region (S := fun w' => Below W.heap.size W w') (ds := [10, 11]) [(0, true), (1, true), (2, true), (3, false), (4, false), (5, false), (6, true), (7, true), (8, true)] 3 (by kernel_rfl) rfl (by kernel_rfl) (fun _ _ dd _ _ h => by cases dd <;> exact h) (Below.refl _ _).drew
    #[true, true, true, true, true, true, true, true, true, false, false, false] (by kernel_rfl) ?_
  refine tk (N := some 8) (v := ?vv1) (a' := ?aa1) rfl rfl rfl ?hr1 ?ha1 ?nx1
  case hr1 => (intro w' hS; first | (go_simp; with_reducible rfl) | (obtain hS | hS := hS; (· cases hS); have hF := HALL.out w' hS; go_simp; with_reducible rfl))
  case ha1 => (simp only [Act.put, List.setIfInBounds_toArray, List.set_cons_zero, List.set_cons_succ]; rfl)
  refine tk (N := some 9) (v := ?vv2) (a' := ?aa2) rfl rfl rfl ?hr2 ?ha2 ?nx2
  case hr2 => (intro w' hS; first | (go_simp; with_reducible rfl) | (obtain hS | hS := hS; (· cases hS); have hF := HALL.out w' hS; go_simp; with_reducible rfl))
  case ha2 => (simp only [Act.put, List.setIfInBounds_toArray, List.set_cons_zero, List.set_cons_succ]; rfl)
  refine tk (N := some 10) (v := ?vv3) (a' := ?aa3) rfl rfl rfl ?hr3 ?ha3 ?nx3
  case hr3 => (intro w' hS; first | (go_simp; with_reducible rfl) | (obtain hS | hS := hS; (· cases hS); have hF := HALL.out w' hS; go_simp; with_reducible rfl))
  case ha3 => (simp only [Act.put, List.setIfInBounds_toArray, List.set_cons_zero, List.set_cons_succ]; rfl)
  refine tk (N := some 11) (v := ?vv4) (a' := ?aa4) rfl rfl rfl ?hr4 ?ha4 ?nx4
  case hr4 => (intro w' hS; first | (go_simp; with_reducible rfl) | (obtain hS | hS := hS; (· cases hS); have hF := HALL.out w' hS; go_simp; with_reducible rfl))
  case ha4 => (simp only [Act.put, List.setIfInBounds_toArray, List.set_cons_zero, List.set_cons_succ]; rfl)
  refine tk (N := some 12) (v := ?vv5) (a' := ?aa5) rfl rfl rfl ?hr5 ?ha5 ?nx5
  case hr5 => (intro w' hS; have hF := (HALL.out w' (hS.resolve_left (by decide))).2.1; refine (run_load_op hF rfl rfl).trans ?_; with_reducible rfl)
  case ha5 => (simp only [Act.put, List.setIfInBounds_toArray, List.set_cons_zero, List.set_cons_succ]; rfl)
  refine tk (N := some 13) (v := ?vv6) (a' := ?aa6) rfl rfl rfl ?hr6 ?ha6 ?nx6
  case hr6 => (intro w' hS; first | (go_simp; with_reducible rfl) | (obtain hS | hS := hS; (· cases hS); have hF := HALL.out w' hS; go_simp; with_reducible rfl))
  case ha6 => (simp only [Act.put, List.setIfInBounds_toArray, List.set_cons_zero, List.set_cons_succ]; rfl)
  refine tk (N := some 7) (v := ?vv7) (a' := ?aa7) rfl rfl rfl ?hr7 ?ha7 ?nx7
  case hr7 => (intro w' hS; first | (go_simp; with_reducible rfl) | (obtain hS | hS := hS; (· cases hS); have hF := HALL.out w' hS; go_simp; with_reducible rfl))
  case ha7 => (simp only [Act.put, List.setIfInBounds_toArray, List.set_cons_zero, List.set_cons_succ]; rfl)
  refine tk (N := some 14) (v := ?vv8) (a' := ?aa8) rfl rfl rfl ?hr8 ?ha8 ?nx8
  case hr8 => (intro w' hS; first | (go_simp; with_reducible rfl) | (obtain hS | hS := hS; (· cases hS); have hF := HALL.out w' hS; go_simp; with_reducible rfl))
  case ha8 => (simp only [Act.put, List.setIfInBounds_toArray, List.set_cons_zero, List.set_cons_succ]; rfl)
  refine tk (N := some 15) (v := ?vv9) (a' := ?aa9) rfl rfl rfl ?hr9 ?ha9 ?nx9
  case hr9 => (intro w' hS; first | (go_simp; with_reducible rfl) | (obtain hS | hS := hS; (· cases hS); have hF := HALL.out w' hS; go_simp; with_reducible rfl))
  case ha9 => (simp only [Act.put, List.setIfInBounds_toArray, List.set_cons_zero, List.set_cons_succ]; rfl)
  refine takes_done ?_
  refine one_ (i := 9) (N := some 5) #[true, true, true, true, true, true, true, true, true, true, false, false] rfl rfl (by kernel_rfl) (by decide) (fun K hK => ?_)
  rw [if_pos (by rfl)]
  refine wpo_alloc (some 5) rfl 232 rfl _ _ info232 ?_
  intro W5 b5 hb hW
  have hN : At W5 b5 232 [.slice none 0 0, .int .i64 0] := by subst hW hb; exact At.new _ _ _
  have hB5 : Below W.heap.size W W5 := by subst hW; exact (Below.refl _ _).drew.alloc (Nat.le_refl _) _
  have hB : Below w.heap.size w W5 := B.out.trans (hB5.mono B.out.size)
  have L5 := Aside0.mk (show w.heap.size ≤ b5 by rw [hb]; exact B.out.size)
  have N5 := Aside0.mk hN
  have B := Aside0.mk hB
  clear hN hB hb hW
  refine hK _ _ hB5 (fun _ => ?_)
  clear hB5 hK K
  refine frame_ (a' := ?aa15) ?ha15 ?nx15
  case ha15 =>
    simp only [Go.Proofs.YtbpfmlckddhgbaaGreatDoorW.PrintLast.putAll, Act.put, List.setIfInBounds_toArray, List.set_cons_zero, List.set_cons_succ]
    rfl
  refine last_ (i := 10) (N := none) #[true, true, true, true, true, true, true, true, true, true, true, false] rfl rfl (by kernel_rfl) (by decide) (fun K hK => ?_)
  rw [if_pos (by rfl)]
  refine wpo_store_row none rfl 232 (.tmp 5) (.tmp 14) rfl b5 232 _ [.slice A0 n0 c0, .int .i64 k0] rfl rfl N5.out rfl (by kernel_rfl) (by intro v hv; simp at hv; rcases hv with rfl | rfl <;> rfl) ?_
  intro W6 hW
  have hN : At W6 b5 232 [.slice A0 n0 c0, .int .i64 k0] := by subst hW; exact N5.out.setRow _
  have hB : Below w.heap.size w W6 := by subst hW; exact below_setRow B.out L5.out _
  have N5 := Aside0.mk hN
  have B := Aside0.mk hB
  clear hN hB hW
  refine hK _ _ ?_
  clear hK K
  refine frame_ (a' := ?aa16) ?ha16 ?nx16
  case ha16 =>
    simp only [Go.Proofs.YtbpfmlckddhgbaaGreatDoorW.PrintLast.putAll, Act.put, List.setIfInBounds_toArray, List.set_cons_zero, List.set_cons_succ]
    rfl
  refine last_ (i := 11) (N := some 6) #[true, true, true, true, true, true, true, true, true, true, true, true] rfl rfl (by kernel_rfl) (by decide) (fun K hK => ?_)
  rw [if_pos (by rfl)]
  refine wpo_assign (some 6) rfl (.tmp 15) rfl (.bool (M d).isSome) rfl ?_
  refine hK _ _ ?_
  clear hK K
  refine frame_ (a' := ?aa17) ?ha17 ?nx17
  case ha17 =>
    simp only [Go.Proofs.YtbpfmlckddhgbaaGreatDoorW.PrintLast.putAll, Act.put, List.setIfInBounds_toArray, List.set_cons_zero, List.set_cons_succ]
    rfl
  refine done_ (by kernel_rfl) ?_
  go_wp2_with fail
  go_ret
  exact ⟨rfl, B.out⟩
def digL (wd : Nat) (ds : List UInt8) : List UInt8 := cutD (shaL ds) wd
theorem shaL_len (ds : List UInt8) : (shaL ds).length = 32 := by rw [shaL, flatMap_word4_len, shaSt_len]
theorem digL_len (wd : Nat) (ds : List UInt8) (h : wd ≤ 32) : (digL wd ds).length = 32 := cutD_len _ _ (shaL_len ds) h
theorem digL_eq (wd : Nat) (ds : List UInt8) : cutD (shaL ds) wd = digL wd ds := rfl
attribute [local irreducible] digL shaL cutD in
set_option maxRecDepth 4000 in
set_option maxHeartbeats 1000000 in
theorem digest_calls (w : World) (s wd : Nat) (A : Option Addr) (c : Nat) (ds : List UInt8) (h0 : w.cell? ⟨s, 0, none⟩ = some (.int .i64 (wd : Int))) (hw1 : 1 ≤ wd) (hw2 : wd ≤ 32) (hR : RdL w A ds) (hl : ds.length < 2 ^ 59) (hc : ds.length ≤ c) :
    Calls Tryz.prog 146 #[.pointer (some ⟨s, 0, none⟩), .slice A ds.length c] w fun e w' => e = .returned (digV (digL wd ds)) ∧ Below w.heap.size w w' := by
  have hsl : s < w.heap.size := World.block_lt_of_cell? w _ h0
  have HR := Aside0.mk hR
  have H0 := Aside0.mk h0
  have DL := Aside0.mk (digL_len wd ds hw2)
  have SL := Aside0.mk (shaL_len ds)
  have OK := Aside0.mk (show wOk (wd : Int) = true by unfold wOk; simp; omega)
  have HL := Aside0.mk hl
  have HC := Aside0.mk hc
  have DD := Aside0.mk (show cutD (shaL ds) wd = digL wd ds from digL_eq wd ds)
  clear hR h0 hl hc
  go_enter Tryz.func146, Tryz.ntmps146
  go_wp2_with (first
    | (refine arm_alloc rfl 27 rfl _ _ info27 ?_; intro W b4 hb hW
       have hN : At W b4 27 (List.replicate 32 (bv 0)) := by subst hW hb; exact At.new _ _ _
       have hB : Below w.heap.size w W := by subst hW; exact (Below.refl _ _).alloc (Nat.le_refl _) _
       have L4 := Aside0.mk (show w.heap.size ≤ b4 by rw [hb]; exact Nat.le_refl _)
       have N4 := Aside0.mk hN
       have B := Aside0.mk hB
       clear hN hB hb hW)
    | fail)
  have hall : ∀ w', Below W.heap.size W w' → w'.cell? ⟨s, 0, none⟩ = some (.int .i64 (wd : Int)) := by
    intro w' hB
    rw [hB.cell (Nat.lt_of_lt_of_le hsl B.out.size), B.out.cell hsl]; exact H0.out
  have HALL := Aside0.mk hall
  clear hall
  have hS0 : Below W.heap.size W W.drew := (Below.refl _ _).drew
  refine takes_region (S := fun w' => Below W.heap.size W w') (ds := [12, 13]) [(0, true), (3, true), (4, true), (5, true), (6, false)] 9 (by kernel_rfl) rfl (by kernel_rfl) (fun _ _ dd _ _ h => by cases dd <;> exact h) hS0
    #[true, false, false, true, true, true, true, false, false, false, false, false, false, false] (by kernel_rfl) ?_
  refine tk (N := some 8) (v := ?vv10) (a' := ?aa10) rfl rfl rfl ?hr10 ?ha10 ?nx10
  case hr10 => (intro w' hS; first | (go_simp; with_reducible rfl) | (obtain hS | hS := hS; (· cases hS); have hF := HALL.out w' hS; go_simp; with_reducible rfl))
  case ha10 => (simp only [Act.put, List.setIfInBounds_toArray, List.set_cons_zero, List.set_cons_succ]; rfl)
  refine tk (N := some 11) (v := ?vv11) (a' := ?aa11) rfl rfl rfl ?hr11 ?ha11 ?nx11
  case hr11 => (intro w' hS; first | (go_simp; with_reducible rfl) | (obtain hS | hS := hS; (· cases hS); have hF := HALL.out w' hS; go_simp; with_reducible rfl))
  case ha11 => (simp only [Act.put, List.setIfInBounds_toArray, List.set_cons_zero, List.set_cons_succ]; rfl)
  refine tk (N := some 12) (v := ?vv12) (a' := ?aa12) rfl rfl rfl ?hr12 ?ha12 ?nx12
  case hr12 => (intro w' hS; first | (go_simp; with_reducible rfl) | (obtain hS | hS := hS; (· cases hS); have hF := HALL.out w' hS; go_simp; with_reducible rfl))
  case ha12 => (simp only [Act.put, List.setIfInBounds_toArray, List.set_cons_zero, List.set_cons_succ]; rfl)
  refine tk (N := some 13) (v := ?vv13) (a' := ?aa13) rfl rfl rfl ?hr13 ?ha13 ?nx13
  case hr13 => (intro w' hS; first | (go_simp; with_reducible rfl) | (obtain hS | hS := hS; (· cases hS); have hF := HALL.out w' hS; go_simp; with_reducible rfl))
  case ha13 => (simp only [Act.put, List.setIfInBounds_toArray, List.set_cons_zero, List.set_cons_succ]; rfl)
  refine tk (N := some 14) (v := ?vv14) (a' := ?aa14) rfl rfl rfl ?hr14 ?ha14 ?nx14
  case hr14 => (intro w' hS; first | (go_simp; with_reducible rfl) | (obtain hS | hS := hS; (· cases hS); have hF := HALL.out w' hS; go_simp; with_reducible rfl))
  case ha14 => (simp only [Act.put, List.setIfInBounds_toArray, List.set_cons_zero, List.set_cons_succ]; rfl)
  refine takes_done ?_
  have hB : Below w.heap.size w W.drew := B.out.drew
  have hN : At W.drew b4 27 (List.replicate 32 (bv 0)) := N4.out.drew
  obtain ⟨W0, hW0⟩ : ∃ W0, W0 = W.drew := ⟨_, rfl⟩
  rw [← hW0] at hB hN hS0 ⊢
  clear hW0
  have B := Aside0.mk hB
  have N4 := Aside0.mk hN
  have HS := Aside0.mk hS0
  clear hB hN hS0
  refine two_ (i := 1) (j := 11) (Ni := some 9) (Nj := some 5) #[true, true, false, true, true, true, true, false, false, false, false, false, false, false] #[true, false, false, true, true, true, true, false, false, false, false, true, false, false] rfl rfl rfl rfl (by kernel_rfl) (by decide) (by decide) (fun K hK => ?_) (fun K hK => ?_)
  · rw [if_pos (by rfl)]
    refine wpo_run (some 9) rfl (v := .slice (some ⟨W0.heap.size, 0, none⟩) 1 1) (w' := W0.alloc (.cells #[.slice A ds.length c] 35)) (by go_simp) ?_
    obtain ⟨g, hg⟩ : ∃ g, g = W0.heap.size := ⟨_, rfl⟩
    have hgc : (W0.alloc (.cells #[.slice A ds.length c] 35)).cell? ⟨g, 0, none⟩ = some (.slice A ds.length c) := by rw [hg, (At.new W0 35 #[.slice A ds.length c]).cell]; rfl
    rw [← hg]
    have hBs : Below W0.heap.size W0 (W0.alloc (.cells #[.slice A ds.length c] 35)) := (Below.refl _ _).alloc (Nat.le_refl _) _
    obtain ⟨W101, hN⟩ : ∃ X, X = W0.alloc (.cells #[.slice A ds.length c] 35) := ⟨_, rfl⟩
    rw [← hN] at hgc hBs ⊢
    have GC := Aside0.mk hgc
    clear hgc hN hg
    have N4 := Aside0.mk (N4.out.below hBs N4.out.lt)
    have HS := Aside0.mk (HS.out.trans (hBs.mono HS.out.size))
    have B := Aside0.mk (B.out.trans (hBs.mono B.out.size))
    clear hBs
    refine hK _ _ HS.out (fun _ => ?_)
    clear hK K
    refine frame_ (a' := ?aa18) ?ha18 ?nx18
    case ha18 =>
      simp only [Go.Proofs.YtbpfmlckddhgbaaGreatDoorW.PrintLast.putAll, Act.put, List.setIfInBounds_toArray, List.set_cons_zero, List.set_cons_succ]
      rfl
    refine two_ (i := 2) (j := 11) (Ni := some 10) (Nj := some 5) #[true, true, true, true, true, true, true, false, false, false, false, false, false, false] #[true, true, false, true, true, true, true, false, false, false, false, true, false, false] rfl rfl rfl rfl (by kernel_rfl) (by decide) (by decide) (fun K hK => ?_) (fun K hK => ?_)
    · refine goes_ Tryz.func73 (by kernel_rfl) rfl #[.slice (some ⟨g, 0, none⟩) 1 1] (by rfl) rfl rfl (by simp only [List.map_toArray, List.map_cons, List.map_nil]; rfl) ?_
      refine (of_calls W101 g A c ds GC.out (HR.out.below B.out) HL.out HC.out).mono ?_
      rintro e W102 ⟨rfl, hBs⟩
      refine ⟨_, rfl, ?_⟩
      have N4 := Aside0.mk (N4.out.below hBs N4.out.lt)
      have HS := Aside0.mk (HS.out.trans (hBs.mono HS.out.size))
      have B := Aside0.mk (B.out.trans (hBs.mono B.out.size))
      clear hBs
      refine hK _ _ HS.out (fun _ => ?_)
      clear hK K
      refine frame_ (a' := ?aa19) ?ha19 ?nx19
      case ha19 =>
        simp only [Go.Proofs.YtbpfmlckddhgbaaGreatDoorW.PrintLast.putAll, Act.put, List.setIfInBounds_toArray, List.set_cons_zero, List.set_cons_succ]
        rfl
      refine two_ (i := 7) (j := 11) (Ni := some 15) (Nj := some 5) #[true, true, true, true, true, true, true, true, false, false, false, false, false, false] #[true, true, true, true, true, true, true, false, false, false, false, true, false, false] rfl rfl rfl rfl (by kernel_rfl) (by decide) (by decide) (fun K hK => ?_) (fun K hK => ?_)
      · refine goes_ Tryz.func72 (by kernel_rfl) rfl #[digV (shaL ds), .int .i64 (wd : Int)] (by rfl) rfl rfl (by simp only [List.map_toArray, List.map_cons, List.map_nil]; rfl) ?_
        refine (cut_calls W102 (shaL ds) (wd : Int) SL.out).mono ?_
        rintro e W103 ⟨rfl, hBs⟩
        rw [if_pos OK.out, Int.toNat_natCast, show cutD (shaL ds) wd = digL wd ds from DD.out]
        refine ⟨_, rfl, ?_⟩
        have N4 := Aside0.mk (N4.out.below hBs N4.out.lt)
        have HS := Aside0.mk (HS.out.trans (hBs.mono HS.out.size))
        have B := Aside0.mk (B.out.trans (hBs.mono B.out.size))
        clear hBs
        refine hK _ _ HS.out (fun _ => ?_)
        clear hK K
        refine frame_ (a' := ?aa20) ?ha20 ?nx20
        case ha20 =>
          simp only [Go.Proofs.YtbpfmlckddhgbaaGreatDoorW.PrintLast.putAll, Act.put, List.setIfInBounds_toArray, List.set_cons_zero, List.set_cons_succ]
          rfl
        refine pure_ (i := 8) (N := some 7) (v := .tuple #[digV (digL wd ds), .int .i64 0]) #[true, true, true, true, true, true, true, true, true, false, false, false, false, false] rfl rfl (by kernel_rfl) (fun _ _ _ h => h) (Or.inl ⟨by rfl, fun _ => by go_simp⟩) rfl ?_
        refine pure_ (i := 9) (N := some 16) (v := digV (digL wd ds)) #[true, true, true, true, true, true, true, true, true, true, false, false, false, false] rfl rfl (by kernel_rfl) (fun _ _ _ h => h) (Or.inl ⟨by rfl, fun _ => by go_simp⟩) rfl ?_
        refine pure_ (i := 10) (N := some 17) (v := .int .i64 0) #[true, true, true, true, true, true, true, true, true, true, true, false, false, false] rfl rfl (by kernel_rfl) (fun _ _ _ h => h) (Or.inl ⟨by rfl, fun _ => by go_simp⟩) rfl ?_
        refine one_ (i := 11) (N := some 5) #[true, true, true, true, true, true, true, true, true, true, true, true, false, false] rfl rfl (by kernel_rfl) (by decide) (fun K hK => ?_)
        rw [if_pos (by rfl)]
        refine wpo_alloc (some 5) rfl 27 rfl _ _ info27 ?_
        intro W104 b5 hb hW
        have hBs : Below W103.heap.size W103 W104 := by subst hW; exact (Below.refl _ _).alloc (Nat.le_refl _) _
        have N5 := Aside0.mk (show At W104 b5 27 (List.replicate 32 (bv 0)) by subst hW hb; exact At.new _ _ _)
        have L5 := Aside0.mk (show w.heap.size ≤ b5 ∧ b4 < b5 from ⟨by rw [hb]; exact B.out.size, by have := N4.out.lt; omega⟩)
        clear hb hW
        have N4 := Aside0.mk (N4.out.below hBs N4.out.lt)
        have HS := Aside0.mk (HS.out.trans (hBs.mono HS.out.size))
        have B := Aside0.mk (B.out.trans (hBs.mono B.out.size))
        clear hBs
        refine hK _ _ HS.out (fun _ => ?_)
        clear hK K
        refine frame_ (a' := ?aa21) ?ha21 ?nx21
        case ha21 =>
          simp only [Go.Proofs.YtbpfmlckddhgbaaGreatDoorW.PrintLast.putAll, Act.put, List.setIfInBounds_toArray, List.set_cons_zero, List.set_cons_succ]
          rfl
        refine last_ (i := 12) (N := none) #[true, true, true, true, true, true, true, true, true, true, true, true, true, false] rfl rfl (by kernel_rfl) (by decide) (fun K hK => ?_)
        rw [if_pos (by rfl)]
        refine wpo_store_row none rfl 27 (.tmp 5) (.tmp 16) rfl b5 27 _ ((digL wd ds).map bv) rfl rfl N5.out (by rw [List.length_map, DL.out]; rfl) (by rw [List.length_map, DL.out]; exact size27) (one_bv _) ?_
        intro WA hW
        have hN4 : At WA b4 27 (List.replicate 32 (bv 0)) := by subst hW; exact N4.out.setRow_other (by have := L5.out; omega) _
        have hN5 : At WA b5 27 ((digL wd ds).map bv) := by subst hW; exact N5.out.setRow _
        have hB : Below w.heap.size w WA := by subst hW; exact below_setRow B.out L5.out.1 _
        have N4 := Aside0.mk hN4
        have N5 := Aside0.mk hN5
        have B := Aside0.mk hB
        clear hN4 hN5 hB hW
        refine hK _ _ ?_
        clear hK K
        refine frame_ (a' := ?aa22) ?ha22 ?nx22
        case ha22 =>
          simp only [Go.Proofs.YtbpfmlckddhgbaaGreatDoorW.PrintLast.putAll, Act.put, List.setIfInBounds_toArray, List.set_cons_zero, List.set_cons_succ]
          rfl
        refine last_ (i := 13) (N := some 6) #[true, true, true, true, true, true, true, true, true, true, true, true, true, true] rfl rfl (by kernel_rfl) (by decide) (fun K hK => ?_)
        rw [if_pos (by rfl)]
        refine wpo_assign (some 6) rfl (.tmp 17) rfl (.int .i64 0) rfl ?_
        refine hK _ _ ?_
        clear hK K
        refine frame_ (a' := ?aa23) ?ha23 ?nx23
        case ha23 =>
          simp only [Go.Proofs.YtbpfmlckddhgbaaGreatDoorW.PrintLast.putAll, Act.put, List.setIfInBounds_toArray, List.set_cons_zero, List.set_cons_succ]
          rfl
        refine done_ (by kernel_rfl) ?_
        go_wp2_with (first
          | (refine arm_load_row rfl 27 _ rfl b5 0 rfl ((digL wd ds).map bv) N5.out.rangeAll (by kernel_rfl) (by rw [List.length_map, DL.out]; exact size27) ?_
             intro v hv
             have HV := Aside0.mk hv
             clear hv)
          | (refine arm_store_row rfl 27 _ _ rfl b4 27 _ ((digL wd ds).map bv) rfl HV.out N4.out (by rw [List.length_map, DL.out]; rfl) (by rw [List.length_map, DL.out]; exact size27) (one_bv _) ?_
             intro WB hW
             have hN : At WB b4 27 ((digL wd ds).map bv) := by subst hW; exact N4.out.setRow _
             have hB : Below w.heap.size w WB := by subst hW; exact below_setRow B.out L4.out _
             have N4 := Aside0.mk hN
             have B := Aside0.mk hB
             clear hN hB hW)
          | fail)
        refine bodyPost_ret (results_cell_row rfl _ WB b4 27 _ (0, 0) (.array 32 5) rfl N4.out tu27 rfl (by simp only [List.size_toArray, List.length_map, DL.out]; exact size27)) rfl ?_
        exact ⟨rfl, B.out⟩
      · rw [if_pos (by rfl)]
        refine wpo_alloc (some 5) rfl 27 rfl _ _ info27 ?_
        intro W105 b5 hb hW
        have hBs : Below W102.heap.size W102 W105 := by subst hW; exact (Below.refl _ _).alloc (Nat.le_refl _) _
        have N5 := Aside0.mk (show At W105 b5 27 (List.replicate 32 (bv 0)) by subst hW hb; exact At.new _ _ _)
        have L5 := Aside0.mk (show w.heap.size ≤ b5 ∧ b4 < b5 from ⟨by rw [hb]; exact B.out.size, by have := N4.out.lt; omega⟩)
        clear hb hW
        have N4 := Aside0.mk (N4.out.below hBs N4.out.lt)
        have HS := Aside0.mk (HS.out.trans (hBs.mono HS.out.size))
        have B := Aside0.mk (B.out.trans (hBs.mono B.out.size))
        clear hBs
        refine hK _ _ HS.out (fun _ => ?_)
        clear hK K
        refine frame_ (a' := ?aa24) ?ha24 ?nx24
        case ha24 =>
          simp only [Go.Proofs.YtbpfmlckddhgbaaGreatDoorW.PrintLast.putAll, Act.put, List.setIfInBounds_toArray, List.set_cons_zero, List.set_cons_succ]
          rfl
        refine one_ (i := 7) (N := some 15) #[true, true, true, true, true, true, true, true, false, false, false, true, false, false] rfl rfl (by kernel_rfl) (by decide) (fun K hK => ?_)
        refine goes_ Tryz.func72 (by kernel_rfl) rfl #[digV (shaL ds), .int .i64 (wd : Int)] (by rfl) rfl rfl (by simp only [List.map_toArray, List.map_cons, List.map_nil]; rfl) ?_
        refine (cut_calls W105 (shaL ds) (wd : Int) SL.out).mono ?_
        rintro e W106 ⟨rfl, hBs⟩
        rw [if_pos OK.out, Int.toNat_natCast, show cutD (shaL ds) wd = digL wd ds from DD.out]
        refine ⟨_, rfl, ?_⟩
        have N5 := Aside0.mk (N5.out.below hBs N5.out.lt)
        have N4 := Aside0.mk (N4.out.below hBs N4.out.lt)
        have HS := Aside0.mk (HS.out.trans (hBs.mono HS.out.size))
        have B := Aside0.mk (B.out.trans (hBs.mono B.out.size))
        clear hBs
        refine hK _ _ HS.out (fun _ => ?_)
        clear hK K
        refine frame_ (a' := ?aa25) ?ha25 ?nx25
        case ha25 =>
          simp only [Go.Proofs.YtbpfmlckddhgbaaGreatDoorW.PrintLast.putAll, Act.put, List.setIfInBounds_toArray, List.set_cons_zero, List.set_cons_succ]
          rfl
        refine pure_ (i := 8) (N := some 7) (v := .tuple #[digV (digL wd ds), .int .i64 0]) #[true, true, true, true, true, true, true, true, true, false, false, true, false, false] rfl rfl (by kernel_rfl) (fun _ _ _ h => h) (Or.inl ⟨by rfl, fun _ => by go_simp⟩) rfl ?_
        refine pure_ (i := 9) (N := some 16) (v := digV (digL wd ds)) #[true, true, true, true, true, true, true, true, true, true, false, true, false, false] rfl rfl (by kernel_rfl) (fun _ _ _ h => h) (Or.inl ⟨by rfl, fun _ => by go_simp⟩) rfl ?_
        refine pure_ (i := 10) (N := some 17) (v := .int .i64 0) #[true, true, true, true, true, true, true, true, true, true, true, true, false, false] rfl rfl (by kernel_rfl) (fun _ _ _ h => h) (Or.inl ⟨by rfl, fun _ => by go_simp⟩) rfl ?_
        refine last_ (i := 12) (N := none) #[true, true, true, true, true, true, true, true, true, true, true, true, true, false] rfl rfl (by kernel_rfl) (by decide) (fun K hK => ?_)
        rw [if_pos (by rfl)]
        refine wpo_store_row none rfl 27 (.tmp 5) (.tmp 16) rfl b5 27 _ ((digL wd ds).map bv) rfl rfl N5.out (by rw [List.length_map, DL.out]; rfl) (by rw [List.length_map, DL.out]; exact size27) (one_bv _) ?_
        intro WA hW
        have hN4 : At WA b4 27 (List.replicate 32 (bv 0)) := by subst hW; exact N4.out.setRow_other (by have := L5.out; omega) _
        have hN5 : At WA b5 27 ((digL wd ds).map bv) := by subst hW; exact N5.out.setRow _
        have hB : Below w.heap.size w WA := by subst hW; exact below_setRow B.out L5.out.1 _
        have N4 := Aside0.mk hN4
        have N5 := Aside0.mk hN5
        have B := Aside0.mk hB
        clear hN4 hN5 hB hW
        refine hK _ _ ?_
        clear hK K
        refine frame_ (a' := ?aa26) ?ha26 ?nx26
        case ha26 =>
          simp only [Go.Proofs.YtbpfmlckddhgbaaGreatDoorW.PrintLast.putAll, Act.put, List.setIfInBounds_toArray, List.set_cons_zero, List.set_cons_succ]
          rfl
        refine last_ (i := 13) (N := some 6) #[true, true, true, true, true, true, true, true, true, true, true, true, true, true] rfl rfl (by kernel_rfl) (by decide) (fun K hK => ?_)
        rw [if_pos (by rfl)]
        refine wpo_assign (some 6) rfl (.tmp 17) rfl (.int .i64 0) rfl ?_
        refine hK _ _ ?_
        clear hK K
        refine frame_ (a' := ?aa27) ?ha27 ?nx27
        case ha27 =>
          simp only [Go.Proofs.YtbpfmlckddhgbaaGreatDoorW.PrintLast.putAll, Act.put, List.setIfInBounds_toArray, List.set_cons_zero, List.set_cons_succ]
          rfl
        refine done_ (by kernel_rfl) ?_
        go_wp2_with (first
          | (refine arm_load_row rfl 27 _ rfl b5 0 rfl ((digL wd ds).map bv) N5.out.rangeAll (by kernel_rfl) (by rw [List.length_map, DL.out]; exact size27) ?_
             intro v hv
             have HV := Aside0.mk hv
             clear hv)
          | (refine arm_store_row rfl 27 _ _ rfl b4 27 _ ((digL wd ds).map bv) rfl HV.out N4.out (by rw [List.length_map, DL.out]; rfl) (by rw [List.length_map, DL.out]; exact size27) (one_bv _) ?_
             intro WB hW
             have hN : At WB b4 27 ((digL wd ds).map bv) := by subst hW; exact N4.out.setRow _
             have hB : Below w.heap.size w WB := by subst hW; exact below_setRow B.out L4.out _
             have N4 := Aside0.mk hN
             have B := Aside0.mk hB
             clear hN hB hW)
          | fail)
        refine bodyPost_ret (results_cell_row rfl _ WB b4 27 _ (0, 0) (.array 32 5) rfl N4.out tu27 rfl (by simp only [List.size_toArray, List.length_map, DL.out]; exact size27)) rfl ?_
        exact ⟨rfl, B.out⟩
    · rw [if_pos (by rfl)]
      refine wpo_alloc (some 5) rfl 27 rfl _ _ info27 ?_
      intro W107 b5 hb hW
      have hBs : Below W101.heap.size W101 W107 := by subst hW; exact (Below.refl _ _).alloc (Nat.le_refl _) _
      have N5 := Aside0.mk (show At W107 b5 27 (List.replicate 32 (bv 0)) by subst hW hb; exact At.new _ _ _)
      have L5 := Aside0.mk (show w.heap.size ≤ b5 ∧ b4 < b5 from ⟨by rw [hb]; exact B.out.size, by have := N4.out.lt; omega⟩)
      clear hb hW
      have N4 := Aside0.mk (N4.out.below hBs N4.out.lt)
      have GC := Aside0.mk (show W107.cell? ⟨g, 0, none⟩ = some (.slice A ds.length c) by rw [hBs.cell (World.block_lt_of_cell? _ _ GC.out)]; exact GC.out)
      have HS := Aside0.mk (HS.out.trans (hBs.mono HS.out.size))
      have B := Aside0.mk (B.out.trans (hBs.mono B.out.size))
      clear hBs
      refine hK _ _ HS.out (fun _ => ?_)
      clear hK K
      refine frame_ (a' := ?aa28) ?ha28 ?nx28
      case ha28 =>
        simp only [Go.Proofs.YtbpfmlckddhgbaaGreatDoorW.PrintLast.putAll, Act.put, List.setIfInBounds_toArray, List.set_cons_zero, List.set_cons_succ]
        rfl
      refine one_ (i := 2) (N := some 10) #[true, true, true, true, true, true, true, false, false, false, false, true, false, false] rfl rfl (by kernel_rfl) (by decide) (fun K hK => ?_)
      refine goes_ Tryz.func73 (by kernel_rfl) rfl #[.slice (some ⟨g, 0, none⟩) 1 1] (by rfl) rfl rfl (by simp only [List.map_toArray, List.map_cons, List.map_nil]; rfl) ?_
      refine (of_calls W107 g A c ds GC.out (HR.out.below B.out) HL.out HC.out).mono ?_
      rintro e W108 ⟨rfl, hBs⟩
      refine ⟨_, rfl, ?_⟩
      have N5 := Aside0.mk (N5.out.below hBs N5.out.lt)
      have N4 := Aside0.mk (N4.out.below hBs N4.out.lt)
      have HS := Aside0.mk (HS.out.trans (hBs.mono HS.out.size))
      have B := Aside0.mk (B.out.trans (hBs.mono B.out.size))
      clear hBs
      refine hK _ _ HS.out (fun _ => ?_)
      clear hK K
      refine frame_ (a' := ?aa29) ?ha29 ?nx29
      case ha29 =>
        simp only [Go.Proofs.YtbpfmlckddhgbaaGreatDoorW.PrintLast.putAll, Act.put, List.setIfInBounds_toArray, List.set_cons_zero, List.set_cons_succ]
        rfl
      refine one_ (i := 7) (N := some 15) #[true, true, true, true, true, true, true, true, false, false, false, true, false, false] rfl rfl (by kernel_rfl) (by decide) (fun K hK => ?_)
      refine goes_ Tryz.func72 (by kernel_rfl) rfl #[digV (shaL ds), .int .i64 (wd : Int)] (by rfl) rfl rfl (by simp only [List.map_toArray, List.map_cons, List.map_nil]; rfl) ?_
      refine (cut_calls W108 (shaL ds) (wd : Int) SL.out).mono ?_
      rintro e W109 ⟨rfl, hBs⟩
      rw [if_pos OK.out, Int.toNat_natCast, show cutD (shaL ds) wd = digL wd ds from DD.out]
      refine ⟨_, rfl, ?_⟩
      have N5 := Aside0.mk (N5.out.below hBs N5.out.lt)
      have N4 := Aside0.mk (N4.out.below hBs N4.out.lt)
      have HS := Aside0.mk (HS.out.trans (hBs.mono HS.out.size))
      have B := Aside0.mk (B.out.trans (hBs.mono B.out.size))
      clear hBs
      refine hK _ _ HS.out (fun _ => ?_)
      clear hK K
      refine frame_ (a' := ?aa30) ?ha30 ?nx30
      case ha30 =>
        simp only [Go.Proofs.YtbpfmlckddhgbaaGreatDoorW.PrintLast.putAll, Act.put, List.setIfInBounds_toArray, List.set_cons_zero, List.set_cons_succ]
        rfl
      refine pure_ (i := 8) (N := some 7) (v := .tuple #[digV (digL wd ds), .int .i64 0]) #[true, true, true, true, true, true, true, true, true, false, false, true, false, false] rfl rfl (by kernel_rfl) (fun _ _ _ h => h) (Or.inl ⟨by rfl, fun _ => by go_simp⟩) rfl ?_
      refine pure_ (i := 9) (N := some 16) (v := digV (digL wd ds)) #[true, true, true, true, true, true, true, true, true, true, false, true, false, false] rfl rfl (by kernel_rfl) (fun _ _ _ h => h) (Or.inl ⟨by rfl, fun _ => by go_simp⟩) rfl ?_
      refine pure_ (i := 10) (N := some 17) (v := .int .i64 0) #[true, true, true, true, true, true, true, true, true, true, true, true, false, false] rfl rfl (by kernel_rfl) (fun _ _ _ h => h) (Or.inl ⟨by rfl, fun _ => by go_simp⟩) rfl ?_
      refine last_ (i := 12) (N := none) #[true, true, true, true, true, true, true, true, true, true, true, true, true, false] rfl rfl (by kernel_rfl) (by decide) (fun K hK => ?_)
      rw [if_pos (by rfl)]
      refine wpo_store_row none rfl 27 (.tmp 5) (.tmp 16) rfl b5 27 _ ((digL wd ds).map bv) rfl rfl N5.out (by rw [List.length_map, DL.out]; rfl) (by rw [List.length_map, DL.out]; exact size27) (one_bv _) ?_
      intro WA hW
      have hN4 : At WA b4 27 (List.replicate 32 (bv 0)) := by subst hW; exact N4.out.setRow_other (by have := L5.out; omega) _
      have hN5 : At WA b5 27 ((digL wd ds).map bv) := by subst hW; exact N5.out.setRow _
      have hB : Below w.heap.size w WA := by subst hW; exact below_setRow B.out L5.out.1 _
      have N4 := Aside0.mk hN4
      have N5 := Aside0.mk hN5
      have B := Aside0.mk hB
      clear hN4 hN5 hB hW
      refine hK _ _ ?_
      clear hK K
      refine frame_ (a' := ?aa31) ?ha31 ?nx31
      case ha31 =>
        simp only [Go.Proofs.YtbpfmlckddhgbaaGreatDoorW.PrintLast.putAll, Act.put, List.setIfInBounds_toArray, List.set_cons_zero, List.set_cons_succ]
        rfl
      refine last_ (i := 13) (N := some 6) #[true, true, true, true, true, true, true, true, true, true, true, true, true, true] rfl rfl (by kernel_rfl) (by decide) (fun K hK => ?_)
      rw [if_pos (by rfl)]
      refine wpo_assign (some 6) rfl (.tmp 17) rfl (.int .i64 0) rfl ?_
      refine hK _ _ ?_
      clear hK K
      refine frame_ (a' := ?aa32) ?ha32 ?nx32
      case ha32 =>
        simp only [Go.Proofs.YtbpfmlckddhgbaaGreatDoorW.PrintLast.putAll, Act.put, List.setIfInBounds_toArray, List.set_cons_zero, List.set_cons_succ]
        rfl
      refine done_ (by kernel_rfl) ?_
      go_wp2_with (first
        | (refine arm_load_row rfl 27 _ rfl b5 0 rfl ((digL wd ds).map bv) N5.out.rangeAll (by kernel_rfl) (by rw [List.length_map, DL.out]; exact size27) ?_
           intro v hv
           have HV := Aside0.mk hv
           clear hv)
        | (refine arm_store_row rfl 27 _ _ rfl b4 27 _ ((digL wd ds).map bv) rfl HV.out N4.out (by rw [List.length_map, DL.out]; rfl) (by rw [List.length_map, DL.out]; exact size27) (one_bv _) ?_
           intro WB hW
           have hN : At WB b4 27 ((digL wd ds).map bv) := by subst hW; exact N4.out.setRow _
           have hB : Below w.heap.size w WB := by subst hW; exact below_setRow B.out L4.out _
           have N4 := Aside0.mk hN
           have B := Aside0.mk hB
           clear hN hB hW)
        | fail)
      refine bodyPost_ret (results_cell_row rfl _ WB b4 27 _ (0, 0) (.array 32 5) rfl N4.out tu27 rfl (by simp only [List.size_toArray, List.length_map, DL.out]; exact size27)) rfl ?_
      exact ⟨rfl, B.out⟩
  · rw [if_pos (by rfl)]
    refine wpo_alloc (some 5) rfl 27 rfl _ _ info27 ?_
    intro W110 b5 hb hW
    have hBs : Below W0.heap.size W0 W110 := by subst hW; exact (Below.refl _ _).alloc (Nat.le_refl _) _
    have N5 := Aside0.mk (show At W110 b5 27 (List.replicate 32 (bv 0)) by subst hW hb; exact At.new _ _ _)
    have L5 := Aside0.mk (show w.heap.size ≤ b5 ∧ b4 < b5 from ⟨by rw [hb]; exact B.out.size, by have := N4.out.lt; omega⟩)
    clear hb hW
    have N4 := Aside0.mk (N4.out.below hBs N4.out.lt)
    have HS := Aside0.mk (HS.out.trans (hBs.mono HS.out.size))
    have B := Aside0.mk (B.out.trans (hBs.mono B.out.size))
    clear hBs
    refine hK _ _ HS.out (fun _ => ?_)
    clear hK K
    refine frame_ (a' := ?aa33) ?ha33 ?nx33
    case ha33 =>
      simp only [Go.Proofs.YtbpfmlckddhgbaaGreatDoorW.PrintLast.putAll, Act.put, List.setIfInBounds_toArray, List.set_cons_zero, List.set_cons_succ]
      rfl
    refine one_ (i := 1) (N := some 9) #[true, true, false, true, true, true, true, false, false, false, false, true, false, false] rfl rfl (by kernel_rfl) (by decide) (fun K hK => ?_)
    rw [if_pos (by rfl)]
    refine wpo_run (some 9) rfl (v := .slice (some ⟨W110.heap.size, 0, none⟩) 1 1) (w' := W110.alloc (.cells #[.slice A ds.length c] 35)) (by go_simp) ?_
    obtain ⟨g, hg⟩ : ∃ g, g = W110.heap.size := ⟨_, rfl⟩
    have hgc : (W110.alloc (.cells #[.slice A ds.length c] 35)).cell? ⟨g, 0, none⟩ = some (.slice A ds.length c) := by rw [hg, (At.new W110 35 #[.slice A ds.length c]).cell]; rfl
    rw [← hg]
    have hBs : Below W110.heap.size W110 (W110.alloc (.cells #[.slice A ds.length c] 35)) := (Below.refl _ _).alloc (Nat.le_refl _) _
    obtain ⟨W111, hN⟩ : ∃ X, X = W110.alloc (.cells #[.slice A ds.length c] 35) := ⟨_, rfl⟩
    rw [← hN] at hgc hBs ⊢
    have GC := Aside0.mk hgc
    clear hgc hN hg
    have N5 := Aside0.mk (N5.out.below hBs N5.out.lt)
    have N4 := Aside0.mk (N4.out.below hBs N4.out.lt)
    have HS := Aside0.mk (HS.out.trans (hBs.mono HS.out.size))
    have B := Aside0.mk (B.out.trans (hBs.mono B.out.size))
    clear hBs
    refine hK _ _ HS.out (fun _ => ?_)
    clear hK K
    refine frame_ (a' := ?aa34) ?ha34 ?nx34
    case ha34 =>
      simp only [Go.Proofs.YtbpfmlckddhgbaaGreatDoorW.PrintLast.putAll, Act.put, List.setIfInBounds_toArray, List.set_cons_zero, List.set_cons_succ]
      rfl
    refine one_ (i := 2) (N := some 10) #[true, true, true, true, true, true, true, false, false, false, false, true, false, false] rfl rfl (by kernel_rfl) (by decide) (fun K hK => ?_)
    refine goes_ Tryz.func73 (by kernel_rfl) rfl #[.slice (some ⟨g, 0, none⟩) 1 1] (by rfl) rfl rfl (by simp only [List.map_toArray, List.map_cons, List.map_nil]; rfl) ?_
    refine (of_calls W111 g A c ds GC.out (HR.out.below B.out) HL.out HC.out).mono ?_
    rintro e W112 ⟨rfl, hBs⟩
    refine ⟨_, rfl, ?_⟩
    have N5 := Aside0.mk (N5.out.below hBs N5.out.lt)
    have N4 := Aside0.mk (N4.out.below hBs N4.out.lt)
    have HS := Aside0.mk (HS.out.trans (hBs.mono HS.out.size))
    have B := Aside0.mk (B.out.trans (hBs.mono B.out.size))
    clear hBs
    refine hK _ _ HS.out (fun _ => ?_)
    clear hK K
    refine frame_ (a' := ?aa35) ?ha35 ?nx35
    case ha35 =>
      simp only [Go.Proofs.YtbpfmlckddhgbaaGreatDoorW.PrintLast.putAll, Act.put, List.setIfInBounds_toArray, List.set_cons_zero, List.set_cons_succ]
      rfl
    refine one_ (i := 7) (N := some 15) #[true, true, true, true, true, true, true, true, false, false, false, true, false, false] rfl rfl (by kernel_rfl) (by decide) (fun K hK => ?_)
    refine goes_ Tryz.func72 (by kernel_rfl) rfl #[digV (shaL ds), .int .i64 (wd : Int)] (by rfl) rfl rfl (by simp only [List.map_toArray, List.map_cons, List.map_nil]; rfl) ?_
    refine (cut_calls W112 (shaL ds) (wd : Int) SL.out).mono ?_
    rintro e W113 ⟨rfl, hBs⟩
    rw [if_pos OK.out, Int.toNat_natCast, show cutD (shaL ds) wd = digL wd ds from DD.out]
    refine ⟨_, rfl, ?_⟩
    have N5 := Aside0.mk (N5.out.below hBs N5.out.lt)
    have N4 := Aside0.mk (N4.out.below hBs N4.out.lt)
    have HS := Aside0.mk (HS.out.trans (hBs.mono HS.out.size))
    have B := Aside0.mk (B.out.trans (hBs.mono B.out.size))
    clear hBs
    refine hK _ _ HS.out (fun _ => ?_)
    clear hK K
    refine frame_ (a' := ?aa36) ?ha36 ?nx36
    case ha36 =>
      simp only [Go.Proofs.YtbpfmlckddhgbaaGreatDoorW.PrintLast.putAll, Act.put, List.setIfInBounds_toArray, List.set_cons_zero, List.set_cons_succ]
      rfl
    refine pure_ (i := 8) (N := some 7) (v := .tuple #[digV (digL wd ds), .int .i64 0]) #[true, true, true, true, true, true, true, true, true, false, false, true, false, false] rfl rfl (by kernel_rfl) (fun _ _ _ h => h) (Or.inl ⟨by rfl, fun _ => by go_simp⟩) rfl ?_
    refine pure_ (i := 9) (N := some 16) (v := digV (digL wd ds)) #[true, true, true, true, true, true, true, true, true, true, false, true, false, false] rfl rfl (by kernel_rfl) (fun _ _ _ h => h) (Or.inl ⟨by rfl, fun _ => by go_simp⟩) rfl ?_
    refine pure_ (i := 10) (N := some 17) (v := .int .i64 0) #[true, true, true, true, true, true, true, true, true, true, true, true, false, false] rfl rfl (by kernel_rfl) (fun _ _ _ h => h) (Or.inl ⟨by rfl, fun _ => by go_simp⟩) rfl ?_
    refine last_ (i := 12) (N := none) #[true, true, true, true, true, true, true, true, true, true, true, true, true, false] rfl rfl (by kernel_rfl) (by decide) (fun K hK => ?_)
    rw [if_pos (by rfl)]
    refine wpo_store_row none rfl 27 (.tmp 5) (.tmp 16) rfl b5 27 _ ((digL wd ds).map bv) rfl rfl N5.out (by rw [List.length_map, DL.out]; rfl) (by rw [List.length_map, DL.out]; exact size27) (one_bv _) ?_
    intro WA hW
    have hN4 : At WA b4 27 (List.replicate 32 (bv 0)) := by subst hW; exact N4.out.setRow_other (by have := L5.out; omega) _
    have hN5 : At WA b5 27 ((digL wd ds).map bv) := by subst hW; exact N5.out.setRow _
    have hB : Below w.heap.size w WA := by subst hW; exact below_setRow B.out L5.out.1 _
    have N4 := Aside0.mk hN4
    have N5 := Aside0.mk hN5
    have B := Aside0.mk hB
    clear hN4 hN5 hB hW
    refine hK _ _ ?_
    clear hK K
    refine frame_ (a' := ?aa37) ?ha37 ?nx37
    case ha37 =>
      simp only [Go.Proofs.YtbpfmlckddhgbaaGreatDoorW.PrintLast.putAll, Act.put, List.setIfInBounds_toArray, List.set_cons_zero, List.set_cons_succ]
      rfl
    refine last_ (i := 13) (N := some 6) #[true, true, true, true, true, true, true, true, true, true, true, true, true, true] rfl rfl (by kernel_rfl) (by decide) (fun K hK => ?_)
    rw [if_pos (by rfl)]
    refine wpo_assign (some 6) rfl (.tmp 17) rfl (.int .i64 0) rfl ?_
    refine hK _ _ ?_
    clear hK K
    refine frame_ (a' := ?aa38) ?ha38 ?nx38
    case ha38 =>
      simp only [Go.Proofs.YtbpfmlckddhgbaaGreatDoorW.PrintLast.putAll, Act.put, List.setIfInBounds_toArray, List.set_cons_zero, List.set_cons_succ]
      rfl
    refine done_ (by kernel_rfl) ?_
    go_wp2_with (first
      | (refine arm_load_row rfl 27 _ rfl b5 0 rfl ((digL wd ds).map bv) N5.out.rangeAll (by kernel_rfl) (by rw [List.length_map, DL.out]; exact size27) ?_
         intro v hv
         have HV := Aside0.mk hv
         clear hv)
      | (refine arm_store_row rfl 27 _ _ rfl b4 27 _ ((digL wd ds).map bv) rfl HV.out N4.out (by rw [List.length_map, DL.out]; rfl) (by rw [List.length_map, DL.out]; exact size27) (one_bv _) ?_
         intro WB hW
         have hN : At WB b4 27 ((digL wd ds).map bv) := by subst hW; exact N4.out.setRow _
         have hB : Below w.heap.size w WB := by subst hW; exact below_setRow B.out L4.out _
         have N4 := Aside0.mk hN
         have B := Aside0.mk hB
         clear hN hB hW)
      | fail)
    refine bodyPost_ret (results_cell_row rfl _ WB b4 27 _ (0, 0) (.array 32 5) rfl N4.out tu27 rfl (by simp only [List.size_toArray, List.length_map, DL.out]; exact size27)) rfl ?_
    exact ⟨rfl, B.out⟩
end Go.Proofs.YtbpfmlckddhgbaaGreatDoor
/- cas: what is read of a Store. (Printed by tools/gen_cas.py.) -/
namespace Go.Proofs.YtbpfmlckddhgbaaGreatDoor
set_option linter.unusedSimpArgs false
open Go Go.RowKit Go.Maps Go.Proofs.YtbpfmlckddhgbaaGreatDoorW.PrintWords Go.Proofs.YtbpfmlckddhgbaaGreatDoorW.PrintLast
structure Sto where
  width : Nat
  cap : Int
  used : Int
  last : Int
  gets : Int
  puts : Int
  m : List UInt8 → Option (List UInt8 × Int)
  sz : Nat
def stoCells (σ : Sto) (bm : Nat) : List Value := [.int .i64 (σ.width : Int), .int .i64 σ.cap, .int .i64 σ.used, .int .i64 σ.last, .map (some bm), .int .i64 σ.gets, .int .i64 σ.puts]
structure HSt (w : World) (s bm : Nat) (σ : Sto) (M : MapF) : Prop where
  cells : At w s 149 (stoCells σ bm)
  map : OMap w 27 bm M σ.sz
  ne : s ≠ bm
  wd : 1 ≤ σ.width ∧ σ.width ≤ 32
  here : ∀ d ds k, σ.m d = some (ds, k) → ∃ A c, M d = some (.agg #[.slice A ds.length c, .int .i64 k]) ∧ ds.length ≤ c ∧ ds.length ≤ 1048576 ∧ (ds ≠ [] → ∃ ad, A = some ad ∧ ad.block < w.heap.size ∧ ad.block ≠ s ∧ ad.block ≠ bm ∧ ∀ k, k < ds.length → w.cell? (ad.add k) = some (bv (ds.getD k 0)))
  gone : ∀ d, σ.m d = none → M d = none
namespace HSt
variable {w w1 : World} {s bm : Nat} {σ : Sto} {M : MapF}
theorem below (h : HSt w s bm σ M) (hb : Below w.heap.size w w1) : HSt w1 s bm σ M := by
  refine ⟨h.cells.below hb h.cells.lt, h.map.below hb h.map.lt, h.ne, h.wd, fun d ds k hd => ?_, h.gone⟩
  obtain ⟨A, c, h1, h2, h3, h4⟩ := h.here d ds k hd
  refine ⟨A, c, h1, h2, h3, fun hne => ?_⟩
  obtain ⟨ad, g1, g2, g3, g4, g5⟩ := h4 hne
  exact ⟨ad, g1, Nat.lt_of_lt_of_le g2 hb.size, g3, g4, fun k hk => by rw [hb.cell (by rw [add_block]; exact g2)]; exact g5 k hk⟩
theorem shape (h : HSt w s bm σ M) : ∀ d v, M d = some v → ∃ A n c k, v = .agg #[.slice A n c, .int .i64 k] := by
  intro d v hv
  cases hd : σ.m d with
  | none => rw [h.gone d hd] at hv; cases hv
  | some p =>
    obtain ⟨ds, k⟩ := p
    obtain ⟨A, c, h1, _⟩ := h.here d ds k hd
    rw [h1] at hv; injection hv with hv
    exact ⟨A, _, c, k, hv.symm⟩
theorem isSome (h : HSt w s bm σ M) (d : List UInt8) : (M d).isSome = (σ.m d).isSome := by
  cases hd : σ.m d with
  | none => rw [h.gone d hd]; rfl
  | some p => obtain ⟨ds, k⟩ := p; obtain ⟨A, c, h1, _⟩ := h.here d ds k hd; rw [h1]; rfl
theorem got (h : HSt w s bm σ M) (d : List UInt8) : ∃ A c, (M d).getD (.agg #[.slice none 0 0, .int .i64 0]) = .agg #[.slice A (((σ.m d).map (·.1)).getD []).length c, .int .i64 (((σ.m d).map (·.2)).getD 0)] ∧ (((σ.m d).map (·.1)).getD []).length ≤ c ∧ (((σ.m d).map (·.1)).getD []).length ≤ 1048576 ∧ RdL w A (((σ.m d).map (·.1)).getD []) := by
  cases hd : σ.m d with
  | none => exact ⟨none, 0, by rw [h.gone d hd]; rfl, Nat.le_refl _, Nat.zero_le _, fun hne => absurd rfl hne⟩
  | some p =>
    obtain ⟨ds, k⟩ := p
    obtain ⟨A, c, h1, h2, h3, h4⟩ := h.here d ds k hd
    exact ⟨A, c, by rw [h1]; rfl, h2, h3, fun hne => by obtain ⟨ad, g1, g2, _, _, g5⟩ := h4 hne; exact ⟨ad, g1, g2, g5⟩⟩
theorem cell (h : HSt w s bm σ M) (k : Nat) : w.cell? ⟨s, k, none⟩ = (stoCells σ bm)[k]? := h.cells.cell k
end HSt
def Sto.data (σ : Sto) (d : List UInt8) : List UInt8 := ((σ.m d).map (·.1)).getD []
set_option maxRecDepth 4000 in
theorem raw_calls (w : World) (s bm : Nat) (σ : Sto) (M : MapF) (d : List UInt8) (hH : HSt w s bm σ M) (hd : d.length = 32) :
    Calls Tryz.prog 151 #[.pointer (some ⟨s, 0, none⟩), digV d] w fun e w' => ∃ v, e = .returned (.tuple #[v, .bool (σ.m d).isSome]) ∧ Own w' 5 v ((σ.data d).map bv) ∧ (∀ k, v.ownBlock = some k → w.heap.size ≤ k) ∧ Below w.heap.size w w' := by
  have HH := Aside0.mk hH
  have HD := Aside0.mk hd
  obtain ⟨dv, hdv⟩ : ∃ dv, dv = digV d := ⟨_, rfl⟩
  rw [← hdv]
  have DV := Aside0.mk hdv
  obtain ⟨A0, c0, hev, hc0, hn0, hr0⟩ := hH.got d
  rw [show (((σ.m d).map (·.1)).getD []) = σ.data d from rfl] at hev hc0 hn0 hr0
  have hss := hH.isSome d
  generalize (((σ.m d).map (·.2)).getD 0) = k0 at hev
  obtain ⟨n0, hn0e⟩ : ∃ n0, n0 = (σ.data d).length := ⟨_, rfl⟩
  rw [← hn0e] at hev hc0 hn0
  have NE := Aside0.mk hn0e
  have EV := Aside0.mk hev
  have C0 := Aside0.mk hc0
  have R0 := Aside0.mk hr0
  have SS := Aside0.mk hss
  have NB := Aside0.mk hn0
  have h4 : w.cell? ⟨s, 4, none⟩ = some (.map (some bm)) := by rw [hH.cell]; rfl
  have H4 := Aside0.mk h4
  have HM := Aside0.mk hH.map
  clear hH hd hdv hev hc0 hr0 hss h4 hn0 hn0e
  go_enter Tryz.func151, Tryz.ntmps151
  go_wp2_with (first
    | (refine arm_box rfl 27 _ rfl (d.map bv) DV.out ?_; intro W b3 hb hW
       have hA : At W b3 27 (d.map bv) := by subst hW hb; exact At.new _ _ _
       have hB : Below w.heap.size w W := by subst hW; exact (Below.refl _ _).alloc (Nat.le_refl _) _
       have A := Aside0.mk hA
       have B := Aside0.mk hB
       have H4 := Aside0.mk (show W.cell? ⟨s, 4, none⟩ = some (.map (some bm)) by rw [hB.cell (World.block_lt_of_cell? _ _ H4.out)]; exact H4.out)
       have HM := Aside0.mk (HM.out.below hB HM.out.lt)
       clear hA hB hb hW)
    | fail)
  have hall : ∀ w', Below W.heap.size W w' → w'.cell? ⟨s, 4, none⟩ = some (.map (some bm)) ∧ (Instr.loadAt 27 (.pointer (some ⟨b3, 0, none⟩))).run Tryz.prog w' = .ok dv w' ∧
      (Instr.lookup 147 (.map (some bm)) dv true).run Tryz.prog w' = .ok (.tuple #[.agg #[.slice A0 n0 c0, .int .i64 k0], .bool (M d).isSome]) w' := by
    intro w' hB
    rw [← EV.out]
    refine ⟨by rw [hB.cell (World.block_lt_of_cell? _ _ H4.out)]; exact H4.out, ?_, (HM.out.below hB HM.out.lt).look digKeyed tu147 (zero232 _) (by rw [DV.out]; exact keyOf_dig d HD.out)⟩
    rw [DV.out]
    exact run_loadAt_mid w' b3 0 27 (d.map bv) (.array 32 5) (A.out.below hB A.out.lt).rangeAll tu27 rfl (by rw [List.length_map, HD.out]; exact size27)
  have HALL := Aside0.mk hall
  clear hall
  refine takes_region (S := fun w' => Below W.heap.size W w') (ds := [10, 11]) [(0, true), (1, true), (2, true), (3, false), (4, false), (5, false), (6, true), (7, true), (8, true)] 3 (by kernel_rfl) rfl (by kernel_rfl) (fun _ _ dd _ _ h => by cases dd <;> exact h) (Below.refl _ _).drew
    #[true, true, true, true, true, true, true, true, true, false, false, false] (by kernel_rfl) ?_
  refine tk (N := some 9) (v := ?vv1) (a' := ?aa1) rfl rfl rfl ?hr1 ?ha1 ?nx1
  case hr1 => (intro w' hS; first | (go_simp; with_reducible rfl) | (obtain hS | hS := hS; (· cases hS); have hF := HALL.out w' hS; go_simp; with_reducible rfl))
  case ha1 => (simp only [Act.put, List.setIfInBounds_toArray, List.set_cons_zero, List.set_cons_succ]; rfl)
  refine tk (N := some 10) (v := ?vv2) (a' := ?aa2) rfl rfl rfl ?hr2 ?ha2 ?nx2
  case hr2 => (intro w' hS; first | (go_simp; with_reducible rfl) | (obtain hS | hS := hS; (· cases hS); have hF := HALL.out w' hS; go_simp; with_reducible rfl))
  case ha2 => (simp only [Act.put, List.setIfInBounds_toArray, List.set_cons_zero, List.set_cons_succ]; rfl)
  refine tk (N := some 11) (v := ?vv3) (a' := ?aa3) rfl rfl rfl ?hr3 ?ha3 ?nx3
  case hr3 => (intro w' hS; first | (go_simp; with_reducible rfl) | (obtain hS | hS := hS; (· cases hS); have hF := HALL.out w' hS; go_simp; with_reducible rfl))
  case ha3 => (simp only [Act.put, List.setIfInBounds_toArray, List.set_cons_zero, List.set_cons_succ]; rfl)
  refine tk (N := some 12) (v := ?vv4) (a' := ?aa4) rfl rfl rfl ?hr4 ?ha4 ?nx4
  case hr4 => (intro w' hS; first | (go_simp; with_reducible rfl) | (obtain hS | hS := hS; (· cases hS); have hF := HALL.out w' hS; go_simp; with_reducible rfl))
  case ha4 => (simp only [Act.put, List.setIfInBounds_toArray, List.set_cons_zero, List.set_cons_succ]; rfl)
  refine tk (N := some 13) (v := ?vv5) (a' := ?aa5) rfl rfl rfl ?hr5 ?ha5 ?nx5
  case hr5 => (intro w' hS; have hF := (HALL.out w' (hS.resolve_left (by decide))).2.1; refine (run_load_op hF rfl rfl).trans ?_; with_reducible rfl)
  case ha5 => (simp only [Act.put, List.setIfInBounds_toArray, List.set_cons_zero, List.set_cons_succ]; rfl)
  refine tk (N := some 14) (v := ?vv6) (a' := ?aa6) rfl rfl rfl ?hr6 ?ha6 ?nx6
  case hr6 => (intro w' hS; first | (go_simp; with_reducible rfl) | (obtain hS | hS := hS; (· cases hS); have hF := HALL.out w' hS; go_simp; with_reducible rfl))
  case ha6 => (simp only [Act.put, List.setIfInBounds_toArray, List.set_cons_zero, List.set_cons_succ]; rfl)
  refine tk (N := some 8) (v := ?vv7) (a' := ?aa7) rfl rfl rfl ?hr7 ?ha7 ?nx7
  case hr7 => (intro w' hS; first | (go_simp; with_reducible rfl) | (obtain hS | hS := hS; (· cases hS); have hF := HALL.out w' hS; go_simp; with_reducible rfl))
  case ha7 => (simp only [Act.put, List.setIfInBounds_toArray, List.set_cons_zero, List.set_cons_succ]; rfl)
  refine tk (N := some 15) (v := ?vv8) (a' := ?aa8) rfl rfl rfl ?hr8 ?ha8 ?nx8
  case hr8 => (intro w' hS; first | (go_simp; with_reducible rfl) | (obtain hS | hS := hS; (· cases hS); have hF := HALL.out w' hS; go_simp; with_reducible rfl))
  case ha8 => (simp only [Act.put, List.setIfInBounds_toArray, List.set_cons_zero, List.set_cons_succ]; rfl)
  refine tk (N := some 16) (v := ?vv9) (a' := ?aa9) rfl rfl rfl ?hr9 ?ha9 ?nx9
  case hr9 => (intro w' hS; first | (go_simp; with_reducible rfl) | (obtain hS | hS := hS; (· cases hS); have hF := HALL.out w' hS; go_simp; with_reducible rfl))
  case ha9 => (simp only [Act.put, List.setIfInBounds_toArray, List.set_cons_zero, List.set_cons_succ]; rfl)
  refine takes_done ?_
  refine one_ (i := 9) (N := some 6) #[true, true, true, true, true, true, true, true, true, true, false, false] rfl rfl (by kernel_rfl) (by decide) (fun K hK => ?_)
  rw [if_pos (by rfl)]
  refine wpo_alloc (some 6) rfl 232 rfl _ _ info232 ?_
  intro W5 b5 hb hW
  have hN : At W5 b5 232 [.slice none 0 0, .int .i64 0] := by subst hW hb; exact At.new _ _ _
  have hB5 : Below W.heap.size W W5 := by subst hW; exact (Below.refl _ _).drew.alloc (Nat.le_refl _) _
  have L5 := Aside0.mk (show W.heap.size ≤ b5 by rw [hb]; exact Nat.le_refl _)
  have N5 := Aside0.mk hN
  have B5 := Aside0.mk hB5
  clear hN hb hW hB5
  refine hK _ _ B5.out (fun _ => ?_)
  clear hK K
  refine frame_ (a' := ?aa10) ?ha10 ?nx10
  case ha10 =>
    simp only [Go.Proofs.YtbpfmlckddhgbaaGreatDoorW.PrintLast.putAll, Act.put, List.setIfInBounds_toArray, List.set_cons_zero, List.set_cons_succ]
    rfl
  refine last_ (i := 10) (N := none) #[true, true, true, true, true, true, true, true, true, true, true, false] rfl rfl (by kernel_rfl) (by decide) (fun K hK => ?_)
  rw [if_pos (by rfl)]
  refine wpo_store_row none rfl 232 (.tmp 6) (.tmp 15) rfl b5 232 _ [.slice A0 n0 c0, .int .i64 k0] rfl rfl N5.out rfl (by kernel_rfl) (by intro v hv; simp at hv; rcases hv with rfl | rfl <;> rfl) ?_
  intro W6 hW
  have hN : At W6 b5 232 [.slice A0 n0 c0, .int .i64 k0] := by subst hW; exact N5.out.setRow _
  have hB : Below W.heap.size W W6 := by subst hW; exact below_setRow B5.out L5.out _
  have N5 := Aside0.mk hN
  have H4 := Aside0.mk (show W6.cell? ⟨s, 4, none⟩ = some (.map (some bm)) by rw [hB.cell (World.block_lt_of_cell? _ _ H4.out)]; exact H4.out)
  have HM := Aside0.mk (HM.out.below hB HM.out.lt)
  have A := Aside0.mk (A.out.below hB A.out.lt)
  have BI := Aside0.mk hB
  clear hN hW hB B5
  refine hK _ _ ?_
  clear hK K
  refine frame_ (a' := ?aa11) ?ha11 ?nx11
  case ha11 =>
    simp only [Go.Proofs.YtbpfmlckddhgbaaGreatDoorW.PrintLast.putAll, Act.put, List.setIfInBounds_toArray, List.set_cons_zero, List.set_cons_succ]
    rfl
  refine last_ (i := 11) (N := some 7) #[true, true, true, true, true, true, true, true, true, true, true, true] rfl rfl (by kernel_rfl) (by decide) (fun K hK => ?_)
  rw [if_pos (by rfl)]
  refine wpo_assign (some 7) rfl (.tmp 16) rfl (.bool (M d).isSome) rfl ?_
  refine hK _ _ ?_
  clear hK K
  refine frame_ (a' := ?aa12) ?ha12 ?nx12
  case ha12 =>
    simp only [Go.Proofs.YtbpfmlckddhgbaaGreatDoorW.PrintLast.putAll, Act.put, List.setIfInBounds_toArray, List.set_cons_zero, List.set_cons_succ]
    rfl
  refine done_ (by kernel_rfl) ?_
  have B := Aside0.mk (B.out.trans (BI.out.mono B.out.size))
  have k5 : W6.cell? ⟨b5, 0, none⟩ = some (.slice A0 n0 c0) := by rw [N5.out.cell]; rfl
  go_wp2_with (first
    | (go_at_call 71
       have hcall := clone_calls W6 A0 c0 (σ.data d) (R0.out.below B.out) (by rw [← NE.out]; have := NB.out; omega)
       rw [← NE.out] at hcall
       refine hcall.mono ?_
       rintro e wz ⟨v', rfl, hO, hF, hB⟩
       clear hcall
       have HO := Aside0.mk hO
       have HF := Aside0.mk hF
       have HB := Aside0.mk hB
       clear hO hF hB)
    | fail)
  go_ret2
  rw [SS.out]
  exact ⟨v', rfl, HO.out, fun k hk => Nat.le_trans B.out.size (HF.out k hk), B.out.trans (HB.out.mono B.out.size)⟩
end Go.Proofs.YtbpfmlckddhgbaaGreatDoor
/- Digests compared. -/
namespace Go.Proofs.YtbpfmlckddhgbaaGreatDoor
open Go Go.RowKit Go.Maps Go.Proofs.YtbpfmlckddhgbaaGreatDoorW.PrintWords Go.Proofs.YtbpfmlckddhgbaaGreatDoorW.PrintLast
theorem eql_dig (w : World) (x y : List UInt8) (hx : x.length = 32) (hy : y.length = 32) : (binOp .eql 27 (digV x) (digV y)).run Tryz.prog w = .ok (.bool (x == y)) w := by
  have h1 := keyOf_dig x hx
  have h2 := keyOf_dig y hy
  have h := run_equal_deep w (m := 2) (by omega) (k := 27) (by kernel_rfl) (by kernel_rfl) h1 h2
  obtain ⟨r, hr, hiff⟩ := h
  have e : r = (x == y) := by
    rw [Bool.eq_iff_iff, hiff, beq_iff_eq]
    constructor
    · intro h; injection h
    · intro h; rw [h]
  subst e
  unfold digV at hr ⊢
  rw [run_eql_struct]
  have hr2 : (Op.equalIn 10000 27 (.agg (x.map bv).toArray) (.agg (y.map bv).toArray)).run Tryz.prog w = .ok (x == y) w := hr
  rw [hr2]
  rfl
theorem eqg_dig (w : World) (a b : Operand) (x y : List UInt8) : (eqGuard .eql 27 a b (digV x) (digV y)).run Tryz.prog w = .ok () w := run_eqGuard_agg _ _ _ _ _ _ _ (by kernel_rfl)
theorem width_calls (w : World) (s bm : Nat) (σ : Sto) (M : MapF) (hH : HSt w s bm σ M) : Calls Tryz.prog 82 #[.pointer (some ⟨s, 0, none⟩)] w fun e w' => e = .returned (.int .i64 (σ.width : Int)) ∧ w' = w := by
  have h0 : w.cell? ⟨s, 0, none⟩ = some (.int .i64 (σ.width : Int)) := by rw [hH.cell]; rfl
  clear hH
  go_enter Tryz.func82, Tryz.ntmps82
  go_wp2_with fail
  go_ret
  exact ⟨rfl, rfl⟩
theorem len_calls (w : World) (s bm : Nat) (σ : Sto) (M : MapF) (hH : HSt w s bm σ M) : Calls Tryz.prog 31 #[.pointer (some ⟨s, 0, none⟩)] w fun e w' => e = .returned (.int .i64 (σ.sz : Int)) ∧ w' = w := by
  have h4 : w.cell? ⟨s, 4, none⟩ = some (.map (some bm)) := by rw [hH.cell]; rfl
  have hlen : ∀ ty, (Builtin.len_ #[147] ty #[.map (some bm)]).run Tryz.prog w = .ok (.int .i64 (σ.sz : Int)) w := fun ty => hH.map.len tu147 ty
  clear hH
  go_enter Tryz.func31, Tryz.ntmps31
  go_wp2_with (simp only [hlen])
  go_ret
  exact ⟨rfl, rfl⟩
def Sto.empty (wd : Nat) (cap : Int) : Sto := ⟨wd, cap, 0, 0, 0, 0, fun _ => none, 0⟩
theorem capable_calls (c : Int) (w : World) (h1 : 0 ≤ c) (h2 : c ≤ 67108864) : Calls Tryz.prog 88 #[.int .i64 c] w fun e w' => e = .returned (.bool true) ∧ w' = w := by
  have t1 : decide (0 ≤ c) = true := decide_eq_true h1
  have t2 : decide (c ≤ 67108864) = true := decide_eq_true h2
  go_enter Tryz.func88, Tryz.ntmps88
  go_wp2_with fail
  go_ret
  exact ⟨by simp, rfl⟩
set_option maxRecDepth 4000 in
theorem snew_calls (w : World) (wd : Nat) (cap : Int) (h1 : 1 ≤ wd) (h2 : wd ≤ 32) (h3 : 0 ≤ cap) (h4 : cap ≤ 67108864) :
    Calls Tryz.prog 32 #[.int .i64 (wd : Int), .int .i64 cap] w fun e w' => ∃ s bm, e = .returned (.tuple #[.pointer (some ⟨s, 0, none⟩), .int .i64 0]) ∧ HSt w' s bm (Sto.empty wd cap) (fun _ => none) ∧ w.heap.size ≤ s ∧ w.heap.size ≤ bm ∧ Below w.heap.size w w' := by
  have OK := Aside0.mk (show wOk (wd : Int) = true by unfold wOk; simp; omega)
  have Z := Aside0.mk (show zeroD.length = 32 by rfl)
  have hmm := @run_makeMap Tryz.prog
  have CL := Aside0.mk (cutD_len zeroD wd rfl h2)
  go_enter Tryz.func32, Tryz.ntmps32
  go_wp2_with (first
    | (refine arm_build rfl 27 _ rfl (List.replicate 32 (bv 0)) (by as_aux_lemma => kernel_rfl) ?_; intro v hv; have HV := Aside0.mk hv; clear hv)
    | (go_at_call 72
       rw [HV.out]
       refine (cut_calls _ zeroD (wd : Int) Z.out).mono ?_
       rintro e wa ⟨rfl, hB⟩
       rw [if_pos OK.out, Int.toNat_natCast]
       have B := Aside0.mk hB
       clear hB)
    | (refine arm_alloc rfl 27 rfl _ _ info27 ?_; intro W b6 hb hW
       have hN : At W b6 27 (List.replicate 32 (bv 0)) := by subst hW hb; exact At.new _ _ _
       have L6 := Aside0.mk (show w.heap.size ≤ b6 by rw [hb]; exact B.out.size)
       have B := Aside0.mk (show Below w.heap.size w W by subst hW; exact B.out.alloc B.out.size _)
       have N := Aside0.mk hN
       clear hN hb hW)
    | (refine arm_store_row rfl 27 _ _ rfl b6 27 _ ((cutD zeroD wd).map bv) rfl rfl N.out (by rw [List.length_map, CL.out]; rfl) (by rw [List.length_map, CL.out]; exact size27) (one_bv _) ?_
       intro W hW
       have B := Aside0.mk (show Below w.heap.size w W by subst hW; exact below_setRow B.out L6.out _)
       clear hW)
    | (go_at_call 88; refine (capable_calls cap _ h3 h4).mono ?_; rintro e wz ⟨rfl, rfl⟩)
    | fail)
  go_ret2
  refine ⟨wz.heap.size + 1, wz.heap.size, rfl, ⟨?_, ?_, by omega, ⟨h1, h2⟩, fun d ds k h => (by cases h), fun _ _ => rfl⟩, Nat.le_trans B.out.size (by omega), B.out.size, ?_⟩
  · have e := At.new (wz.alloc (.map #[] 0)) 149 #[.int .i64 (wd : Int), .int .i64 cap, .int .i64 0, .int .i64 0, .map (some wz.heap.size), .int .i64 0, .int .i64 0]
    have e2 : (wz.alloc (.map #[] 0)).heap.size = wz.heap.size + 1 := by simp
    rw [e2] at e
    exact e
  · exact (OMap.new wz 27).below ((Below.refl (wz.alloc (.map #[] 0)).heap.size _).alloc (Nat.le_refl _) _) (by simp)
  · exact (B.out.alloc B.out.size _).alloc (Nat.le_trans B.out.size (by simp)) _
end Go.Proofs.YtbpfmlckddhgbaaGreatDoor
/- cas: Whole, Get. (Printed by tools/gen_cas3.py.) -/
namespace Go.Proofs.YtbpfmlckddhgbaaGreatDoor
set_option linter.unusedSimpArgs false
open Go Go.RowKit Go.Maps Go.Proofs.YtbpfmlckddhgbaaGreatDoorW.PrintWords Go.Proofs.YtbpfmlckddhgbaaGreatDoorW.PrintLast
def Sto.whole (σ : Sto) (d : List UInt8) : Bool := (σ.m d).isSome && (digL σ.width (σ.data d) == d)
set_option maxRecDepth 4000 in
set_option maxHeartbeats 1000000 in
theorem whole_calls (w : World) (s bm : Nat) (σ : Sto) (M : MapF) (d : List UInt8) (hH : HSt w s bm σ M) (hd : d.length = 32) :
    Calls Tryz.prog 150 #[.pointer (some ⟨s, 0, none⟩), digV d] w fun e w' => e = .returned (.bool (σ.whole d)) ∧ Below w.heap.size w w' := by
  have HH := Aside0.mk hH
  have HD := Aside0.mk hd
  obtain ⟨dv, hdv⟩ : ∃ dv, dv = digV d := ⟨_, rfl⟩
  rw [← hdv]
  have DV := Aside0.mk hdv
  obtain ⟨A0, c0, hev, hc0, hn0, hr0⟩ := hH.got d
  rw [show (((σ.m d).map (·.1)).getD []) = σ.data d from rfl] at hev hc0 hn0 hr0
  have hss := hH.isSome d
  generalize (((σ.m d).map (·.2)).getD 0) = k0 at hev
  obtain ⟨n0, hn0e⟩ : ∃ n0, n0 = (σ.data d).length := ⟨_, rfl⟩
  rw [← hn0e] at hev hc0 hn0
  have NE := Aside0.mk hn0e
  have EV := Aside0.mk hev
  have C0 := Aside0.mk hc0
  have R0 := Aside0.mk hr0
  have SS := Aside0.mk hss
  have NB := Aside0.mk hn0
  have h4 : w.cell? ⟨s, 4, none⟩ = some (.map (some bm)) := by rw [hH.cell]; rfl
  have H4 := Aside0.mk h4
  have HM := Aside0.mk hH.map
  clear hH hd hdv hev hc0 hr0 hss h4 hn0 hn0e
  have WD := Aside0.mk HH.out.wd
  have h0 : w.cell? ⟨s, 0, none⟩ = some (.int .i64 (σ.width : Int)) := by rw [HH.out.cell]; rfl
  have H0 := Aside0.mk h0
  clear h0
  go_enter Tryz.func150, Tryz.ntmps150
  go_wp2_with (first
    | (refine arm_box rfl 27 _ rfl (d.map bv) DV.out ?_; intro W b3 hb hW
       have hA : At W b3 27 (d.map bv) := by subst hW hb; exact At.new _ _ _
       have hB : Below w.heap.size w W := by subst hW; exact (Below.refl _ _).alloc (Nat.le_refl _) _
       have A := Aside0.mk hA
       have B := Aside0.mk hB
       have H4 := Aside0.mk (show W.cell? ⟨s, 4, none⟩ = some (.map (some bm)) by rw [hB.cell (World.block_lt_of_cell? _ _ H4.out)]; exact H4.out)
       have HM := Aside0.mk (HM.out.below hB HM.out.lt)
       clear hA hB hb hW)
    | fail)
  have hall : ∀ w', Below W.heap.size W w' → w'.cell? ⟨s, 4, none⟩ = some (.map (some bm)) ∧ (Instr.loadAt 27 (.pointer (some ⟨b3, 0, none⟩))).run Tryz.prog w' = .ok dv w' ∧
      (Instr.lookup 147 (.map (some bm)) dv true).run Tryz.prog w' = .ok (.tuple #[.agg #[.slice A0 n0 c0, .int .i64 k0], .bool (M d).isSome]) w' := by
    intro w' hB
    rw [← EV.out]
    refine ⟨by rw [hB.cell (World.block_lt_of_cell? _ _ H4.out)]; exact H4.out, ?_, (HM.out.below hB HM.out.lt).look digKeyed tu147 (zero232 _) (by rw [DV.out]; exact keyOf_dig d HD.out)⟩
    rw [DV.out]
    exact run_loadAt_mid w' b3 0 27 (d.map bv) (.array 32 5) (A.out.below hB A.out.lt).rangeAll tu27 rfl (by rw [List.length_map, HD.out]; exact size27)
  have HALL := Aside0.mk hall
  clear hall
  refine takes_region (S := fun w' => Below W.heap.size W w') (ds := [10, 11]) [(0, true), (1, true), (2, true), (3, false), (4, false), (5, false), (6, true), (7, true), (8, true)] 3 (by kernel_rfl) rfl (by kernel_rfl) (fun _ _ dd _ _ h => by cases dd <;> exact h) (Below.refl _ _).drew
    #[true, true, true, true, true, true, true, true, true, false, false, false] (by kernel_rfl) ?_
  refine tk (N := some 8) (v := ?vv1) (a' := ?aa1) rfl rfl rfl ?hr1 ?ha1 ?nx1
  case hr1 => (intro w' hS; first | (go_simp; with_reducible rfl) | (obtain hS | hS := hS; (· cases hS); have hF := HALL.out w' hS; go_simp; with_reducible rfl))
  case ha1 => (simp only [Act.put, List.setIfInBounds_toArray, List.set_cons_zero, List.set_cons_succ]; rfl)
  refine tk (N := some 9) (v := ?vv2) (a' := ?aa2) rfl rfl rfl ?hr2 ?ha2 ?nx2
  case hr2 => (intro w' hS; first | (go_simp; with_reducible rfl) | (obtain hS | hS := hS; (· cases hS); have hF := HALL.out w' hS; go_simp; with_reducible rfl))
  case ha2 => (simp only [Act.put, List.setIfInBounds_toArray, List.set_cons_zero, List.set_cons_succ]; rfl)
  refine tk (N := some 10) (v := ?vv3) (a' := ?aa3) rfl rfl rfl ?hr3 ?ha3 ?nx3
  case hr3 => (intro w' hS; first | (go_simp; with_reducible rfl) | (obtain hS | hS := hS; (· cases hS); have hF := HALL.out w' hS; go_simp; with_reducible rfl))
  case ha3 => (simp only [Act.put, List.setIfInBounds_toArray, List.set_cons_zero, List.set_cons_succ]; rfl)
  refine tk (N := some 11) (v := ?vv4) (a' := ?aa4) rfl rfl rfl ?hr4 ?ha4 ?nx4
  case hr4 => (intro w' hS; first | (go_simp; with_reducible rfl) | (obtain hS | hS := hS; (· cases hS); have hF := HALL.out w' hS; go_simp; with_reducible rfl))
  case ha4 => (simp only [Act.put, List.setIfInBounds_toArray, List.set_cons_zero, List.set_cons_succ]; rfl)
  refine tk (N := some 12) (v := ?vv5) (a' := ?aa5) rfl rfl rfl ?hr5 ?ha5 ?nx5
  case hr5 => (intro w' hS; have hF := (HALL.out w' (hS.resolve_left (by decide))).2.1; refine (run_load_op hF rfl rfl).trans ?_; with_reducible rfl)
  case ha5 => (simp only [Act.put, List.setIfInBounds_toArray, List.set_cons_zero, List.set_cons_succ]; rfl)
  refine tk (N := some 13) (v := ?vv6) (a' := ?aa6) rfl rfl rfl ?hr6 ?ha6 ?nx6
  case hr6 => (intro w' hS; first | (go_simp; with_reducible rfl) | (obtain hS | hS := hS; (· cases hS); have hF := HALL.out w' hS; go_simp; with_reducible rfl))
  case ha6 => (simp only [Act.put, List.setIfInBounds_toArray, List.set_cons_zero, List.set_cons_succ]; rfl)
  refine tk (N := some 7) (v := ?vv7) (a' := ?aa7) rfl rfl rfl ?hr7 ?ha7 ?nx7
  case hr7 => (intro w' hS; first | (go_simp; with_reducible rfl) | (obtain hS | hS := hS; (· cases hS); have hF := HALL.out w' hS; go_simp; with_reducible rfl))
  case ha7 => (simp only [Act.put, List.setIfInBounds_toArray, List.set_cons_zero, List.set_cons_succ]; rfl)
  refine tk (N := some 14) (v := ?vv8) (a' := ?aa8) rfl rfl rfl ?hr8 ?ha8 ?nx8
  case hr8 => (intro w' hS; first | (go_simp; with_reducible rfl) | (obtain hS | hS := hS; (· cases hS); have hF := HALL.out w' hS; go_simp; with_reducible rfl))
  case ha8 => (simp only [Act.put, List.setIfInBounds_toArray, List.set_cons_zero, List.set_cons_succ]; rfl)
  refine tk (N := some 15) (v := ?vv9) (a' := ?aa9) rfl rfl rfl ?hr9 ?ha9 ?nx9
  case hr9 => (intro w' hS; first | (go_simp; with_reducible rfl) | (obtain hS | hS := hS; (· cases hS); have hF := HALL.out w' hS; go_simp; with_reducible rfl))
  case ha9 => (simp only [Act.put, List.setIfInBounds_toArray, List.set_cons_zero, List.set_cons_succ]; rfl)
  refine takes_done ?_
  refine one_ (i := 9) (N := some 5) #[true, true, true, true, true, true, true, true, true, true, false, false] rfl rfl (by kernel_rfl) (by decide) (fun K hK => ?_)
  rw [if_pos (by rfl)]
  refine wpo_alloc (some 5) rfl 232 rfl _ _ info232 ?_
  intro W5 b5 hb hW
  have hN : At W5 b5 232 [.slice none 0 0, .int .i64 0] := by subst hW hb; exact At.new _ _ _
  have hB5 : Below W.heap.size W W5 := by subst hW; exact (Below.refl _ _).drew.alloc (Nat.le_refl _) _
  have L5 := Aside0.mk (show W.heap.size ≤ b5 by rw [hb]; exact Nat.le_refl _)
  have N5 := Aside0.mk hN
  have B5 := Aside0.mk hB5
  clear hN hb hW hB5
  refine hK _ _ B5.out (fun _ => ?_)
  clear hK K
  refine frame_ (a' := ?aa16) ?ha16 ?nx16
  case ha16 =>
    simp only [Go.Proofs.YtbpfmlckddhgbaaGreatDoorW.PrintLast.putAll, Act.put, List.setIfInBounds_toArray, List.set_cons_zero, List.set_cons_succ]
    rfl
  refine last_ (i := 10) (N := none) #[true, true, true, true, true, true, true, true, true, true, true, false] rfl rfl (by kernel_rfl) (by decide) (fun K hK => ?_)
  rw [if_pos (by rfl)]
  refine wpo_store_row none rfl 232 (.tmp 5) (.tmp 14) rfl b5 232 _ [.slice A0 n0 c0, .int .i64 k0] rfl rfl N5.out rfl (by kernel_rfl) (by intro v hv; simp at hv; rcases hv with rfl | rfl <;> rfl) ?_
  intro W6 hW
  have hN : At W6 b5 232 [.slice A0 n0 c0, .int .i64 k0] := by subst hW; exact N5.out.setRow _
  have hB : Below W.heap.size W W6 := by subst hW; exact below_setRow B5.out L5.out _
  have N5 := Aside0.mk hN
  have H4 := Aside0.mk (show W6.cell? ⟨s, 4, none⟩ = some (.map (some bm)) by rw [hB.cell (World.block_lt_of_cell? _ _ H4.out)]; exact H4.out)
  have HM := Aside0.mk (HM.out.below hB HM.out.lt)
  have A := Aside0.mk (A.out.below hB A.out.lt)
  have BI := Aside0.mk hB
  clear hN hW hB B5
  refine hK _ _ ?_
  clear hK K
  refine frame_ (a' := ?aa17) ?ha17 ?nx17
  case ha17 =>
    simp only [Go.Proofs.YtbpfmlckddhgbaaGreatDoorW.PrintLast.putAll, Act.put, List.setIfInBounds_toArray, List.set_cons_zero, List.set_cons_succ]
    rfl
  refine last_ (i := 11) (N := some 6) #[true, true, true, true, true, true, true, true, true, true, true, true] rfl rfl (by kernel_rfl) (by decide) (fun K hK => ?_)
  rw [if_pos (by rfl)]
  refine wpo_assign (some 6) rfl (.tmp 15) rfl (.bool (M d).isSome) rfl ?_
  refine hK _ _ ?_
  clear hK K
  refine frame_ (a' := ?aa18) ?ha18 ?nx18
  case ha18 =>
    simp only [Go.Proofs.YtbpfmlckddhgbaaGreatDoorW.PrintLast.putAll, Act.put, List.setIfInBounds_toArray, List.set_cons_zero, List.set_cons_succ]
    rfl
  refine done_ (by kernel_rfl) ?_
  have B := Aside0.mk (B.out.trans (BI.out.mono B.out.size))
  cases hb : (M d).isSome with
  | false =>
    have hs : σ.whole d = false := by unfold Sto.whole; rw [← SS.out, hb]; rfl
    have HS := Aside0.mk hs
    clear hs
    go_wp2_with fail
    go_quiet (fail)
    go_wp2_with fail
    go_ret
    rw [HS.out]
    exact ⟨rfl, B.out.trans ⟨rfl, rfl, rfl, Nat.le_refl _, fun _ _ => rfl⟩⟩
  | true =>
    have hs : σ.whole d = (digL σ.width (σ.data d) == d) := by unfold Sto.whole; rw [← SS.out, hb]; rfl
    have HS := Aside0.mk hs
    have hdl := digL_len σ.width (σ.data d) WD.out.2
    obtain ⟨x, hx⟩ : ∃ x, x = digL σ.width (σ.data d) := ⟨_, rfl⟩
    rw [← hx] at hdl
    have X := Aside0.mk hx
    have heq : ∀ w, (binOp .eql 27 (digV x) dv).run Tryz.prog w = .ok (.bool (x == d)) w := fun w => by rw [DV.out]; exact eql_dig w x d hdl HD.out
    have heg : ∀ a b w, (eqGuard .eql 27 a b (digV x) dv).run Tryz.prog w = .ok () w := fun a b w => by rw [DV.out]; exact eqg_dig w a b x d
    clear hs hx hdl
    have hall : ∀ w', Below W6.heap.size W6 w' → w'.cell? ⟨b5, 0, none⟩ = some (.slice A0 n0 c0) ∧ (Instr.loadAt 27 (.pointer (some ⟨b3, 0, none⟩))).run Tryz.prog w' = .ok dv w' := by
      intro w' hB
      refine ⟨by rw [hB.cell (p := ⟨b5, 0, none⟩) N5.out.lt, N5.out.cell]; rfl, ?_⟩
      rw [DV.out]
      exact run_loadAt_mid w' b3 0 27 (d.map bv) (.array 32 5) (A.out.below hB A.out.lt).rangeAll tu27 rfl (by rw [List.length_map, HD.out]; exact size27)
    have HALL := Aside0.mk hall
    clear hall
    go_wp2_with fail
    have hS0 : Below W6.heap.size W6 W6.drew := (Below.refl _ _).drew
    refine takes_region (S := fun w' => Below W6.heap.size W6 w') (ds := []) [(0, true), (1, true), (2, true), (3, true), (4, false), (6, false)] 4 (by kernel_rfl) rfl (by kernel_rfl) (fun _ _ dd _ _ h => by cases dd <;> exact h) hS0
      #[true, true, true, true, true, false, true, false, false, false] (by kernel_rfl) ?_
    refine tk (N := some 16) (v := ?vv10) (a' := ?aa10) rfl rfl rfl ?hr10 ?ha10 ?nx10
    case hr10 => (intro w' hS; first | (go_simp; with_reducible rfl) | (obtain hS | hS := hS; (· cases hS); have hF := HALL.out w' hS; go_simp; with_reducible rfl))
    case ha10 => (simp only [Act.put, List.setIfInBounds_toArray, List.set_cons_zero, List.set_cons_succ]; rfl)
    refine tk (N := some 17) (v := ?vv11) (a' := ?aa11) rfl rfl rfl ?hr11 ?ha11 ?nx11
    case hr11 => (intro w' hS; first | (go_simp; with_reducible rfl) | (obtain hS | hS := hS; (· cases hS); have hF := HALL.out w' hS; go_simp; with_reducible rfl))
    case ha11 => (simp only [Act.put, List.setIfInBounds_toArray, List.set_cons_zero, List.set_cons_succ]; rfl)
    refine tk (N := some 18) (v := ?vv12) (a' := ?aa12) rfl rfl rfl ?hr12 ?ha12 ?nx12
    case hr12 => (intro w' hS; first | (go_simp; with_reducible rfl) | (obtain hS | hS := hS; (· cases hS); have hF := HALL.out w' hS; go_simp; with_reducible rfl))
    case ha12 => (simp only [Act.put, List.setIfInBounds_toArray, List.set_cons_zero, List.set_cons_succ]; rfl)
    refine tk (N := some 19) (v := ?vv13) (a' := ?aa13) rfl rfl rfl ?hr13 ?ha13 ?nx13
    case hr13 => (intro w' hS; first | (go_simp; with_reducible rfl) | (obtain hS | hS := hS; (· cases hS); have hF := HALL.out w' hS; go_simp; with_reducible rfl))
    case ha13 => (simp only [Act.put, List.setIfInBounds_toArray, List.set_cons_zero, List.set_cons_succ]; rfl)
    refine tk (N := some 20) (v := ?vv14) (a' := ?aa14) rfl rfl rfl ?hr14 ?ha14 ?nx14
    case hr14 => (intro w' hS; first | (go_simp; with_reducible rfl) | (obtain hS | hS := hS; (· cases hS); have hF := HALL.out w' hS; go_simp; with_reducible rfl))
    case ha14 => (simp only [Act.put, List.setIfInBounds_toArray, List.set_cons_zero, List.set_cons_succ]; rfl)
    refine tk (N := some 22) (v := ?vv15) (a' := ?aa15) rfl rfl rfl ?hr15 ?ha15 ?nx15
    case hr15 => (intro w' hS; have hF := (HALL.out w' (hS.resolve_left (by decide))).2; refine (run_load_op hF rfl rfl).trans ?_; with_reducible rfl)
    case ha15 => (simp only [Act.put, List.setIfInBounds_toArray, List.set_cons_zero, List.set_cons_succ]; rfl)
    refine takes_done ?_
    refine one_ (i := 5) (N := some 21) #[true, true, true, true, true, true, true, false, false, false] rfl rfl (by kernel_rfl) (by decide) (fun K hK => ?_)
    refine goes_ Tryz.func146 (by kernel_rfl) rfl #[.pointer (some ⟨s, 0, none⟩), .slice A0 n0 c0] (by rfl) rfl rfl (by simp only [List.map_toArray, List.map_cons, List.map_nil]; rfl) ?_
    have hcall := digest_calls W6.drew s σ.width A0 c0 (σ.data d) (by rw [World.cell?_drew, B.out.cell (World.block_lt_of_cell? _ _ H0.out)]; exact H0.out) WD.out.1 WD.out.2 (R0.out.below B.out.drew) (by rw [← NE.out]; have := NB.out; omega) (by rw [← NE.out]; exact C0.out)
    rw [← NE.out, ← X.out] at hcall
    refine hcall.mono ?_
    rintro e wz ⟨rfl, hB⟩
    clear hcall
    refine ⟨_, rfl, ?_⟩
    have B := Aside0.mk (B.out.drew.trans (hB.mono B.out.size))
    refine hK _ _ (hS0.trans (hB.mono hS0.size)) (fun _ => ?_)
    clear hK K hB hS0
    refine frame_ (a' := ?aa19) ?ha19 ?nx19
    case ha19 =>
      simp only [Go.Proofs.YtbpfmlckddhgbaaGreatDoorW.PrintLast.putAll, Act.put, List.setIfInBounds_toArray, List.set_cons_zero, List.set_cons_succ]
      rfl
    refine pure_ (i := 7) (N := some 23) (v := .bool (x == d)) #[true, true, true, true, true, true, true, true, false, false] rfl rfl (by kernel_rfl) (fun _ _ _ h => h) (Or.inl ⟨by rfl, fun _ => by go_simp⟩) rfl ?_
    refine frame_ (a' := ?aa20) ?ha20 ?nx20
    case ha20 =>
      simp only [Go.Proofs.YtbpfmlckddhgbaaGreatDoorW.PrintLast.putAll, Act.put, List.setIfInBounds_toArray, List.set_cons_zero, List.set_cons_succ]
      rfl
    refine pure_ (i := 8) (N := some 24) (v := .bool (x == d)) #[true, true, true, true, true, true, true, true, true, false] rfl rfl (by kernel_rfl) (fun _ _ _ h => h) (Or.inl ⟨by rfl, fun _ => by go_simp⟩) rfl ?_
    refine frame_ (a' := ?aa21) ?ha21 ?nx21
    case ha21 =>
      simp only [Go.Proofs.YtbpfmlckddhgbaaGreatDoorW.PrintLast.putAll, Act.put, List.setIfInBounds_toArray, List.set_cons_zero, List.set_cons_succ]
      rfl
    refine pure_ (i := 9) (N := some 4) (v := .bool (x == d)) #[true, true, true, true, true, true, true, true, true, true] rfl rfl (by kernel_rfl) (fun _ _ _ h => h) (Or.inl ⟨by rfl, fun _ => by go_simp⟩) rfl ?_
    refine frame_ (a' := ?aa22) ?ha22 ?nx22
    case ha22 =>
      simp only [Go.Proofs.YtbpfmlckddhgbaaGreatDoorW.PrintLast.putAll, Act.put, List.setIfInBounds_toArray, List.set_cons_zero, List.set_cons_succ]
      rfl
    refine done_ (by kernel_rfl) ?_
    go_wp2_with fail
    go_ret
    rw [HS.out, ← X.out]
    exact ⟨rfl, B.out⟩
end Go.Proofs.YtbpfmlckddhgbaaGreatDoor
/- cas: Get. -/
namespace Go.Proofs.YtbpfmlckddhgbaaGreatDoor
open Go Go.RowKit Go.Maps Go.Proofs.YtbpfmlckddhgbaaGreatDoorW.PrintWords Go.Proofs.YtbpfmlckddhgbaaGreatDoorW.PrintLast
theorem HSt.own {w w1 : World} {s bm : Nat} {σ σ' : Sto} {M : MapF} (h : HSt w s bm σ M) (ho : Only (· = s) w.heap.size w w1) (hc : At w1 s 149 (stoCells σ' bm)) (h1 : σ'.width = σ.width) (h2 : σ'.m = σ.m) (h3 : σ'.sz = σ.sz) : HSt w1 s bm σ' M := by
  refine ⟨hc, by rw [h3]; exact h.map.only ho h.map.lt (fun e => h.ne e.symm), h.ne, by rw [h1]; exact h.wd, fun d ds k hd => ?_, fun d hd => h.gone d (by rw [← h2]; exact hd)⟩
  rw [h2] at hd
  obtain ⟨A, c, g1, g2, g3, g4⟩ := h.here d ds k hd
  refine ⟨A, c, g1, g2, g3, fun hne => ?_⟩
  obtain ⟨ad, e1, e2, e3, e4, e5⟩ := g4 hne
  exact ⟨ad, e1, Nat.lt_of_lt_of_le e2 ho.size, e3, e4, fun k hk => by rw [ho.cell (by rw [add_block]; exact e2) (by rw [add_block]; exact e3)]; exact e5 k hk⟩
def Sto.getE (σ : Sto) (d : List UInt8) : Int := if (σ.m d).isSome then (if σ.whole d then 0 else 42) else 41
def Sto.getV (σ : Sto) (d : List UInt8) : List UInt8 := if σ.whole d then σ.data d else []
theorem Sto.whole_some {σ : Sto} {d : List UInt8} (h : σ.whole d = true) : (σ.m d).isSome = true := by
  unfold Sto.whole at h; rw [Bool.and_eq_true] at h; exact h.1
set_option maxRecDepth 4000 in
theorem get_calls (w : World) (s bm : Nat) (σ : Sto) (M : MapF) (d : List UInt8) (hH : HSt w s bm σ M) (hd : d.length = 32) (hg0 : 0 ≤ σ.gets) (hg1 : σ.gets < 4611686018427387904) :
    Calls Tryz.prog 85 #[.pointer (some ⟨s, 0, none⟩), digV d] w fun e w' => ∃ v, e = .returned (.tuple #[v, .int .i64 (σ.getE d)]) ∧ Own w' 5 v ((σ.getV d).map bv) ∧ (∀ k, v.ownBlock = some k → w.heap.size ≤ k) ∧
      HSt w' s bm { σ with gets := σ.gets + 1 } M ∧ Only (· = s) w.heap.size w w' := by
  have HH := Aside0.mk hH
  have HD := Aside0.mk hd
  have D0 := Aside0.mk (show (d.map bv).length = 32 by rw [List.length_map]; exact hd)
  obtain ⟨dv, hdv⟩ : ∃ dv, dv = digV d := ⟨_, rfl⟩
  rw [← hdv]
  have DV := Aside0.mk hdv
  obtain ⟨σ', hσ⟩ : ∃ σ', σ' = { σ with gets := σ.gets + 1 } := ⟨_, rfl⟩
  have HS' := Aside0.mk hσ
  have e1 : σ'.m = σ.m := by rw [hσ]
  have e2 : σ'.whole d = σ.whole d := by rw [hσ]; rfl
  have e3 : σ'.data d = σ.data d := by rw [hσ]; rfl
  have E1 := Aside0.mk e1
  have E2 := Aside0.mk e2
  have E3 := Aside0.mk e3
  have e4 : stoCells σ' bm = (stoCells σ bm).set 5 (.int .i64 (σ.gets + 1)) := by rw [hσ]; rfl
  have E4 := Aside0.mk e4
  have e5 : σ'.width = σ.width ∧ σ'.sz = σ.sz := by rw [hσ]; exact ⟨rfl, rfl⟩
  have E5 := Aside0.mk e5
  rw [← hσ]
  generalize hgg : σ.gets = gg at hg0 hg1 e4
  have GG := Aside0.mk hgg
  clear hH hd hdv hσ e1 e2 e3 e4 e5 hgg
  obtain ⟨p, hp⟩ : ∃ p, p = (σ.m d).isSome := ⟨_, rfl⟩
  obtain ⟨q, hq⟩ : ∃ q, q = σ.whole d := ⟨_, rfl⟩
  have hgE : σ.getE d = if p then (if q then 0 else 42) else 41 := by unfold Sto.getE; rw [← hp, ← hq]
  have hgV : σ.getV d = if q then σ.data d else [] := by unfold Sto.getV; rw [← hq]
  have GE := Aside0.mk hgE
  have GV := Aside0.mk hgV
  have P0 := Aside0.mk hp
  have Q0 := Aside0.mk hq
  clear hp hq hgE hgV
  cases p
  · go_enter Tryz.func85, Tryz.ntmps85
    go_wp2_with (first
      | (refine arm_box rfl 27 _ rfl (d.map bv) DV.out ?_; intro W b3 hb hW
         have hA : At W b3 27 (d.map bv) := by subst hW hb; exact At.new _ _ _
         have hB : Below w.heap.size w W := by subst hW; exact (Below.refl _ _).alloc (Nat.le_refl _) _
         have hH := HH.out.below hB
         have k5 : W.cell? ⟨s, 5, none⟩ = some (.int .i64 gg) := by rw [hH.cell, ← GG.out]; rfl
         have f5 : W.frozen? ⟨s, 5, none⟩ = false := hH.cells.frozen _
         have L3 := Aside0.mk (show w.heap.size ≤ b3 ∧ b3 ≠ s from ⟨by rw [hb]; exact Nat.le_refl _, by have := HH.out.cells.lt; omega⟩)
         have hO : Only (· = s) w.heap.size w (W.setCell ⟨s, 5, none⟩ (.int .i64 (gg + 1))) := Only.setCell (S := (· = s)) (a := ⟨s, 5, none⟩) (Only.of_below hB) (.inl rfl) _
         have hS : HSt (W.setCell ⟨s, 5, none⟩ (.int .i64 (gg + 1))) s bm σ' M := hH.own (Only.setCell (S := (· = s)) (a := ⟨s, 5, none⟩) (Only.refl _ _ _) (.inl rfl) _) (by rw [E4.out, GG.out]; exact hH.cells.setCell 5 _) E5.out.1 E1.out E5.out.2
         have A := Aside0.mk (hA.setCell_other (a := ⟨s, 5, none⟩) L3.out.2 (.int .i64 (gg + 1)))
         have B := Aside0.mk hO
         have HH := Aside0.mk hS
         clear hA hB hH hb hW hO hS)
      | (refine arm_load_row rfl 27 _ rfl b3 0 rfl (d.map bv) A.out.rangeAll (by kernel_rfl) (by rw [D0.out]; exact size27) ?_
         intro v hv
         have hv : v = dv := hv.trans DV.out.symm
         subst v)
      | (go_at_call 149; rw [DV.out]; refine (has_calls _ s bm M σ'.sz d HD.out (by rw [HH.out.cell]; rfl) HH.out.map HH.out.shape).mono ?_; rintro e wz ⟨rfl, hB⟩
         rw [HH.out.isSome, E1.out, ← P0.out]; rw [← DV.out]
         have HH := Aside0.mk (HH.out.below hB)
         have A := Aside0.mk (A.out.below hB A.out.lt)
         have B := Aside0.mk (B.out.trans ((Only.of_below hB).mono (by first | exact B.out.size | exact Nat.le_trans B.out.size (Nat.le_refl _)) (fun _ _ h => h)))
         clear hB)
      | fail)
    go_ret2
    refine ⟨_, by rw [GE.out]; rfl, ?_, ?_, HH.out, B.out⟩
    · rw [GV.out]
      cases q
      · exact Own.nil _ _
      · exact absurd (Sto.whole_some Q0.out.symm) (by rw [← P0.out]; decide)
    · intro k hk; simp [Value.ownBlock] at hk
  cases q
  · go_enter Tryz.func85, Tryz.ntmps85
    go_wp2_with (first
      | (refine arm_box rfl 27 _ rfl (d.map bv) DV.out ?_; intro W b3 hb hW
         have hA : At W b3 27 (d.map bv) := by subst hW hb; exact At.new _ _ _
         have hB : Below w.heap.size w W := by subst hW; exact (Below.refl _ _).alloc (Nat.le_refl _) _
         have hH := HH.out.below hB
         have k5 : W.cell? ⟨s, 5, none⟩ = some (.int .i64 gg) := by rw [hH.cell, ← GG.out]; rfl
         have f5 : W.frozen? ⟨s, 5, none⟩ = false := hH.cells.frozen _
         have L3 := Aside0.mk (show w.heap.size ≤ b3 ∧ b3 ≠ s from ⟨by rw [hb]; exact Nat.le_refl _, by have := HH.out.cells.lt; omega⟩)
         have hO : Only (· = s) w.heap.size w (W.setCell ⟨s, 5, none⟩ (.int .i64 (gg + 1))) := Only.setCell (S := (· = s)) (a := ⟨s, 5, none⟩) (Only.of_below hB) (.inl rfl) _
         have hS : HSt (W.setCell ⟨s, 5, none⟩ (.int .i64 (gg + 1))) s bm σ' M := hH.own (Only.setCell (S := (· = s)) (a := ⟨s, 5, none⟩) (Only.refl _ _ _) (.inl rfl) _) (by rw [E4.out, GG.out]; exact hH.cells.setCell 5 _) E5.out.1 E1.out E5.out.2
         have A := Aside0.mk (hA.setCell_other (a := ⟨s, 5, none⟩) L3.out.2 (.int .i64 (gg + 1)))
         have B := Aside0.mk hO
         have HH := Aside0.mk hS
         clear hA hB hH hb hW hO hS)
      | (refine arm_load_row rfl 27 _ rfl b3 0 rfl (d.map bv) A.out.rangeAll (by kernel_rfl) (by rw [D0.out]; exact size27) ?_
         intro v hv
         have hv : v = dv := hv.trans DV.out.symm
         subst v)
      | (go_at_call 149; rw [DV.out]; refine (has_calls _ s bm M σ'.sz d HD.out (by rw [HH.out.cell]; rfl) HH.out.map HH.out.shape).mono ?_; rintro e wz ⟨rfl, hB⟩
         rw [HH.out.isSome, E1.out, ← P0.out]; rw [← DV.out]
         have HH := Aside0.mk (HH.out.below hB)
         have A := Aside0.mk (A.out.below hB A.out.lt)
         have B := Aside0.mk (B.out.trans ((Only.of_below hB).mono (by first | exact B.out.size | exact Nat.le_trans B.out.size (Nat.le_refl _)) (fun _ _ h => h)))
         clear hB)
      | (go_at_call 150; rw [DV.out]; refine (whole_calls _ s bm σ' M d HH.out HD.out).mono ?_; rintro e wz ⟨rfl, hB⟩
         rw [E2.out, ← Q0.out]; rw [← DV.out]
         have HH := Aside0.mk (HH.out.below hB)
         have A := Aside0.mk (A.out.below hB A.out.lt)
         have B := Aside0.mk (B.out.trans ((Only.of_below hB).mono (by first | exact B.out.size | exact Nat.le_trans B.out.size (Nat.le_refl _)) (fun _ _ h => h)))
         clear hB)
      | fail)
    go_ret2
    refine ⟨_, by rw [GE.out]; rfl, by rw [GV.out]; exact Own.nil _ _, ?_, HH.out, B.out⟩
    intro k hk; simp [Value.ownBlock] at hk
  · go_enter Tryz.func85, Tryz.ntmps85
    go_wp2_with (first
      | (refine arm_box rfl 27 _ rfl (d.map bv) DV.out ?_; intro W b3 hb hW
         have hA : At W b3 27 (d.map bv) := by subst hW hb; exact At.new _ _ _
         have hB : Below w.heap.size w W := by subst hW; exact (Below.refl _ _).alloc (Nat.le_refl _) _
         have hH := HH.out.below hB
         have k5 : W.cell? ⟨s, 5, none⟩ = some (.int .i64 gg) := by rw [hH.cell, ← GG.out]; rfl
         have f5 : W.frozen? ⟨s, 5, none⟩ = false := hH.cells.frozen _
         have L3 := Aside0.mk (show w.heap.size ≤ b3 ∧ b3 ≠ s from ⟨by rw [hb]; exact Nat.le_refl _, by have := HH.out.cells.lt; omega⟩)
         have hO : Only (· = s) w.heap.size w (W.setCell ⟨s, 5, none⟩ (.int .i64 (gg + 1))) := Only.setCell (S := (· = s)) (a := ⟨s, 5, none⟩) (Only.of_below hB) (.inl rfl) _
         have hS : HSt (W.setCell ⟨s, 5, none⟩ (.int .i64 (gg + 1))) s bm σ' M := hH.own (Only.setCell (S := (· = s)) (a := ⟨s, 5, none⟩) (Only.refl _ _ _) (.inl rfl) _) (by rw [E4.out, GG.out]; exact hH.cells.setCell 5 _) E5.out.1 E1.out E5.out.2
         have A := Aside0.mk (hA.setCell_other (a := ⟨s, 5, none⟩) L3.out.2 (.int .i64 (gg + 1)))
         have B := Aside0.mk hO
         have HH := Aside0.mk hS
         clear hA hB hH hb hW hO hS)
      | (refine arm_load_row rfl 27 _ rfl b3 0 rfl (d.map bv) A.out.rangeAll (by kernel_rfl) (by rw [D0.out]; exact size27) ?_
         intro v hv
         have hv : v = dv := hv.trans DV.out.symm
         subst v)
      | (go_at_call 149; rw [DV.out]; refine (has_calls _ s bm M σ'.sz d HD.out (by rw [HH.out.cell]; rfl) HH.out.map HH.out.shape).mono ?_; rintro e wz ⟨rfl, hB⟩
         rw [HH.out.isSome, E1.out, ← P0.out]; rw [← DV.out]
         have HH := Aside0.mk (HH.out.below hB)
         have A := Aside0.mk (A.out.below hB A.out.lt)
         have B := Aside0.mk (B.out.trans ((Only.of_below hB).mono (by first | exact B.out.size | exact Nat.le_trans B.out.size (Nat.le_refl _)) (fun _ _ h => h)))
         clear hB)
      | (go_at_call 150; rw [DV.out]; refine (whole_calls _ s bm σ' M d HH.out HD.out).mono ?_; rintro e wz ⟨rfl, hB⟩
         rw [E2.out, ← Q0.out]; rw [← DV.out]
         have HH := Aside0.mk (HH.out.below hB)
         have A := Aside0.mk (A.out.below hB A.out.lt)
         have B := Aside0.mk (B.out.trans ((Only.of_below hB).mono (by first | exact B.out.size | exact Nat.le_trans B.out.size (Nat.le_refl _)) (fun _ _ h => h)))
         clear hB)
      | (go_at_call 151; rw [DV.out]; refine (raw_calls _ s bm σ' M d HH.out HD.out).mono ?_; rintro e wz ⟨v6, rfl, hv1, hv2, hB⟩
         rw [E1.out, ← P0.out]; rw [← DV.out]
         have V6 := Aside0.mk (And.intro hv1 (fun k hk => Nat.le_trans B.out.size (hv2 k hk)))
         clear hv1 hv2
         have HH := Aside0.mk (HH.out.below hB)
         have A := Aside0.mk (A.out.below hB A.out.lt)
         have B := Aside0.mk (B.out.trans ((Only.of_below hB).mono (by first | exact B.out.size | exact Nat.le_trans B.out.size (Nat.le_refl _)) (fun _ _ h => h)))
         clear hB)
      | fail)
    go_ret2
    refine ⟨_, by rw [GE.out]; rfl, by rw [show σ.getV d = σ.data d from GV.out.trans (by first | exact if_pos trivial | exact if_pos rfl), ← E3.out]; exact V6.out.1, V6.out.2, HH.out, B.out⟩
end Go.Proofs.YtbpfmlckddhgbaaGreatDoor
/- cas: cost, lay. (Printed by tools/gen_cas5.py.) -/
namespace Go.Proofs.YtbpfmlckddhgbaaGreatDoor
set_option linter.unusedSimpArgs false
open Go Go.RowKit Go.Maps Go.Proofs.YtbpfmlckddhgbaaGreatDoorW.PrintWords Go.Proofs.YtbpfmlckddhgbaaGreatDoorW.PrintLast
theorem cost_calls (w : World) (A : Option Addr) (n c : Nat) (hn : n ≤ 1048576) : Calls Tryz.prog 203 #[.slice A n c] w fun e w' => e = .returned (.int .i64 ((n : Int) + 32)) ∧ w' = w := by
  go_enter Tryz.func203, Tryz.ntmps203
  go_wp2_with fail
  go_ret
  exact ⟨rfl, rfl⟩
section
variable {P : Program} {ops : Array Oper} {rest : List Oper} {o : Oper} {a : Act} {w : World} {Q : Exit → Act → World → Prop}
theorem arm_store_int (hg : o.guard = none) (ty : TypeId) (x y : Operand) (ho : o.op = .store ty x y) (p : Addr) (hx : a.eval x = .pointer (some p)) (k : IntKind) (i : Int) (hy : a.eval y = .int k i) (u : Value) (hc : w.cell? p = some u) (hf : w.frozen? p = false) (hi : (P.info? ty).map (·.size) = some 1) (hp : p.add 0 = p)
    (h : ∀ W, W = w.setCell p (.int k i) → wpList P ops Q rest (a.put o.dst undef) W) : wpList P ops Q (o :: rest) a w := by
  refine wpList_plain hg fun K hK => ?_
  have hr : (Instr.storeAt ty (.pointer (some p)) (.int k i)).run P w = .ok () (w.setCell p (.int k i)) := by
    cases hq : P.info? ty with
    | none => simp [hq] at hi
    | some inf =>
      have hs : inf.size = 1 := by simpa [hq] using hi
      have h2 : (store p (.int k i)).run P w = .ok () (w.setCell p (.int k i)) := by rw [run_store_int]; simp [stored, hc, hf]
      simp [h2, Instr.storeAt, Instr.sureAddr, storeVar, sizeOf, typeInfo, hq, Value.cells, hs, storeCells, Sem.run_bind, run_store, stored, hc, hf, hp]
  unfold Oper.wp
  simp [execOp, ho, hx, hy, hr, Result.andThen]
  exact hK _ _ (h _ rfl)
end
section
variable {o : Oper} {a : Act} {w : World} {KK : Act → World → Prop} {Q : Exit → Act → World → Prop}
theorem wpo_put (N : Option Tmp) (hN : o.dst = N) (m x v : Operand) (T : TypeId) (ho : o.op = Op.mapUpdate T m x v) (K E : TypeId) (hK : Keyed Tryz.prog K) (ht : Tryz.prog.underlying T = some (.map K E)) (b : Nat) (M : MapF) (sz : Nat)
    (hm : a.eval m = .map (some b)) (hown : OMap w K b M sz) (hn : sz < maxLen) (key val : Value) (d : List UInt8) (hx : a.eval x = key) (hv : a.eval v = val) (hkey : keyOf Tryz.prog K key = some (.string d))
    (h : ∀ W, OMap W K b (M.put d val) (if (M d).isSome then sz else sz + 1) → Only (· = b) w.heap.size w W → KK (a.put N undef) W) : o.wp Tryz.prog a w KK Q := by
  subst hN
  obtain ⟨D, h1, h2, h3, h4⟩ := hown
  obtain ⟨w', hrun, hown', hgr⟩ := h1.update hK ht hn hkey (show heldR val = some (.held val, []) from rfl)
  unfold Oper.wp
  simp [execOp, ho, hm, hx, hv, hrun, Result.andThen]
  have hs := OMap.put_spec (h1.tidy hK) h2 h3 h4 d val
  refine h w' ⟨_, ?_, hs.1, hs.2.1, hs.2.2⟩ ⟨hgr.os, hgr.tape, hgr.output, hgr.size, fun k hk hS => hgr.block k hk (fun e => hS (by injection e))⟩
  obtain ⟨es, clock, hb, F, hle, hD⟩ := hown'
  refine ⟨es, clock, hb, F, ?_, hD⟩
  have : Maps.size (D.put (.string d) (.held val)) = es.size := by
    rw [hD]; simp [Maps.size, length_sorted]
  rw [← hs.2.2, this]; exact Nat.le_refl _
end
def MOff (M : MapF) (b : Nat) : Prop := ∀ d ad n c k, M d = some (.agg #[.slice (some ad) n c, .int .i64 k]) → 0 < n → ad.block ≠ b
theorem HSt.off {w : World} {s bm : Nat} {σ : Sto} {M : MapF} (h : HSt w s bm σ M) {b : Nat} (hb : w.heap.size ≤ b) : MOff M b := fun d ad n c k hv hn => by
  cases hd : σ.m d with
  | none => rw [h.gone d hd] at hv; cases hv
  | some p =>
    obtain ⟨ds, k'⟩ := p
    obtain ⟨A', c', g1, g2, g3, g4⟩ := h.here d ds k' hd
    rw [g1] at hv
    have e : A' = some ad ∧ ds.length = n := by simp at hv; exact ⟨hv.1.1, hv.1.2.1⟩
    obtain ⟨ad', q1, q2, _⟩ := g4 (by intro h0; rw [h0] at e; have := e.2; simp at this; omega)
    rw [e.1] at q1; injection q1 with q1; subst q1; omega
theorem HSt.write {w w1 : World} {s bm b : Nat} {σ : Sto} {M : MapF} (h : HSt w s bm σ M) (ho : Only (· = b) w.heap.size w w1) (h1 : s ≠ b) (h2 : bm ≠ b) (h3 : MOff M b) : HSt w1 s bm σ M := by
  refine ⟨ho.at_ h.cells.lt h1 h.cells, h.map.only ho h.map.lt h2, h.ne, h.wd, fun d ds k hd => ?_, h.gone⟩
  obtain ⟨A', c', g1, g2, g3, g4⟩ := h.here d ds k hd
  refine ⟨A', c', g1, g2, g3, fun hne => ?_⟩
  obtain ⟨ad, q1, q2, q3, q4, q5⟩ := g4 hne
  subst q1
  have hb := h3 d ad _ c' k g1 (List.length_pos_iff.2 hne)
  exact ⟨ad, rfl, Nat.lt_of_lt_of_le q2 ho.size, q3, q4, fun k hk => by rw [ho.cell (by rw [add_block]; exact q2) (by rw [add_block]; exact hb)]; exact q5 k hk⟩
def Sto.laid (σ : Sto) (d ds : List UInt8) : Sto := { σ with used := σ.used + ((ds.length : Int) + 32), last := σ.last + 1, m := fun x => if x = d then some (ds, σ.last + 1) else σ.m x, sz := σ.sz + 1 }
set_option maxRecDepth 4000 in
theorem lay_calls (w : World) (s bm : Nat) (σ : Sto) (M : MapF) (d : List UInt8) (Ad : Option Addr) (cd : Nat) (ds : List UInt8) (hH : HSt w s bm σ M) (hd : d.length = 32) (hR : RdL w Ad ds) (hl : ds.length ≤ 1048576) (hc : ds.length ≤ cd) (hAs : ∀ ad, Ad = some ad → ad.block ≠ s)
    (hm : σ.m d = none) (hu0 : 0 ≤ σ.used) (hu : σ.used + ((ds.length : Int) + 32) ≤ σ.cap) (hcap : σ.cap ≤ 67108864) (hla : 0 ≤ σ.last) (hlb : σ.last < 4611686018427387904) (hsz : σ.sz < maxLen) :
    Calls Tryz.prog 148 #[.pointer (some ⟨s, 0, none⟩), digV d, .slice Ad ds.length cd] w fun e w' => e = .returned (.int .i64 0) ∧ (∃ M', HSt w' s bm (σ.laid d ds) M' ∧ ∀ b, b < w.heap.size → MOff M b → MOff M' b) ∧ Only (fun b => b = s ∨ b = bm) w.heap.size w w' := by
  obtain ⟨us, hus⟩ : ∃ us, us = σ.used := ⟨_, rfl⟩
  obtain ⟨la, hla'⟩ : ∃ la, la = σ.last := ⟨_, rfl⟩
  obtain ⟨ca, hca⟩ : ∃ ca, ca = σ.cap := ⟨_, rfl⟩
  obtain ⟨nd, hnd⟩ : ∃ nd, nd = ds.length := ⟨_, rfl⟩
  have US := Aside0.mk hus
  have LA := Aside0.mk hla'
  have CA := Aside0.mk hca
  have ND := Aside0.mk hnd
  have HC := Aside0.mk hc
  rw [← hus] at hu0 hu
  rw [← hca] at hu hcap
  rw [← hla'] at hla hlb
  rw [← hnd] at hl hu ⊢
  have hMd : (M d).isSome = false := by rw [hH.isSome, hm]; rfl
  have MD := Aside0.mk hMd
  have HM0s := Aside0.mk hH.cells.lt
  have HMb := Aside0.mk hH.map.lt
  have HM0 := Aside0.mk hm
  have RR := Aside0.mk hR
  have AS := Aside0.mk hAs
  have SZ := Aside0.mk hsz
  have t1 : decide (us + ((nd : Int) + 32) > ca) = false := decide_eq_false (by omega)
  clear hus hla' hca hnd hMd hm hR hsz hc hAs
  have HH := Aside0.mk hH
  have HD := Aside0.mk hd
  obtain ⟨dv, hdv⟩ : ∃ dv, dv = digV d := ⟨_, rfl⟩
  rw [← hdv]
  have DV := Aside0.mk hdv
  obtain ⟨A0, c0, hev, hc0, hn0, hr0⟩ := hH.got d
  rw [show (((σ.m d).map (·.1)).getD []) = σ.data d from rfl] at hev hc0 hn0 hr0
  have hss := hH.isSome d
  generalize (((σ.m d).map (·.2)).getD 0) = k0 at hev
  obtain ⟨n0, hn0e⟩ : ∃ n0, n0 = (σ.data d).length := ⟨_, rfl⟩
  rw [← hn0e] at hev hc0 hn0
  have NE := Aside0.mk hn0e
  have EV := Aside0.mk hev
  have C0 := Aside0.mk hc0
  have R0 := Aside0.mk hr0
  have SS := Aside0.mk hss
  have NB := Aside0.mk hn0
  have h4 : w.cell? ⟨s, 4, none⟩ = some (.map (some bm)) := by rw [hH.cell]; rfl
  have H4 := Aside0.mk h4
  have HM := Aside0.mk hH.map
  clear hH hd hdv hev hc0 hr0 hss h4 hn0 hn0e
  go_enter Tryz.func148, Tryz.ntmps148
  go_wp2_with (first
    | (refine arm_box rfl 27 _ rfl (d.map bv) DV.out ?_; intro W b3 hb hW
       have hA : At W b3 27 (d.map bv) := by subst hW hb; exact At.new _ _ _
       have hB : Below w.heap.size w W := by subst hW; exact (Below.refl _ _).alloc (Nat.le_refl _) _
       have A := Aside0.mk hA
       have B := Aside0.mk hB
       have H4 := Aside0.mk (show W.cell? ⟨s, 4, none⟩ = some (.map (some bm)) by rw [hB.cell (World.block_lt_of_cell? _ _ H4.out)]; exact H4.out)
       have HM := Aside0.mk (HM.out.below hB HM.out.lt)
       have L3 := Aside0.mk (show w.heap.size ≤ b3 ∧ b3 ≠ s from ⟨by rw [hb]; exact Nat.le_refl _, by have := HH.out.cells.lt; omega⟩)
       clear hA hB hb hW)
    | fail)
  have A5 := Aside0.mk (show w.heap.size ≤ b3 ∧ b3 ≠ s from L3.out)
  have HH := Aside0.mk (HH.out.below B.out)
  have k2 : W.cell? ⟨s, 2, none⟩ = some (.int .i64 us) := by rw [HH.out.cell, US.out]; rfl
  go_quiet ((go_at_call 203; exact Calls.quiet_of_same (cost_calls _ _ _ _ hl)))
  clear k2
  go_wp2_with fail
  generalize hW1 : W.drewN _ = W1
  have hD : Below W.heap.size W W1 := by subst hW1; exact ⟨rfl, rfl, rfl, Nat.le_refl _, fun _ _ => rfl⟩
  have HH := Aside0.mk (HH.out.below hD)
  have A := Aside0.mk (A.out.below hD A.out.lt)
  have H4 := Aside0.mk (show W1.cell? ⟨s, 4, none⟩ = some (.map (some bm)) by rw [hD.cell (World.block_lt_of_cell? _ _ H4.out)]; exact H4.out)
  have HM := Aside0.mk (HM.out.below hD HM.out.lt)
  have B := Aside0.mk (B.out.trans (hD.mono B.out.size))
  clear hD hW1
  have hall : ∀ w', Below W1.heap.size W1 w' → w'.cell? ⟨s, 4, none⟩ = some (.map (some bm)) ∧ (Instr.loadAt 27 (.pointer (some ⟨b3, 0, none⟩))).run Tryz.prog w' = .ok dv w' ∧
      (Instr.lookup 147 (.map (some bm)) dv true).run Tryz.prog w' = .ok (.tuple #[.agg #[.slice A0 n0 c0, .int .i64 k0], .bool (M d).isSome]) w' := by
    intro w' hB
    rw [← EV.out]
    refine ⟨by rw [hB.cell (World.block_lt_of_cell? _ _ H4.out)]; exact H4.out, ?_, (HM.out.below hB HM.out.lt).look digKeyed tu147 (zero232 _) (by rw [DV.out]; exact keyOf_dig d HD.out)⟩
    rw [DV.out]
    exact run_loadAt_mid w' b3 0 27 (d.map bv) (.array 32 5) (A.out.below hB A.out.lt).rangeAll tu27 rfl (by rw [List.length_map, HD.out]; exact size27)
  have HALL := Aside0.mk hall
  clear hall
  refine takes_region (S := fun w' => Below W1.heap.size W1 w') (ds := [10, 11]) [(0, true), (1, true), (2, true), (3, false), (4, false), (5, false), (6, true), (7, true), (8, true)] 3 (by kernel_rfl) rfl (by kernel_rfl) (fun _ _ dd _ _ h => by cases dd <;> exact h) (Below.refl _ _).drew
    #[true, true, true, true, true, true, true, true, true, false, false, false] (by kernel_rfl) ?_
  refine tk (N := some 18) (v := ?vv1) (a' := ?aa1) rfl rfl rfl ?hr1 ?ha1 ?nx1
  case hr1 => (intro w' hS; first | (go_simp; with_reducible rfl) | (obtain hS | hS := hS; (· cases hS); have hF := HALL.out w' hS; go_simp; with_reducible rfl))
  case ha1 => (simp only [Act.put, List.setIfInBounds_toArray, List.set_cons_zero, List.set_cons_succ]; rfl)
  refine tk (N := some 19) (v := ?vv2) (a' := ?aa2) rfl rfl rfl ?hr2 ?ha2 ?nx2
  case hr2 => (intro w' hS; first | (go_simp; with_reducible rfl) | (obtain hS | hS := hS; (· cases hS); have hF := HALL.out w' hS; go_simp; with_reducible rfl))
  case ha2 => (simp only [Act.put, List.setIfInBounds_toArray, List.set_cons_zero, List.set_cons_succ]; rfl)
  refine tk (N := some 20) (v := ?vv3) (a' := ?aa3) rfl rfl rfl ?hr3 ?ha3 ?nx3
  case hr3 => (intro w' hS; first | (go_simp; with_reducible rfl) | (obtain hS | hS := hS; (· cases hS); have hF := HALL.out w' hS; go_simp; with_reducible rfl))
  case ha3 => (simp only [Act.put, List.setIfInBounds_toArray, List.set_cons_zero, List.set_cons_succ]; rfl)
  refine tk (N := some 21) (v := ?vv4) (a' := ?aa4) rfl rfl rfl ?hr4 ?ha4 ?nx4
  case hr4 => (intro w' hS; first | (go_simp; with_reducible rfl) | (obtain hS | hS := hS; (· cases hS); have hF := HALL.out w' hS; go_simp; with_reducible rfl))
  case ha4 => (simp only [Act.put, List.setIfInBounds_toArray, List.set_cons_zero, List.set_cons_succ]; rfl)
  refine tk (N := some 22) (v := ?vv5) (a' := ?aa5) rfl rfl rfl ?hr5 ?ha5 ?nx5
  case hr5 => (intro w' hS; have hF := (HALL.out w' (hS.resolve_left (by decide))).2.1; refine (run_load_op hF rfl rfl).trans ?_; with_reducible rfl)
  case ha5 => (simp only [Act.put, List.setIfInBounds_toArray, List.set_cons_zero, List.set_cons_succ]; rfl)
  refine tk (N := some 23) (v := ?vv6) (a' := ?aa6) rfl rfl rfl ?hr6 ?ha6 ?nx6
  case hr6 => (intro w' hS; first | (go_simp; with_reducible rfl) | (obtain hS | hS := hS; (· cases hS); have hF := HALL.out w' hS; go_simp; with_reducible rfl))
  case ha6 => (simp only [Act.put, List.setIfInBounds_toArray, List.set_cons_zero, List.set_cons_succ]; rfl)
  refine tk (N := some 17) (v := ?vv7) (a' := ?aa7) rfl rfl rfl ?hr7 ?ha7 ?nx7
  case hr7 => (intro w' hS; first | (go_simp; with_reducible rfl) | (obtain hS | hS := hS; (· cases hS); have hF := HALL.out w' hS; go_simp; with_reducible rfl))
  case ha7 => (simp only [Act.put, List.setIfInBounds_toArray, List.set_cons_zero, List.set_cons_succ]; rfl)
  refine tk (N := some 24) (v := ?vv8) (a' := ?aa8) rfl rfl rfl ?hr8 ?ha8 ?nx8
  case hr8 => (intro w' hS; first | (go_simp; with_reducible rfl) | (obtain hS | hS := hS; (· cases hS); have hF := HALL.out w' hS; go_simp; with_reducible rfl))
  case ha8 => (simp only [Act.put, List.setIfInBounds_toArray, List.set_cons_zero, List.set_cons_succ]; rfl)
  refine tk (N := some 25) (v := ?vv9) (a' := ?aa9) rfl rfl rfl ?hr9 ?ha9 ?nx9
  case hr9 => (intro w' hS; first | (go_simp; with_reducible rfl) | (obtain hS | hS := hS; (· cases hS); have hF := HALL.out w' hS; go_simp; with_reducible rfl))
  case ha9 => (simp only [Act.put, List.setIfInBounds_toArray, List.set_cons_zero, List.set_cons_succ]; rfl)
  refine takes_done ?_
  refine one_ (i := 9) (N := some 8) #[true, true, true, true, true, true, true, true, true, true, false, false] rfl rfl (by kernel_rfl) (by decide) (fun K hK => ?_)
  rw [if_pos (by rfl)]
  refine wpo_alloc (some 8) rfl 232 rfl _ _ info232 ?_
  intro W5 b5 hb hW
  have hN : At W5 b5 232 [.slice none 0 0, .int .i64 0] := by subst hW hb; exact At.new _ _ _
  have hB5 : Below W1.heap.size W1 W5 := by subst hW; exact (Below.refl _ _).drew.alloc (Nat.le_refl _) _
  have L5 := Aside0.mk (show W1.heap.size ≤ b5 by rw [hb]; exact Nat.le_refl _)
  have N5 := Aside0.mk hN
  have B5 := Aside0.mk hB5
  clear hN hb hW hB5
  refine hK _ _ B5.out (fun _ => ?_)
  clear hK K
  refine frame_ (a' := ?aa20) ?ha20 ?nx20
  case ha20 =>
    simp only [Go.Proofs.YtbpfmlckddhgbaaGreatDoorW.PrintLast.putAll, Act.put, List.setIfInBounds_toArray, List.set_cons_zero, List.set_cons_succ]
    rfl
  refine last_ (i := 10) (N := none) #[true, true, true, true, true, true, true, true, true, true, true, false] rfl rfl (by kernel_rfl) (by decide) (fun K hK => ?_)
  rw [if_pos (by rfl)]
  refine wpo_store_row none rfl 232 (.tmp 8) (.tmp 24) rfl b5 232 _ [.slice A0 n0 c0, .int .i64 k0] rfl rfl N5.out rfl (by kernel_rfl) (by intro v hv; simp at hv; rcases hv with rfl | rfl <;> rfl) ?_
  intro W6 hW
  have hN : At W6 b5 232 [.slice A0 n0 c0, .int .i64 k0] := by subst hW; exact N5.out.setRow _
  have hB : Below W1.heap.size W1 W6 := by subst hW; exact below_setRow B5.out L5.out _
  have N5 := Aside0.mk hN
  have H4 := Aside0.mk (show W6.cell? ⟨s, 4, none⟩ = some (.map (some bm)) by rw [hB.cell (World.block_lt_of_cell? _ _ H4.out)]; exact H4.out)
  have HM := Aside0.mk (HM.out.below hB HM.out.lt)
  have A := Aside0.mk (A.out.below hB A.out.lt)
  have BI := Aside0.mk hB
  clear hN hW hB B5
  refine hK _ _ ?_
  clear hK K
  refine frame_ (a' := ?aa21) ?ha21 ?nx21
  case ha21 =>
    simp only [Go.Proofs.YtbpfmlckddhgbaaGreatDoorW.PrintLast.putAll, Act.put, List.setIfInBounds_toArray, List.set_cons_zero, List.set_cons_succ]
    rfl
  refine last_ (i := 11) (N := some 9) #[true, true, true, true, true, true, true, true, true, true, true, true] rfl rfl (by kernel_rfl) (by decide) (fun K hK => ?_)
  rw [if_pos (by rfl)]
  refine wpo_assign (some 9) rfl (.tmp 25) rfl (.bool (M d).isSome) rfl ?_
  refine hK _ _ ?_
  clear hK K
  refine frame_ (a' := ?aa22) ?ha22 ?nx22
  case ha22 =>
    simp only [Go.Proofs.YtbpfmlckddhgbaaGreatDoorW.PrintLast.putAll, Act.put, List.setIfInBounds_toArray, List.set_cons_zero, List.set_cons_succ]
    rfl
  refine done_ (by kernel_rfl) ?_
  have HH := Aside0.mk (HH.out.below BI.out)
  have B := Aside0.mk (B.out.trans (BI.out.mono B.out.size))
  rw [MD.out]
  have k1 : W6.cell? ⟨s, 1, none⟩ = some (.int .i64 ca) := by rw [HH.out.cell, CA.out]; rfl
  have f2 : W6.frozen? ⟨s, 2, none⟩ = false := HH.out.cells.frozen _
  have k2 : W6.cell? ⟨s, 2, none⟩ = some (.int .i64 us) := by rw [HH.out.cell, US.out]; rfl
  have k5 : W6.cell? ⟨b5, 0, none⟩ = some (.slice A0 n0 c0) := by rw [N5.out.cell]; rfl
  obtain ⟨σ2, hσ2⟩ : ∃ σ2, σ2 = { σ with used := us + ((nd : Int) + 32) } := ⟨_, rfl⟩
  obtain ⟨σ3, hσ3⟩ : ∃ σ3, σ3 = { σ2 with last := la + 1 } := ⟨_, rfl⟩
  have S2 := Aside0.mk hσ2
  have S3 := Aside0.mk hσ3
  clear hσ2 hσ3
  have M0 := Aside0.mk True.intro
  go_wp2_with (first
    | (refine arm_store_int rfl 3 _ _ rfl ⟨s, 2, none⟩ rfl .i64 (us + ((nd : Int) + 32)) rfl _ k2 f2 (by kernel_rfl) rfl ?_
       intro W7 hW
       have hO : Only (· = s) W6.heap.size W6 W7 := by subst hW; exact Only.setCell (S := (· = s)) (a := ⟨s, 2, none⟩) (Only.refl _ _ _) (.inl rfl) _
       have hS : HSt W7 s bm σ2 M := HH.out.own (Only.mono hO (Nat.le_refl _) (fun _ _ h => h)) (by subst hW; have e := HH.out.cells.setCell 2 (.int .i64 (us + ((nd : Int) + 32))); rw [S2.out]; exact e) (by rw [S2.out]) (by rw [S2.out]) (by rw [S2.out])
       have k3 : W7.cell? ⟨s, 3, none⟩ = some (.int .i64 la) := by rw [hS.cell, S2.out, LA.out]; rfl
       have f3 : W7.frozen? ⟨s, 3, none⟩ = false := hS.cells.frozen _
       have HH := Aside0.mk hS
       have A := Aside0.mk (hO.at_ A.out.lt (fun e => absurd e A5.out.2) A.out)
       have B := Aside0.mk ((Only.of_below B.out).trans (hO.mono B.out.size (fun _ _ h => h)))
       clear hW hO hS)
    | (refine arm_store_int rfl 3 _ _ rfl ⟨s, 3, none⟩ rfl .i64 (la + 1) rfl _ k3 f3 (by kernel_rfl) rfl ?_
       intro W8 hW
       have hO : Only (· = s) W7.heap.size W7 W8 := by subst hW; exact Only.setCell (S := (· = s)) (a := ⟨s, 3, none⟩) (Only.refl _ _ _) (.inl rfl) _
       have hS : HSt W8 s bm σ3 M := HH.out.own (Only.mono hO (Nat.le_refl _) (fun _ _ h => h)) (by subst hW; have e := HH.out.cells.setCell 3 (.int .i64 (la + 1)); rw [S3.out]; exact e) (by rw [S3.out]) (by rw [S3.out]) (by rw [S3.out])
       have HH := Aside0.mk hS
       have A := Aside0.mk (hO.at_ A.out.lt (fun e => absurd e A5.out.2) A.out)
       have B := Aside0.mk (B.out.trans (hO.mono B.out.size (fun _ _ h => h)))
       clear hW hO hS)
    | fail)
  have hall : ∀ w', Below W8.heap.size W8 w' → w'.cell? ⟨s, 4, none⟩ = some (.map (some bm)) ∧ (Instr.loadAt 27 (.pointer (some ⟨b3, 0, none⟩))).run Tryz.prog w' = .ok dv w' ∧ w'.cell? ⟨s, 3, none⟩ = some (.int .i64 (la + 1)) := by
    intro w' hB
    have hh := HH.out.below hB
    refine ⟨by rw [hh.cell]; rfl, ?_, by rw [hh.cell, S3.out]; rfl⟩
    rw [DV.out]
    exact run_loadAt_mid w' b3 0 27 (d.map bv) (.array 32 5) (A.out.below hB A.out.lt).rangeAll tu27 rfl (by rw [List.length_map, HD.out]; exact size27)
  have HALL := Aside0.mk hall
  clear hall
  refine takes_region (S := fun w' => Below W8.heap.size W8 w') (ds := [12]) [(0, true), (1, true), (2, true), (3, false), (4, false), (5, true), (7, true), (8, true), (9, true), (10, false)] 3 (by kernel_rfl) rfl (by kernel_rfl) (fun _ _ dd _ _ h => by cases dd <;> exact h) (Below.refl _ _).drew
    #[true, true, true, true, true, true, false, true, true, true, true, false, false] (by kernel_rfl) ?_
  refine tk (N := some 49) (v := ?vv10) (a' := ?aa10) rfl rfl rfl ?hr10 ?ha10 ?nx10
  case hr10 => (intro w' hS; first | (go_simp; with_reducible rfl) | (obtain hS | hS := hS; (· cases hS); have hF := HALL.out w' hS; go_simp; with_reducible rfl))
  case ha10 => (simp only [Act.put, List.setIfInBounds_toArray, List.set_cons_zero, List.set_cons_succ]; rfl)
  refine tk (N := some 50) (v := ?vv11) (a' := ?aa11) rfl rfl rfl ?hr11 ?ha11 ?nx11
  case hr11 => (intro w' hS; first | (go_simp; with_reducible rfl) | (obtain hS | hS := hS; (· cases hS); have hF := HALL.out w' hS; go_simp; with_reducible rfl))
  case ha11 => (simp only [Act.put, List.setIfInBounds_toArray, List.set_cons_zero, List.set_cons_succ]; rfl)
  refine tk (N := some 51) (v := ?vv12) (a' := ?aa12) rfl rfl rfl ?hr12 ?ha12 ?nx12
  case hr12 => (intro w' hS; first | (go_simp; with_reducible rfl) | (obtain hS | hS := hS; (· cases hS); have hF := HALL.out w' hS; go_simp; with_reducible rfl))
  case ha12 => (simp only [Act.put, List.setIfInBounds_toArray, List.set_cons_zero, List.set_cons_succ]; rfl)
  refine tk (N := some 52) (v := ?vv13) (a' := ?aa13) rfl rfl rfl ?hr13 ?ha13 ?nx13
  case hr13 => (intro w' hS; first | (go_simp; with_reducible rfl) | (obtain hS | hS := hS; (· cases hS); have hF := HALL.out w' hS; go_simp; with_reducible rfl))
  case ha13 => (simp only [Act.put, List.setIfInBounds_toArray, List.set_cons_zero, List.set_cons_succ]; rfl)
  refine tk (N := some 53) (v := ?vv14) (a' := ?aa14) rfl rfl rfl ?hr14 ?ha14 ?nx14
  case hr14 => (intro w' hS; have hF := (HALL.out w' (hS.resolve_left (by decide))).2.1; refine (run_load_op hF rfl rfl).trans ?_; with_reducible rfl)
  case ha14 => (simp only [Act.put, List.setIfInBounds_toArray, List.set_cons_zero, List.set_cons_succ]; rfl)
  refine tk (N := some 54) (v := ?vv15) (a' := ?aa15) rfl rfl rfl ?hr15 ?ha15 ?nx15
  case hr15 => (intro w' hS; first | (go_simp; with_reducible rfl) | (obtain hS | hS := hS; (· cases hS); have hF := HALL.out w' hS; go_simp; with_reducible rfl))
  case ha15 => (simp only [Act.put, List.setIfInBounds_toArray, List.set_cons_zero, List.set_cons_succ]; rfl)
  refine tk (N := some 56) (v := ?vv16) (a' := ?aa16) rfl rfl rfl ?hr16 ?ha16 ?nx16
  case hr16 => (intro w' hS; first | (go_simp; with_reducible rfl) | (obtain hS | hS := hS; (· cases hS); have hF := HALL.out w' hS; go_simp; with_reducible rfl))
  case ha16 => (simp only [Act.put, List.setIfInBounds_toArray, List.set_cons_zero, List.set_cons_succ]; rfl)
  refine tk (N := some 57) (v := ?vv17) (a' := ?aa17) rfl rfl rfl ?hr17 ?ha17 ?nx17
  case hr17 => (intro w' hS; first | (go_simp; with_reducible rfl) | (obtain hS | hS := hS; (· cases hS); have hF := HALL.out w' hS; go_simp; with_reducible rfl))
  case ha17 => (simp only [Act.put, List.setIfInBounds_toArray, List.set_cons_zero, List.set_cons_succ]; rfl)
  refine tk (N := some 58) (v := ?vv18) (a' := ?aa18) rfl rfl rfl ?hr18 ?ha18 ?nx18
  case hr18 => (intro w' hS; first | (go_simp; with_reducible rfl) | (obtain hS | hS := hS; (· cases hS); have hF := HALL.out w' hS; go_simp; with_reducible rfl))
  case ha18 => (simp only [Act.put, List.setIfInBounds_toArray, List.set_cons_zero, List.set_cons_succ]; rfl)
  refine tk (N := some 59) (v := ?vv19) (a' := ?aa19) rfl rfl rfl ?hr19 ?ha19 ?nx19
  case hr19 => (intro w' hS; first | (go_simp; with_reducible rfl) | (obtain hS | hS := hS; (· cases hS); have hF := HALL.out w' hS; go_simp; with_reducible rfl))
  case ha19 => (simp only [Act.put, List.setIfInBounds_toArray, List.set_cons_zero, List.set_cons_succ]; rfl)
  refine takes_done ?_
  have hR8 : RdL W8 Ad ds := fun hne => by
    obtain ⟨ad, g1, g2, g3⟩ := RR.out hne
    exact ⟨ad, g1, Nat.lt_of_lt_of_le g2 B.out.size, fun k hk => by rw [B.out.cell (by rw [add_block]; exact g2) (by rw [add_block]; exact AS.out ad g1)]; exact g3 k hk⟩
  have R8 := Aside0.mk hR8
  have B8s := Aside0.mk B.out.size
  clear hR8
  refine one_ (i := 6) (N := some 55) #[true, true, true, true, true, true, true, true, true, true, true, false, false] rfl rfl (by kernel_rfl) (by decide) (fun K hK => ?_)
  refine goes_ Tryz.func71 (by kernel_rfl) rfl #[.slice Ad nd cd] (by rfl) rfl rfl (by simp only [List.map_toArray, List.map_cons, List.map_nil]; rfl) ?_
  have hcall := clone_calls W8.drew Ad cd ds R8.out (by rw [← ND.out]; omega)
  rw [← ND.out] at hcall
  refine hcall.mono ?_
  rintro e wz ⟨v', rfl, hO, hF, hB⟩
  clear hcall
  obtain ⟨A1, c1, hv1, hc1, hr1, hb1⟩ := hO.rdl
  rw [← ND.out] at hv1
  subst hv1
  have HO := Aside0.mk (And.intro hc1 (And.intro hr1 hb1))
  have HF := Aside0.mk hF
  have hB8 : Below W8.heap.size W8 wz := (Below.refl _ _).drew.trans hB
  have B8 := Aside0.mk hB8
  clear hO hF hB hc1 hr1 hb1 hB8
  refine ⟨_, rfl, ?_⟩
  refine hK _ _ B8.out (fun _ => ?_)
  clear hK K
  refine frame_ (a' := ?aa23) ?ha23 ?nx23
  case ha23 =>
    simp only [Go.Proofs.YtbpfmlckddhgbaaGreatDoorW.PrintLast.putAll, Act.put, List.setIfInBounds_toArray, List.set_cons_zero, List.set_cons_succ]
    rfl
  refine pure_ (i := 11) (N := some 60) (v := .agg #[.slice A1 nd c1, .int .i64 (la + 1)]) #[true, true, true, true, true, true, true, true, true, true, true, true, false] rfl rfl (by kernel_rfl) (fun _ _ _ h => h) (Or.inl ⟨by rfl, fun _ => by go_simp⟩) rfl ?_
  refine frame_ (a' := ?aa24) ?ha24 ?nx24
  case ha24 =>
    simp only [Go.Proofs.YtbpfmlckddhgbaaGreatDoorW.PrintLast.putAll, Act.put, List.setIfInBounds_toArray, List.set_cons_zero, List.set_cons_succ]
    rfl
  refine last_ (i := 12) (N := none) #[true, true, true, true, true, true, true, true, true, true, true, true, true] rfl rfl (by kernel_rfl) (by decide) (fun K hK => ?_)
  rw [if_pos (by rfl)]
  have HH := Aside0.mk (HH.out.below B8.out)
  have B := Aside0.mk (B.out.trans ((Only.of_below B8.out).mono B.out.size (fun _ _ h => h)))
  refine wpo_put none rfl _ _ _ 147 rfl 27 232 digKeyed tu147 bm M σ3.sz rfl HH.out.map (by rw [S3.out, S2.out]; exact SZ.out) dv _ d rfl rfl (by rw [DV.out]; exact keyOf_dig d HD.out) ?_
  intro W9 hM9 hO9
  have M9 := Aside0.mk hM9
  have O9 := Aside0.mk hO9
  clear hM9 hO9
  refine hK _ _ ?_
  clear hK K
  refine frame_ (a' := ?aa25) ?ha25 ?nx25
  case ha25 =>
    simp only [Go.Proofs.YtbpfmlckddhgbaaGreatDoorW.PrintLast.putAll, Act.put, List.setIfInBounds_toArray, List.set_cons_zero, List.set_cons_succ]
    rfl
  refine done_ (by kernel_rfl) ?_
  go_wp2_with fail
  go_ret
  refine ⟨rfl, ⟨M.put d (.agg #[.slice A1 nd c1, .int .i64 (la + 1)]), ?_, fun b hb hoff d' ad n c k hv hn => ?_⟩, (B.out.mono (Nat.le_refl _) (fun _ _ h => Or.inl h)).trans (O9.out.mono B.out.size (fun _ _ h => Or.inr h))⟩
  · have e3 : σ3.m = σ.m ∧ σ3.sz = σ.sz ∧ σ3.width = σ.width ∧ stoCells σ3 bm = stoCells (σ.laid d ds) bm := by rw [S3.out, S2.out, US.out, LA.out, ND.out]; exact ⟨rfl, rfl, rfl, rfl⟩
    have hm9 := M9.out
    rw [MD.out, e3.2.1] at hm9
    have hne := HH.out.ne
    refine ⟨?_, hm9, hne, e3.2.2.1 ▸ HH.out.wd, fun d' ds' k hd' => ?_, fun d' hd' => ?_⟩
    · rw [← e3.2.2.2]; exact O9.out.at_ HH.out.cells.lt hne HH.out.cells
    · by_cases hq : d' = d
      · subst hq
        have e : (ds, σ.last + 1) = (ds', k) := by simpa [Sto.laid] using hd'
        injection e with e4 e5
        subst e4 e5
        refine ⟨A1, c1, by rw [LA.out, ND.out]; simp [MapF.put], HO.out.1, by rw [← ND.out]; exact hl, fun hne' => ?_⟩
        obtain ⟨ad, g1, g2⟩ := HO.out.2.2 hne'
        obtain ⟨ad', g3, g4, g5⟩ := HO.out.2.1 hne'
        rw [g1] at g3; injection g3 with g3; subst g3
        have hge := HF.out _ g2
        have hs8 : s < W8.heap.size := Nat.lt_of_lt_of_le HM0s.out B8s.out
        have hb8 : bm < W8.heap.size := Nat.lt_of_lt_of_le HMb.out B8s.out
        have hge' : W8.heap.size ≤ ad.block := hge
        refine ⟨ad, g1, Nat.lt_of_lt_of_le g4 O9.out.size, by omega, by omega, fun k hk => ?_⟩
        rw [O9.out.cell (by rw [add_block]; exact g4) (by rw [add_block]; omega)]; exact g5 k hk
      · have e : σ.m d' = some (ds', k) := by simpa [Sto.laid, hq] using hd'
        rw [← e3.1] at e
        obtain ⟨A', c', g1, g2, g3, g4⟩ := HH.out.here d' ds' k e
        refine ⟨A', c', by simp only [MapF.put, if_neg hq]; exact g1, g2, g3, fun hne' => ?_⟩
        obtain ⟨ad, q1, q2, q3, q4, q5⟩ := g4 hne'
        exact ⟨ad, q1, Nat.lt_of_lt_of_le q2 O9.out.size, q3, q4, fun k hk => by rw [O9.out.cell (by rw [add_block]; exact q2) (by rw [add_block]; exact q4)]; exact q5 k hk⟩
    · by_cases hq : d' = d
      · subst hq; simp [Sto.laid] at hd'
      · have e : σ.m d' = none := by simpa [Sto.laid, hq] using hd'
        rw [← e3.1] at e
        simp only [MapF.put, if_neg hq]; exact HH.out.gone d' e
  · unfold MapF.put at hv
    by_cases hq : d' = d
    · rw [if_pos hq] at hv
      have e : A1 = some ad ∧ nd = n := by simp at hv; exact ⟨hv.1.1, hv.1.2.1⟩
      obtain ⟨ad', g1, g2⟩ := HO.out.2.2 (by intro h0; have := ND.out; rw [h0] at this; simp at this; omega)
      rw [e.1] at g1; injection g1 with g1; subst g1
      have h1 : W8.heap.size ≤ ad.block := HF.out _ g2
      have h2 := B8s.out
      omega
    · rw [if_neg hq] at hv; exact hoff d' ad n c k hv hn
end Go.Proofs.YtbpfmlckddhgbaaGreatDoor
/- cas: Put. (Printed by tools/gen_cas6.py.) -/
namespace Go.Proofs.YtbpfmlckddhgbaaGreatDoor
set_option linter.unusedSimpArgs false
open Go Go.RowKit Go.Maps Go.Proofs.YtbpfmlckddhgbaaGreatDoorW.PrintWords Go.Proofs.YtbpfmlckddhgbaaGreatDoorW.PrintLast
set_option maxRecDepth 4000 in
set_option maxHeartbeats 1000000 in
theorem put_calls (w : World) (s bm : Nat) (σ : Sto) (M : MapF) (Ad : Option Addr) (cd : Nat) (ds : List UInt8) (hH : HSt w s bm σ M) (hR : RdL w Ad ds) (hl : ds.length ≤ 1048576) (hc : ds.length ≤ cd) (hAs : ∀ ad, Ad = some ad → ad.block ≠ s)
    (hm : σ.m (digL σ.width ds) = none) (hu0 : 0 ≤ σ.used) (hu : σ.used + ((ds.length : Int) + 32) ≤ σ.cap) (hcap : σ.cap ≤ 67108864) (hla : 0 ≤ σ.last) (hlb : σ.last < 4611686018427387904) (hp0 : 0 ≤ σ.puts) (hp1 : σ.puts < 4611686018427387904) (hsz : σ.sz < maxLen) :
    Calls Tryz.prog 83 #[.pointer (some ⟨s, 0, none⟩), .slice Ad ds.length cd] w fun e w' => e = .returned (.tuple #[digV (digL σ.width ds), .int .i64 0]) ∧ (∃ M', HSt w' s bm (({ σ with puts := σ.puts + 1 } : Sto).laid (digL σ.width ds) ds) M' ∧ ∀ b, b < w.heap.size → MOff M b → MOff M' b) ∧ Only (fun b => b = s ∨ b = bm) w.heap.size w w' := by
  obtain ⟨d, hdd⟩ : ∃ d, d = digL σ.width ds := ⟨_, rfl⟩
  have hd : d.length = 32 := by rw [hdd]; exact digL_len _ _ hH.wd.2
  rw [← hdd] at hm ⊢
  obtain ⟨nd, hnd⟩ : ∃ nd, nd = ds.length := ⟨_, rfl⟩
  obtain ⟨pu, hpu⟩ : ∃ pu, pu = σ.puts := ⟨_, rfl⟩
  obtain ⟨σ1, hσ1⟩ : ∃ σ1, σ1 = { σ with puts := σ.puts + 1 } := ⟨_, rfl⟩
  rw [← hσ1]
  rw [← hpu] at hp0 hp1
  have S1 := Aside0.mk hσ1
  have PU := Aside0.mk hpu
  have ND := Aside0.mk hnd
  have DD := Aside0.mk hdd
  have HC := Aside0.mk hc
  have HL := Aside0.mk hl
  have HM0 := Aside0.mk hm
  have RR := Aside0.mk hR
  have AS := Aside0.mk hAs
  have US := Aside0.mk (And.intro hu0 (And.intro hu hcap))
  have LA := Aside0.mk (And.intro hla hlb)
  have SZ := Aside0.mk hsz
  have WD := Aside0.mk hH.wd
  have MD := Aside0.mk (show (M d).isSome = false by rw [hH.isSome, hm]; rfl)
  have OF := Aside0.mk (show ∀ b, w.heap.size ≤ b → MOff M b from fun b hb => hH.off hb)
  have LS := Aside0.mk (And.intro hH.cells.lt hH.map.lt)
  rw [← hnd]
  have t1 : decide ((nd : Int) > 1048576) = false := decide_eq_false (by omega)
  have t2 : decide (1048576 < (nd : Int)) = false := decide_eq_false (by omega)
  clear hdd hm hnd hpu hσ1 hc hR hAs hu0 hu hcap hla hlb hsz
  have HH := Aside0.mk hH
  have HD := Aside0.mk hd
  obtain ⟨dv, hdv⟩ : ∃ dv, dv = digV d := ⟨_, rfl⟩
  rw [← hdv]
  have DV := Aside0.mk hdv
  obtain ⟨A0, c0, hev, hc0, hn0, hr0⟩ := hH.got d
  rw [show (((σ.m d).map (·.1)).getD []) = σ.data d from rfl] at hev hc0 hn0 hr0
  have hss := hH.isSome d
  generalize (((σ.m d).map (·.2)).getD 0) = k0 at hev
  obtain ⟨n0, hn0e⟩ : ∃ n0, n0 = (σ.data d).length := ⟨_, rfl⟩
  rw [← hn0e] at hev hc0 hn0
  have NE := Aside0.mk hn0e
  have EV := Aside0.mk hev
  have C0 := Aside0.mk hc0
  have R0 := Aside0.mk hr0
  have SS := Aside0.mk hss
  have NB := Aside0.mk hn0
  have h4 : w.cell? ⟨s, 4, none⟩ = some (.map (some bm)) := by rw [hH.cell]; rfl
  have H4 := Aside0.mk h4
  have HM := Aside0.mk hH.map
  clear hH hd hdv hev hc0 hr0 hss h4 hn0 hn0e
  go_enter Tryz.func83, Tryz.ntmps83
  go_wp2_with (first
    | (refine arm_alloc rfl 27 rfl _ _ info27 ?_; intro W2 b6 hb hW
       have G := MK.out
       have hN : At W2 b6 27 (List.replicate 32 (bv 0)) := by subst hW hb; exact At.new _ _ _
       have hB : Below W1.heap.size W1 W2 := by subst hW; exact B1.out.alloc B1.out.size _
       have L6 := Aside0.mk (show W1.heap.size ≤ b6 by rw [hb]; exact B1.out.size)
       have N6 := Aside0.mk hN
       have B1 := Aside0.mk hB
       clear hN hb hW hB)
    | (refine arm_alloc rfl 27 rfl _ _ info27 ?_; intro W b4 hb hW
       have hN : At W b4 27 (List.replicate 32 (bv 0)) := by subst hW hb; exact At.new _ _ _
       have hB : Below w.heap.size w W := by subst hW; exact (Below.refl _ _).alloc (Nat.le_refl _) _
       have L4 := Aside0.mk (show w.heap.size ≤ b4 by rw [hb]; exact Nat.le_refl _)
       have hS := HH.out.below hB
       have k6 : W.cell? ⟨s, 6, none⟩ = some (.int .i64 pu) := by rw [hS.cell, PU.out]; rfl
       have f6 : W.frozen? ⟨s, 6, none⟩ = false := hS.cells.frozen _
       have HH := Aside0.mk hS
       have N4 := Aside0.mk hN
       have B := Aside0.mk hB
       clear hN hb hW hB hS)
    | (refine arm_store_int rfl 3 _ _ rfl ⟨s, 6, none⟩ rfl .i64 (pu + 1) rfl _ k6 f6 (by kernel_rfl) rfl ?_
       intro W1 hW
       have hO : Only (· = s) W.heap.size W W1 := by subst hW; exact Only.setCell (S := (· = s)) (a := ⟨s, 6, none⟩) (Only.refl _ _ _) (.inl rfl) _
       have hS : HSt W1 s bm σ1 M := HH.out.own (Only.mono hO (Nat.le_refl _) (fun _ _ h => h)) (by subst hW; have e := HH.out.cells.setCell 6 (.int .i64 (pu + 1)); rw [S1.out, ← PU.out]; exact e) (by rw [S1.out]) (by rw [S1.out]) (by rw [S1.out])
       have hne : b4 ≠ s := by have := L4.out; have := LS.out.1; omega
       have B := Aside0.mk ((Only.of_below B.out).trans (hO.mono B.out.size (fun _ _ h => h)))
       have N4 := Aside0.mk (hO.at_ N4.out.lt hne N4.out)
       have HH := Aside0.mk hS
       have hR1 : RdL W1 Ad ds := fun hne => by
         obtain ⟨ad, g1, g2, g3⟩ := RR.out hne
         exact ⟨ad, g1, Nat.lt_of_lt_of_le g2 B.out.size, fun k hk => by rw [B.out.cell (by rw [add_block]; exact g2) (by rw [add_block]; exact AS.out ad g1)]; exact g3 k hk⟩
       have RR := Aside0.mk hR1
       clear hW hO hS hne hR1)
    | (go_at_call 146
       have hcall := digest_calls W1 s σ.width Ad cd ds (by rw [HH.out.cell, S1.out]; rfl) WD.out.1 WD.out.2 RR.out (by have := HL.out; omega) HC.out
       rw [← ND.out, ← DD.out, ← DV.out] at hcall
       refine hcall.mono ?_
       rintro e wz ⟨rfl, hB⟩
       clear hcall
       have B1 := Aside0.mk hB
       have MK := Aside0.mk True.intro
       clear hB)
    | (refine arm_store_row rfl 27 _ _ rfl b6 27 _ (d.map bv) rfl DV.out N6.out (by rw [List.length_map, HD.out]; rfl) (by rw [List.length_map, HD.out]; exact size27) (one_bv _) ?_
       intro W3 hW
       have hA : At W3 b6 27 (d.map bv) := by subst hW; exact N6.out.setRow _
       have hB : Below W1.heap.size W1 W3 := by subst hW; exact below_setRow B1.out L6.out _
       have A := Aside0.mk hA
       have B1 := Aside0.mk hB
       clear hA hB hW)
    | fail)
  have L64 := Aside0.mk (show b4 ≠ b6 by have := N4.out.lt; have := L6.out; omega)
  have L6 := Aside0.mk (show w.heap.size ≤ b6 from Nat.le_trans B.out.size L6.out)
  have HH := Aside0.mk (HH.out.below B1.out)
  have N4 := Aside0.mk (N4.out.below B1.out N4.out.lt)
  have RR := Aside0.mk (RR.out.below B1.out)
  have B := Aside0.mk (B.out.trans ((Only.of_below B1.out).mono B.out.size (fun _ _ h => h)))
  have H4 := Aside0.mk (show W3.cell? ⟨s, 4, none⟩ = some (.map (some bm)) by rw [HH.out.cell]; rfl)
  have HM := Aside0.mk (show OMap W3 27 bm M σ.sz by have := HH.out.map; rw [S1.out] at this; exact this)
  have hall : ∀ w', Below W3.heap.size W3 w' → w'.cell? ⟨s, 4, none⟩ = some (.map (some bm)) ∧ (Instr.loadAt 27 (.pointer (some ⟨b6, 0, none⟩))).run Tryz.prog w' = .ok dv w' ∧
      (Instr.lookup 147 (.map (some bm)) dv true).run Tryz.prog w' = .ok (.tuple #[.agg #[.slice A0 n0 c0, .int .i64 k0], .bool (M d).isSome]) w' := by
    intro w' hB
    rw [← EV.out]
    refine ⟨by rw [hB.cell (World.block_lt_of_cell? _ _ H4.out)]; exact H4.out, ?_, (HM.out.below hB HM.out.lt).look digKeyed tu147 (zero232 _) (by rw [DV.out]; exact keyOf_dig d HD.out)⟩
    rw [DV.out]
    exact run_loadAt_mid w' b6 0 27 (d.map bv) (.array 32 5) (A.out.below hB A.out.lt).rangeAll tu27 rfl (by rw [List.length_map, HD.out]; exact size27)
  have HALL := Aside0.mk hall
  clear hall
  refine takes_region (S := fun w' => Below W3.heap.size W3 w') (ds := [10, 11]) [(0, true), (1, true), (2, true), (3, false), (4, false), (5, false), (6, true), (7, true), (8, true)] 3 (by kernel_rfl) rfl (by kernel_rfl) (fun _ _ dd _ _ h => by cases dd <;> exact h) (Below.refl _ _).drew
    #[true, true, true, true, true, true, true, true, true, false, false, false] (by kernel_rfl) ?_
  refine tk (N := some 27) (v := ?vv1) (a' := ?aa1) rfl rfl rfl ?hr1 ?ha1 ?nx1
  case hr1 => (intro w' hS; first | (go_simp; with_reducible rfl) | (obtain hS | hS := hS; (· cases hS); have hF := HALL.out w' hS; go_simp; with_reducible rfl))
  case ha1 => (simp only [Act.put, List.setIfInBounds_toArray, List.set_cons_zero, List.set_cons_succ]; rfl)
  refine tk (N := some 28) (v := ?vv2) (a' := ?aa2) rfl rfl rfl ?hr2 ?ha2 ?nx2
  case hr2 => (intro w' hS; first | (go_simp; with_reducible rfl) | (obtain hS | hS := hS; (· cases hS); have hF := HALL.out w' hS; go_simp; with_reducible rfl))
  case ha2 => (simp only [Act.put, List.setIfInBounds_toArray, List.set_cons_zero, List.set_cons_succ]; rfl)
  refine tk (N := some 29) (v := ?vv3) (a' := ?aa3) rfl rfl rfl ?hr3 ?ha3 ?nx3
  case hr3 => (intro w' hS; first | (go_simp; with_reducible rfl) | (obtain hS | hS := hS; (· cases hS); have hF := HALL.out w' hS; go_simp; with_reducible rfl))
  case ha3 => (simp only [Act.put, List.setIfInBounds_toArray, List.set_cons_zero, List.set_cons_succ]; rfl)
  refine tk (N := some 30) (v := ?vv4) (a' := ?aa4) rfl rfl rfl ?hr4 ?ha4 ?nx4
  case hr4 => (intro w' hS; first | (go_simp; with_reducible rfl) | (obtain hS | hS := hS; (· cases hS); have hF := HALL.out w' hS; go_simp; with_reducible rfl))
  case ha4 => (simp only [Act.put, List.setIfInBounds_toArray, List.set_cons_zero, List.set_cons_succ]; rfl)
  refine tk (N := some 31) (v := ?vv5) (a' := ?aa5) rfl rfl rfl ?hr5 ?ha5 ?nx5
  case hr5 => (intro w' hS; have hF := (HALL.out w' (hS.resolve_left (by decide))).2.1; refine (run_load_op hF rfl rfl).trans ?_; with_reducible rfl)
  case ha5 => (simp only [Act.put, List.setIfInBounds_toArray, List.set_cons_zero, List.set_cons_succ]; rfl)
  refine tk (N := some 32) (v := ?vv6) (a' := ?aa6) rfl rfl rfl ?hr6 ?ha6 ?nx6
  case hr6 => (intro w' hS; first | (go_simp; with_reducible rfl) | (obtain hS | hS := hS; (· cases hS); have hF := HALL.out w' hS; go_simp; with_reducible rfl))
  case ha6 => (simp only [Act.put, List.setIfInBounds_toArray, List.set_cons_zero, List.set_cons_succ]; rfl)
  refine tk (N := some 26) (v := ?vv7) (a' := ?aa7) rfl rfl rfl ?hr7 ?ha7 ?nx7
  case hr7 => (intro w' hS; first | (go_simp; with_reducible rfl) | (obtain hS | hS := hS; (· cases hS); have hF := HALL.out w' hS; go_simp; with_reducible rfl))
  case ha7 => (simp only [Act.put, List.setIfInBounds_toArray, List.set_cons_zero, List.set_cons_succ]; rfl)
  refine tk (N := some 33) (v := ?vv8) (a' := ?aa8) rfl rfl rfl ?hr8 ?ha8 ?nx8
  case hr8 => (intro w' hS; first | (go_simp; with_reducible rfl) | (obtain hS | hS := hS; (· cases hS); have hF := HALL.out w' hS; go_simp; with_reducible rfl))
  case ha8 => (simp only [Act.put, List.setIfInBounds_toArray, List.set_cons_zero, List.set_cons_succ]; rfl)
  refine tk (N := some 34) (v := ?vv9) (a' := ?aa9) rfl rfl rfl ?hr9 ?ha9 ?nx9
  case hr9 => (intro w' hS; first | (go_simp; with_reducible rfl) | (obtain hS | hS := hS; (· cases hS); have hF := HALL.out w' hS; go_simp; with_reducible rfl))
  case ha9 => (simp only [Act.put, List.setIfInBounds_toArray, List.set_cons_zero, List.set_cons_succ]; rfl)
  refine takes_done ?_
  refine one_ (i := 9) (N := some 7) #[true, true, true, true, true, true, true, true, true, true, false, false] rfl rfl (by kernel_rfl) (by decide) (fun K hK => ?_)
  rw [if_pos (by rfl)]
  refine wpo_alloc (some 7) rfl 232 rfl _ _ info232 ?_
  intro W5 b5 hb hW
  have hN : At W5 b5 232 [.slice none 0 0, .int .i64 0] := by subst hW hb; exact At.new _ _ _
  have hB5 : Below W3.heap.size W3 W5 := by subst hW; exact (Below.refl _ _).drew.alloc (Nat.le_refl _) _
  have L5 := Aside0.mk (show W3.heap.size ≤ b5 by rw [hb]; exact Nat.le_refl _)
  have N5 := Aside0.mk hN
  have B5 := Aside0.mk hB5
  clear hN hb hW hB5
  refine hK _ _ B5.out (fun _ => ?_)
  clear hK K
  refine frame_ (a' := ?aa10) ?ha10 ?nx10
  case ha10 =>
    simp only [Go.Proofs.YtbpfmlckddhgbaaGreatDoorW.PrintLast.putAll, Act.put, List.setIfInBounds_toArray, List.set_cons_zero, List.set_cons_succ]
    rfl
  refine last_ (i := 10) (N := none) #[true, true, true, true, true, true, true, true, true, true, true, false] rfl rfl (by kernel_rfl) (by decide) (fun K hK => ?_)
  rw [if_pos (by rfl)]
  refine wpo_store_row none rfl 232 (.tmp 7) (.tmp 33) rfl b5 232 _ [.slice A0 n0 c0, .int .i64 k0] rfl rfl N5.out rfl (by kernel_rfl) (by intro v hv; simp at hv; rcases hv with rfl | rfl <;> rfl) ?_
  intro W6 hW
  have hN : At W6 b5 232 [.slice A0 n0 c0, .int .i64 k0] := by subst hW; exact N5.out.setRow _
  have hB : Below W3.heap.size W3 W6 := by subst hW; exact below_setRow B5.out L5.out _
  have N5 := Aside0.mk hN
  have H4 := Aside0.mk (show W6.cell? ⟨s, 4, none⟩ = some (.map (some bm)) by rw [hB.cell (World.block_lt_of_cell? _ _ H4.out)]; exact H4.out)
  have HM := Aside0.mk (HM.out.below hB HM.out.lt)
  have A := Aside0.mk (A.out.below hB A.out.lt)
  have BI := Aside0.mk hB
  clear hN hW hB B5
  refine hK _ _ ?_
  clear hK K
  refine frame_ (a' := ?aa11) ?ha11 ?nx11
  case ha11 =>
    simp only [Go.Proofs.YtbpfmlckddhgbaaGreatDoorW.PrintLast.putAll, Act.put, List.setIfInBounds_toArray, List.set_cons_zero, List.set_cons_succ]
    rfl
  refine last_ (i := 11) (N := some 8) #[true, true, true, true, true, true, true, true, true, true, true, true] rfl rfl (by kernel_rfl) (by decide) (fun K hK => ?_)
  rw [if_pos (by rfl)]
  refine wpo_assign (some 8) rfl (.tmp 34) rfl (.bool (M d).isSome) rfl ?_
  refine hK _ _ ?_
  clear hK K
  refine frame_ (a' := ?aa12) ?ha12 ?nx12
  case ha12 =>
    simp only [Go.Proofs.YtbpfmlckddhgbaaGreatDoorW.PrintLast.putAll, Act.put, List.setIfInBounds_toArray, List.set_cons_zero, List.set_cons_succ]
    rfl
  refine done_ (by kernel_rfl) ?_
  rw [MD.out]
  have HH := Aside0.mk (HH.out.below BI.out)
  have N4 := Aside0.mk (N4.out.below BI.out N4.out.lt)
  have RR := Aside0.mk (RR.out.below BI.out)
  have B := Aside0.mk (B.out.trans ((Only.of_below BI.out).mono B.out.size (fun _ _ h => h)))
  go_wp2_with fail
  go_quiet (fail)
  generalize hW7 : W6.drewN _ = W7
  have hD : Below W6.heap.size W6 W7 := by subst hW7; exact ⟨rfl, rfl, rfl, Nat.le_refl _, fun _ _ => rfl⟩
  have HH := Aside0.mk (HH.out.below hD)
  have A := Aside0.mk (A.out.below hD A.out.lt)
  have N4 := Aside0.mk (N4.out.below hD N4.out.lt)
  have RR := Aside0.mk (RR.out.below hD)
  have B := Aside0.mk (B.out.trans ((Only.of_below hD).mono B.out.size (fun _ _ h => h)))
  clear hD hW7
  go_wp2_with (first
    | (refine arm_load_row rfl 27 _ rfl b6 0 rfl (d.map bv) A.out.rangeAll (by kernel_rfl) (by rw [List.length_map, HD.out]; exact size27) ?_
       intro v hv0
       have hv : v = dv := hv0.trans DV.out.symm
       clear hv0
       subst v)
    | (go_at_call 148
       rw [DV.out]
       have hcall := lay_calls W7 s bm σ1 M d Ad cd ds HH.out HD.out RR.out HL.out HC.out AS.out (by rw [S1.out]; exact HM0.out) (by rw [S1.out]; exact US.out.1) (by rw [S1.out]; exact US.out.2.1) (by rw [S1.out]; exact US.out.2.2) (by rw [S1.out]; exact LA.out.1) (by rw [S1.out]; exact LA.out.2) (by rw [S1.out]; exact SZ.out)
       rw [← ND.out] at hcall
       refine hcall.mono ?_
       rintro e wy ⟨rfl, hM', hO⟩
       clear hcall
       rw [← DV.out]
       have h4s : b4 ≠ s ∧ b4 ≠ bm ∧ b6 ≠ s ∧ b6 ≠ bm := by have := L4.out; have := L6.out; have := LS.out.1; have := LS.out.2; omega
       have HM' := Aside0.mk hM'
       have LT := Aside0.mk (And.intro h4s (And.intro N4.out.lt B.out.size))
       have A := Aside0.mk (hO.at_ A.out.lt (fun h => h.elim h4s.2.2.1 h4s.2.2.2) A.out)
       have N4 := Aside0.mk (hO.at_ N4.out.lt (fun h => h.elim h4s.1 h4s.2.1) N4.out)
       have B := Aside0.mk ((B.out.mono (Nat.le_refl _) (fun _ _ h => Or.inl h)).trans (hO.mono B.out.size (fun _ _ h => h)))
       clear hM' hO h4s)
    | (refine arm_store_row rfl 27 _ _ rfl b4 27 _ (d.map bv) rfl DV.out N4.out (by rw [List.length_map, HD.out]; rfl) (by rw [List.length_map, HD.out]; exact size27) (one_bv _) ?_
       intro W9 hW
       have hA : At W9 b4 27 (d.map bv) := by subst hW; exact N4.out.setRow _
       have hB : Below w.heap.size wy W9 := by subst hW; exact below_setRow (Below.refl _ _) L4.out _
       have N4 := Aside0.mk hA
       have O9 := Aside0.mk hB
       have P9 := Aside0.mk (show Only (· = b4) wy.heap.size wy W9 by subst hW; exact Only.setRow (S := (· = b4)) (Only.refl _ _ _) (.inl rfl) _)
       clear hA hB hW)
    | fail)
  refine bodyPost_ret (results_cell_tmp rfl _ W9 b4 27 _ (.array 32 5) rfl N4.out tu27 rfl (by rw [List.length_map, HD.out]; exact size27)) rfl ?_
  obtain ⟨M', hM', hoff⟩ := HM'.out
  refine ⟨by rw [DV.out]; rfl, ⟨M', hM'.write P9.out (fun e => LT.out.1.1 e.symm) (fun e => LT.out.1.2.1 e.symm) (hoff b4 LT.out.2.1 (OF.out b4 L4.out)), fun b hb => hoff b (Nat.lt_of_lt_of_le hb LT.out.2.2)⟩, B.out.trans (Only.of_below O9.out)⟩
end Go.Proofs.YtbpfmlckddhgbaaGreatDoor
/- cas: Put of what lies there already. (Printed by tools/gen_cas7.py.) -/
namespace Go.Proofs.YtbpfmlckddhgbaaGreatDoor
set_option linter.unusedSimpArgs false
open Go Go.RowKit Go.Maps Go.Proofs.YtbpfmlckddhgbaaGreatDoorW.PrintWords Go.Proofs.YtbpfmlckddhgbaaGreatDoorW.PrintLast
theorem RdL.bytesIn {w : World} {A : Option Addr} {ds : List UInt8} (h : RdL w A ds) : Lib.BytesIn w A ds.length (ds.map fun b => (b.toNat : Int)) := by
  by_cases h0 : ds = []
  · subst h0; exact Lib.BytesIn.nil _ _ _
  · obtain ⟨ad, h1, _, h3⟩ := h h0
    subst h1
    refine Lib.BytesIn.of_cells fun i hi => ?_
    rw [h3 i hi]
    simp only [List.getD_eq_getElem?_getD, List.getElem?_map, List.getElem?_eq_getElem hi]
    rfl
end Go.Proofs.YtbpfmlckddhgbaaGreatDoor
