/- What lies in blocks of a call's own, block by block; what a call may write. -/
import Derived.Test.YtbpfmlckddhgbaaGreatDoorQb
import Derived.Deep.MidRow
import Derived.Laws.CopyRow
import Derived.Great.BuildSlice
import Derived.Great.Walk
import Derived.StillTail
import Derived.Laws.CopyOwn
import Derived.BigQuiet
import Derived.WalkLawsBesides
import Derived.Lib.SliceRun
import Derived.Maps.AppendAt
namespace Go.Proofs.YtbpfmlckddhgbaaGreatDoor
open Go Go.RowKit Go.Proofs.YtbpfmlckddhgbaaGreatDoorW.PrintWords
def At (w : World) (b : Nat) (t : TypeId) (cs : List Value) : Prop := w.heap[b]? = some (.cells cs.toArray t (0, 0))
namespace At
variable {w w1 : World} {b b' : Nat} {t : TypeId} {cs : List Value}
theorem lt (h : At w b t cs) : b < w.heap.size := (Array.getElem?_eq_some_iff.1 h).1
theorem cell (h : At w b t cs) (k : Nat) : w.cell? ⟨b, k, none⟩ = cs[k]? := by
  rw [cell_of_row w b k _ t _ h, List.getElem?_toArray]
theorem frozen (h : At w b t cs) (k : Nat) : w.frozen? ⟨b, k, none⟩ = false := frozen_of_row w b k _ t h
theorem setCell (h : At w b t cs) (k : Nat) (v : Value) : At (w.setCell ⟨b, k, none⟩ v) b t (cs.set k v) := by
  unfold At
  rw [heap_setCell_same w b k _ t v h, List.setIfInBounds_toArray]
theorem setCell_other (h : At w b t cs) {a : Addr} (ha : b ≠ a.block) (v : Value) : At (w.setCell a v) b t cs := by
  unfold At
  rw [heap_setCell_other w a b v ha]; exact h
theorem drewN (h : At w b t cs) (n : Nat) : At (w.drewN n) b t cs := h
theorem drew (h : At w b t cs) : At w.drew b t cs := h
theorem alloc (h : At w b t cs) (o : Obj) : At (w.alloc o) b t cs := by
  unfold At; rw [Below.heap_alloc _ _ _ h.lt]; exact h
theorem new (w : World) (t : TypeId) (cs : Array Value) : At (w.alloc (.cells cs t)) w.heap.size t cs.toList := by
  unfold At; rw [heap_alloc_last]
theorem below (h : At w b t cs) {B : Nat} (hb : Below B w w1) (hB : b < B) : At w1 b t cs := by
  unfold At; rw [hb.block b hB]; exact h
theorem setRow (h : At w b t cs) (cs' : List Value) : At (w.setRow b cs'.toArray) b t cs' := by
  have h' : w.heap[b]? = some (.cells cs.toArray t (0, 0)) := h
  unfold At
  simp only [World.setRow, Array.getElem?_modify, h', if_true, Option.map_some]
theorem setRow_other (h : At w b t cs) (hne : b ≠ b') (cs' : Array Value) : At (w.setRow b' cs') b t cs := by
  have h' : w.heap[b]? = some (.cells cs.toArray t (0, 0)) := h
  unfold At
  simp only [World.setRow, Array.getElem?_modify]
  rw [if_neg (fun e => hne e.symm)]; exact h'
theorem setCells (vs : List Value) : ∀ {w : World} {cs : List Value} (o : Nat), At w b t cs → o + vs.length ≤ cs.length → At (w.setCells b o vs) b t (splice cs o vs) := by
  induction vs with
  | nil => intro w cs o h _; simpa [World.setCells, splice] using h
  | cons v vs ih =>
    intro w cs o h hl
    rw [List.length_cons] at hl
    have e := ih (o + 1) (h.setCell o v) (by rw [List.length_set]; omega)
    rw [World.setCells]
    have e2 : splice (cs.set o v) (o + 1) vs = splice cs o (v :: vs) := by
      unfold splice
      rw [List.take_add_one, List.take_set, List.set_eq_of_length_le (by simp; omega), List.getElem?_set_self (by omega), List.drop_set_of_lt (by omega), List.length_cons]
      simp [Nat.add_assoc, Nat.add_comm 1 vs.length]
    rw [← e2]; exact e
theorem setCells_other (hne : b ≠ b') (vs : List Value) : ∀ {w : World} (o : Nat), At w b t cs → At (w.setCells b' o vs) b t cs := by
  induction vs with
  | nil => intro w o h; exact h
  | cons v vs ih => intro w o h; exact ih (o + 1) (h.setCell_other (a := ⟨b', o, none⟩) hne v)
theorem inj {cs' : List Value} {t' : TypeId} (h : At w b t cs) (h' : At w b t' cs') : cs = cs' := by
  unfold At at h h'; rw [h] at h'; simp at h'; exact h'.1
theorem rangeAt (h : At w b t cs) (o n : Nat) : w.rangeAt b o ((cs.drop o).take n) := fun j v hv => by
  rw [h.cell]
  rw [List.getElem?_take] at hv
  split at hv
  · rw [List.getElem?_drop] at hv; exact hv
  · cases hv
theorem rangeAll (h : At w b t cs) : w.rangeAt b 0 cs := fun j v hv => by rw [h.cell, Nat.zero_add]; exact hv
end At
structure Only (S : Nat → Prop) (B : Nat) (w w' : World) : Prop where
  os : w'.os = w.os
  tape : w'.tape = w.tape
  output : w'.output = w.output
  size : w.heap.size ≤ w'.heap.size
  block : ∀ k, k < B → ¬ S k → w'.heap[k]? = w.heap[k]?
namespace Only
variable {S : Nat → Prop} {B : Nat} {w w1 w2 : World}
theorem refl (S : Nat → Prop) (B : Nat) (w : World) : Only S B w w := ⟨rfl, rfl, rfl, Nat.le_refl _, fun _ _ _ => rfl⟩
theorem trans (h : Only S B w w1) (k : Only S B w1 w2) : Only S B w w2 :=
  ⟨k.os.trans h.os, k.tape.trans h.tape, k.output.trans h.output, Nat.le_trans h.size k.size, fun i hi hs => (k.block i hi hs).trans (h.block i hi hs)⟩
theorem of_below (h : Below B w w1) : Only S B w w1 := ⟨h.os, h.tape, h.output, h.size, fun k hk _ => h.block k hk⟩
theorem mono (h : Only S B w w1) {S' : Nat → Prop} {B' : Nat} (hB : B' ≤ B) (hS : ∀ k, k < B' → S k → S' k) : Only S' B' w w1 :=
  ⟨h.os, h.tape, h.output, h.size, fun k hk hs => h.block k (by omega) fun h' => hs (hS k hk h')⟩
theorem to_below (h : Only S B w w1) {B' : Nat} (hB : B' ≤ B) (hS : ∀ k, S k → B' ≤ k) : Below B' w w1 :=
  ⟨h.os, h.tape, h.output, h.size, fun k hk => h.block k (by omega) fun hs => by have := hS k hs; omega⟩
theorem alloc (h : Only S B w w1) (hB : B ≤ w1.heap.size) (o : Obj) : Only S B w (w1.alloc o) :=
  h.trans (of_below ((Below.refl B w1).alloc hB o))
theorem drewN (h : Only S B w w1) (n : Nat) : Only S B w (w1.drewN n) := h.trans ⟨rfl, rfl, rfl, Nat.le_refl _, fun _ _ _ => rfl⟩
theorem drew (h : Only S B w w1) : Only S B w w1.drew := h.trans ⟨rfl, rfl, rfl, Nat.le_refl _, fun _ _ _ => rfl⟩
theorem setCell (h : Only S B w w1) {a : Addr} (ha : S a.block ∨ B ≤ a.block) (v : Value) : Only S B w (w1.setCell a v) :=
  h.trans ⟨rfl, rfl, rfl, by simp [World.setCell], fun k hk hs => Below.heap_setCell _ _ _ _ (by rintro rfl; rcases ha with ha | ha; exact hs ha; omega)⟩
theorem setRow (h : Only S B w w1) {b : Nat} (ha : S b ∨ B ≤ b) (cs : Array Value) : Only S B w (w1.setRow b cs) :=
  h.trans ⟨rfl, rfl, rfl, by simp [World.setRow], fun k hk hs => by
    simp only [World.setRow, Array.getElem?_modify]
    rw [if_neg (by rintro rfl; rcases ha with ha | ha; exact hs ha; omega)]⟩
theorem setCells {b : Nat} (ha : S b ∨ B ≤ b) (vs : List Value) : ∀ {w1 : World} (o : Nat), Only S B w w1 → Only S B w (w1.setCells b o vs) := by
  induction vs with
  | nil => intro w1 o h; exact h
  | cons v vs ih => intro w1 o h; exact ih (o + 1) (h.setCell (a := ⟨b, o, none⟩) ha v)
theorem then_only (h : Only S B w w1) {S' : Nat → Prop} {B' : Nat} (k : Only S' B' w1 w2) (hB : B ≤ B') (hS : ∀ b, b < B → S' b → S b) : Only S B w w2 :=
  h.trans (k.mono hB hS)
theorem at_ {b : Nat} {t : TypeId} {cs : List Value} (h : Only S B w w1) (hb : b < B) (hs : ¬ S b) (ha : At w b t cs) : At w1 b t cs := by
  unfold At; rw [h.block b hb hs]; exact ha
theorem cell {a : Addr} (h : Only S B w w1) (hb : a.block < B) (hs : ¬ S a.block) : w1.cell? a = w.cell? a := World.cell?_of_block (w := w) (h.block a.block hb hs)
end Only
theorem below_only {S : Nat → Prop} {base B : Nat} {w w1 w2 : World} (h : Below base w w1) (k : Only S B w1 w2) (hB : base ≤ B) (hS : ∀ b, S b → base ≤ b) : Below base w w2 :=
  h.trans (k.to_below hB hS)
theorem below_setCells {base b : Nat} {w w1 : World} (h : Below base w w1) (hb : base ≤ b) (vs : List Value) (o : Nat) : Below base w (w1.setCells b o vs) :=
  h.trans (((Only.refl (fun _ => False) base w1).setCells (.inr hb) vs o).to_below (Nat.le_refl _) (fun _ h => h.elim))
theorem results_cell_tmp {P : Program} {fn : Func} {p q : Tmp} {ty : TypeId} (h : fn.results = #[.cell p ty, .tmp q]) (tmps : Array Value) (w : World) (g : Nat) (t : TypeId) (cs : List Value) (d : TypeDesc)
    (hp : tmps.getD p undef = .pointer (some ⟨g, 0, none⟩)) (hg : At w g t cs) (hu : P.underlying ty = some d) (hd : d.isRow = true) (hi : (P.info? ty).map (·.size) = some cs.length) :
    (results fn tmps).run P w = .ok (.tuple #[.agg cs.toArray, tmps.getD q undef]) w := by
  have hp' : tmps[p]?.getD undef = .pointer (some ⟨g, 0, none⟩) := by simpa using hp
  have hg' : w.heap[g]? = some (.cells cs.toArray t (0, 0)) := hg
  simp [results, h, hp', asAddr, run_loadVar_row (P := P) w g t ty cs.toArray (0, 0) d hg' hu (by cases d <;> simp_all) (by simpa using hi)]
section
variable {P : Program} {ops : Array Oper} {rest : List Oper} {o : Oper} {a : Act} {w : World} {Q : Exit → Act → World → Prop}
theorem arm_alloc (hg : o.guard = none) (t : TypeId) (ho : o.op = .alloc t) (z : Value) (n : Nat) (hz : (P.info? t).map (fun i => (i.zero, i.size)) = some (some z, n))
    (h : ∀ W b, b = w.heap.size → W = w.alloc (.cells z.cells t) → wpList P ops Q rest (a.put o.dst (.pointer (some ⟨b, 0, none⟩))) W) : wpList P ops Q (o :: rest) a w := by
  refine wpList_plain hg fun K hK => ?_
  have hz' := (zero_of_info hz).1
  have hr : (execOp a.eval o).run P w = .ok (.value (.pointer (some ⟨w.heap.size, 0, none⟩))) (w.alloc (.cells z.cells t)) := by
    unfold execOp
    simp [ho, Instr.alloc, Sem.run_bind, hz', newVar, newRow]
  unfold Oper.wp
  rw [hr, Oper.upon_value]
  exact hK _ _ (h _ _ rfl rfl)
theorem arm_store_row (hg : o.guard = none) (ty : TypeId) (x y : Operand) (ho : o.op = .store ty x y) (b : Nat) (t : TypeId) (old cells : List Value) (hx : a.eval x = .pointer (some ⟨b, 0, none⟩)) (hy : a.eval y = .agg cells.toArray)
    (hA : At w b t old) (hl : old.length = cells.length) (hi : (P.info? ty).map (·.size) = some cells.length) (h1 : ∀ v ∈ cells, v.oneCell' = true)
    (h : ∀ W, W = w.setRow b cells.toArray → wpList P ops Q rest (a.put o.dst undef) W) : wpList P ops Q (o :: rest) a w :=
  wpList_store_row hg ty x y ho b cells.toArray hx hy t old.toArray hA (by simpa using hi) (by simpa using hl) (all_oneCell_toArray h1) (h _ rfl)
theorem arm_load_row (hg : o.guard = none) (ty : TypeId) (x : Operand) (ho : o.op = .load ty x) (b off : Nat) (hx : a.eval x = .pointer (some ⟨b, off, none⟩)) (cs : List Value) (hc : w.rangeAt b off cs)
    (hu : (P.underlying ty).map TypeDesc.isRow = some true) (hi : (P.info? ty).map (·.size) = some cs.length)
    (h : ∀ v, v = Value.agg cs.toArray → wpList P ops Q rest (a.put o.dst v) w) : wpList P ops Q (o :: rest) a w := by
  cases hq : P.underlying ty with
  | none => simp [hq] at hu
  | some d => exact wpList_load_mid hg ty x ho b off hx cs d hc hq (by simpa [hq] using hu) hi (h _ rfl)
theorem arm_copy (hgd : o.guard = none) (d s : Operand) (dT sT : TypeId)
    (ho : o.op = .call { callee := .builtin .copy, args := #[d, s], argTypes := #[dT, sT] }) (elem : TypeId) (hu : P.underlying dT = some (.slice elem)) (hsz : (P.info? elem).map (·.size) = some 1)
    (g off dLen dCap : Nat) (ad : Addr) (sLen sCap : Nat) (hd : a.eval d = .slice (some ⟨g, off, none⟩) dLen dCap) (hs : a.eval s = .slice (some ad) sLen sCap)
    (cur : List Value) (t : TypeId) (hA : At w g t cur) (cs : List Value) (hn : cs.length = Nat.min sLen dLen)
    (hsrc : ∀ j v, cs[j]? = some v → w.cell? (ad.add j) = some v) (hfit : off + cs.length ≤ cur.length) (h1 : ∀ v ∈ cs, v.oneCell' = true)
    (h : ∀ W, W = w.setRow g (splice cur off cs).toArray → wpList P ops Q rest (a.put o.dst (goInt cs.length)) W) : wpList P ops Q (o :: rest) a w :=
  wpList_copy_own hgd d s dT sT ho elem hu hsz g off dLen dCap ad sLen sCap hd hs cur.toArray t hA cs hn hsrc (by simpa using hfit) h1 (h _ (by simp [splice]))
theorem arm_build (hg : o.guard = none) (t : TypeId) (parts : Array (Nat × Operand)) (ho : o.op = .build t parts) (cells : List Value) (hf : P.built t (parts.map fun (i, x) => (i, a.eval x)).toList = some cells.toArray)
    (h : ∀ v, v = Value.agg cells.toArray → wpList P ops Q rest (a.put o.dst v) w) : wpList P ops Q (o :: rest) a w :=
  wpList_buildTo hg t parts ho o.dst rfl cells.toArray hf (h _ rfl)
theorem arm_box (hg : o.guard = none) (t : TypeId) (x : Operand) (ho : o.op = .box t x) (cells : List Value) (hx : a.eval x = .agg cells.toArray)
    (h : ∀ W b, b = w.heap.size → W = w.alloc (.cells cells.toArray t) → wpList P ops Q rest (a.put o.dst (.pointer (some ⟨b, 0, none⟩))) W) : wpList P ops Q (o :: rest) a w := by
  refine wpList_plain hg fun K hK => ?_
  have hr : (execOp a.eval o).run P w = .ok (.value (.pointer (some ⟨w.heap.size, 0, none⟩))) (w.alloc (.cells cells.toArray t)) := by
    unfold execOp
    simp [ho, hx, Instr.box, newVar, newRow, Value.cells]
  unfold Oper.wp
  rw [hr, Oper.upon_value]
  exact hK _ _ (h _ _ rfl rfl)
theorem arm_make (hg : o.guard = none) (l c : Operand) (t e : TypeId) (hop : o.op = Op.makeSlice t l c) (z : Value) (hz1 : z.cells = #[z]) (n bytes : Nat) (hu : P.underlying t = some (.slice e)) (hi : (P.info? e).map (fun i => (i.zero, i.size, i.bytes)) = some (some z, 1, bytes))
    (hl : a.eval l = .int .i64 (n : Int)) (hc : a.eval c = .int .i64 (n : Int)) (b2 : bytes * n ≤ 281474976710656) (b3 : n ≤ 1099511627776)
    (h : ∀ W b, b = w.heap.size → At W b e (List.replicate n z) → Below w.heap.size w W → wpList P ops Q rest (a.put o.dst (.slice (some ⟨b, 0, none⟩) n n)) W) : wpList P ops Q (o :: rest) a w := by
  cases hq : P.info? e with
  | none => simp [hq] at hi
  | some i =>
    simp [hq] at hi
    obtain ⟨h1, h2, h3⟩ := hi
    refine wpList_make_full w hg l c t hop w.heap.size e i z 1 hu hq h1 h2 .i64 .i64 n n n hl hc rfl rfl (by rw [h3]; exact b2) (by simp [maxLen]; omega) (Nat.le_refl _) ?_
    intro w' ho hgr
    refine h w' _ rfl ?_ ((Below.refl _ _).grown hgr (Nat.le_refl _) (fun k hk => by cases hk))
    obtain ⟨_, h5 | ⟨g, cap, cur, hv, _, hcell, _, _, hs, htake⟩⟩ := ho
    · exact absurd h5.1 (by simp)
    · simp at hv
      obtain ⟨rfl, rfl⟩ := hv
      unfold At
      rw [hcell]
      congr 2
      rw [Nat.mul_one] at hs htake
      rw [← hs, List.take_of_length_le (by simp)] at htake
      apply Array.toList_inj.1
      rw [htake, hs]
      rw [madeCells, hz1]
      apply List.ext_getElem
      · simp
      · intro j h1 h2
        simp [Nat.mod_one]
end
theorem run_slice_array {P : Program} (w : World) (t e : TypeId) (n b o q : Nat) (hu : P.underlying t = some (.array n e)) (he : (P.info? e).map (·.size) = some 1) (hq : q < n) :
    (Instr.sliceAt t (.pointer (some ⟨b, o, none⟩)) (some (.int .i64 (q : Int))) none none).run P w = .ok (.slice (some ⟨b, o + q, none⟩) (n - q) (n - q)) w := by
  cases hi : P.info? e with
  | none => simp [hi] at he
  | some i =>
    have hs : i.size = 1 := by simpa [hi] using he
    have h1 : (0 : Int) ≤ (q : Int) ∧ (q : Int) ≤ (n : Int) := by omega
    have h2 : ¬ n = q := by omega
    simp [Instr.sliceAt, Instr.sureAddr, Sem.run_bind, run_underlying hu w, Instr.sliceBounds, Instr.sliceBound, asIntOf, h1, h2, sizeOf, typeInfo, hi, hs, Addr.add_mid]
    intro h3
    omega
theorem run_index_row {P : Program} (w : World) (t e : TypeId) (n : Nat) (cs : List Value) (k : Nat) (v : Value) (d : TypeDesc) (hu : P.underlying t = some (.array n e)) (he : (P.info? e).map (·.size) = some 1) (hx : P.underlying e = some d) (hd : d.isRow = false)
    (hk : k < n) (hv : cs[k]? = some v) : (Instr.index t (.agg cs.toArray) (.int .i64 (k : Int))).run P w = .ok v w := by
  have hagg : (isAgg e).run P w = .ok false w := by
    unfold isAgg
    rw [Sem.run_bind, run_underlying hx w]
    cases d <;> simp_all
  cases hq : P.info? e with
  | none => simp [hq] at he
  | some i =>
    have hs : i.size = 1 := by simpa [hq] using he
    have h0 : (0 : Int) ≤ (k : Int) ∧ (k : Int) < (n : Int) := by omega
    simp [Instr.index, asIntOf, Sem.run_bind, run_underlying hu w, h0, hk, part, hagg, sizeOf, typeInfo, hq, hs, hv]
section
variable {P : Program} {ops : Array Oper} {w : World}
theorem still_of_quiet {o : Oper} {a : Act} {K K' : Act → Prop} (hK : ∀ a, K a → K' a) (h : o.quiet P a (fun w' => w' = w) K) : o.still P a w K' := by
  obtain ⟨v, h1, h2⟩ := h
  have h3 := h1 w rfl
  unfold Oper.quietAt at h3
  unfold Oper.still
  generalize (execOp a.eval o).run P w = r at *
  cases r with
  | ok n w' =>
    cases n <;> simp only [Oper.quietUpon] at h3 <;> simp only [Oper.stillUpon]
    case value u => obtain ⟨e1, e2⟩ := h3; subst e2; exact ⟨e1, hK _ h2⟩
    case skip => obtain ⟨e1, e2⟩ := h3; subst e2; exact ⟨e1, hK _ h2⟩
    case enter f args => obtain ⟨e1, hc⟩ := h3; exact ⟨e1, v, hc, hK _ h2⟩
  | halt x w' => simp only [Oper.quietUpon] at h3
theorem wpStill_of_quiet {Q : Act → Prop} : ∀ (l : List Oper) (a : Act), wpQuiet P ops (fun w' => w' = w) Q l a → wpStill P ops w Q l a
  | [], _, h => h
  | o :: l, a, h => by
    unfold wpQuiet at h
    unfold wpStill
    split
    · rename_i hw; rw [if_pos hw] at h; exact still_of_quiet (fun a' h' => wpStill_of_quiet l a' h') h
    · rename_i hw; rw [if_neg hw] at h; exact wpStill_of_quiet l _ h
theorem wp_region_quiet_tail {id : Nat} {Q : Exit → Act → World → Prop} {a : Act} {w : World} {l : List Oper} (n : Nat) (hm : P.follows .mixedOrders = true) (hB : Region.lexTailB .any l.toArray n = true)
    (h : wpQuiet P l.toArray (fun w' => w' = w.drew) (fun a' => wpList P l.toArray Q (l.drop n) a' w.drew) (l.take n) a) : (Code.region id l.toArray true).wp P Q a w :=
  wp_region_still_tail n hm hB (wpStill_of_quiet _ _ h)
end
end Go.Proofs.YtbpfmlckddhgbaaGreatDoor
/- SHA-256: words. -/
namespace Go.Proofs.YtbpfmlckddhgbaaGreatDoor
open Go Go.RowKit Go.Proofs.YtbpfmlckddhgbaaGreatDoorW.PrintWords
def rotr (x n : Int) : Int := bits .or .u32 (x / 2 ^ n.toNat) (x * 2 ^ (32 - n).toNat % 4294967296)
theorem bits_or_comm (k : IntKind) (x y : Int) : bits .or k x y = bits .or k y x := by
  simp only [bits, BitVec.or_comm]
theorem low5 : ∀ m : Nat, m < 32 → 1 ≤ m → bits .and .u64 (IntKind.u64.wrap (-(m : Int))) 31 = 32 - (m : Int) := by decide +kernel
theorem rotl_calls (x n : Int) (w : World) (h1 : 1 ≤ n) (h2 : n ≤ 31) : Calls Tryz.prog 230 #[.int .u32 x, .int .i64 (-n)] w fun e w' => e = .returned (.int .u32 (rotr x n)) ∧ w = w' := by
  have hb : bits .and .u64 (IntKind.u64.wrap (-n)) 31 = 32 - n := by
    obtain ⟨m, rfl⟩ := Int.eq_ofNat_of_zero_le (show 0 ≤ n by omega)
    exact low5 m (by omega) (by omega)
  go_enter Tryz.func230, Tryz.ntmps230
  go_wp2_with fail
  go_ret
  refine ⟨?_, rfl⟩
  show Ending.returned (.int .u32 (bits .or .u32 (x * 2 ^ (32 - n).toNat % 4294967296) (x / 2 ^ (32 - (32 - n)).toNat))) = _
  rw [show 32 - (32 - n) = n by omega, bits_or_comm]; rfl
def kWords : List Int := [1116352408, 1899447441, 3049323471, 3921009573, 961987163, 1508970993, 2453635748, 2870763221, 3624381080, 310598401, 607225278, 1426881987, 1925078388, 2162078206, 2614888103, 3248222580, 3835390401, 4022224774, 264347078, 604807628, 770255983, 1249150122, 1555081692, 1996064986, 2554220882, 2821834349, 2952996808, 3210313671, 3336571891, 3584528711, 113926993, 338241895, 666307205, 773529912, 1294757372, 1396182291, 1695183700, 1986661051, 2177026350, 2456956037, 2730485921, 2820302411, 3259730800, 3345764771, 3516065817, 3600352804, 4094571909, 275423344, 430227734, 506948616, 659060556, 883997877, 958139571, 1322822218, 1537002063, 1747873779, 1955562222, 2024104815, 2227730452, 2361852424, 2428436474, 2756734187, 3204031479, 3329325298]
def hWords : List Int := [1779033703, 3144134277, 1013904242, 2773480762, 1359893119, 2600822924, 528734635, 1541459225]
def u32v (x : Int) : Value := .int .u32 x
theorem info321 : (Tryz.prog.info? 321).map (fun i => (i.zero, i.size)) = some (some (.agg ((List.replicate 64 (u32v 0)).toArray)), 64) := by kernel_rfl
theorem info275 : (Tryz.prog.info? 275).map (fun i => (i.zero, i.size)) = some (some (.agg ((List.replicate 8 (u32v 0)).toArray)), 8) := by kernel_rfl
set_option maxRecDepth 20000 in
theorem rounds_calls (w : World) : Calls Tryz.prog 228 #[] w fun e w' => e = .returned (.agg (kWords.map u32v).toArray) ∧ Below w.heap.size w w' := by
  refine calls_of_wp Tryz.func228 rfl ?_
  apply wp_seq_k; intro K0 hK0
  apply wp_region_lit
  refine arm_alloc rfl 321 rfl _ _ info321 ?_
  intro W b hb hW
  apply wpList_nil
  refine hK0 _ _ ?_
  clear hK0 K0
  apply wp_seq_k; intro K0 hK0
  apply wp_region_lit
  refine wpList_buildFlatArrTo rfl 321 274 64 _ rfl .u32 kWords (some 1) rfl (by as_aux_lemma => kernel_rfl) (by as_aux_lemma => kernel_rfl) (by as_aux_lemma => kernel_rfl) (by as_aux_lemma => kernel_rfl) ?_
  have hA : At W b 321 (List.replicate 64 (u32v 0)) := by subst hb hW; exact At.new _ _ _
  refine arm_store_row rfl 321 _ _ rfl b 321 (List.replicate 64 (u32v 0)) (kWords.map u32v) (by as_aux_lemma => exact rfl) (by as_aux_lemma => exact rfl) hA (by as_aux_lemma => kernel_rfl) (by as_aux_lemma => kernel_rfl) (by as_aux_lemma => decide +kernel) ?_
  intro W1 hW1
  apply wpList_nil
  refine hK0 _ _ ?_
  clear hK0 K0
  refine wp_ret ?_
  have hA2 : At W1 b 321 (kWords.map u32v) := by subst hW1; exact hA.setRow _
  refine bodyPost_ret (results_cell_row rfl _ W1 b 321 _ (0, 0) (.array 64 274) (by as_aux_lemma => exact rfl) hA2 (by as_aux_lemma => kernel_rfl) rfl (by as_aux_lemma => kernel_rfl)) (by as_aux_lemma => exact rfl) ?_
  refine ⟨rfl, ?_⟩
  subst hW1 hW hb
  exact ((Only.refl (fun _ => False) w.heap.size w).alloc (Nat.le_refl _) _ |>.setRow (.inr (Nat.le_refl _)) _).to_below (Nat.le_refl _) (fun _ h => h.elim)
end Go.Proofs.YtbpfmlckddhgbaaGreatDoor
/- SHA-256: the state. -/
namespace Go.Proofs.YtbpfmlckddhgbaaGreatDoor
open Go Go.RowKit Go.Proofs.YtbpfmlckddhgbaaGreatDoorW.PrintWords
def hcells (ws : List Int) (bg : Bool) (r : List UInt8) (n : Int) : List Value := ws.map u32v ++ ([.bool bg] ++ (r.map bv ++ [.int .i64 n]))
def stateL (ws : List Int) (bg : Bool) : List Int := if bg then ws else hWords
theorem hcells_bg (ws : List Int) (bg : Bool) (r : List UInt8) (n : Int) (hl : ws.length = 8) : (hcells ws bg r n)[8]? = some (.bool bg) := by
  simp [hcells, hl]
theorem hcells_ws (ws : List Int) (bg : Bool) (r : List UInt8) (n : Int) (hl : ws.length = 8) : ((hcells ws bg r n).drop 0).take 8 = ws.map u32v := by
  simp [hcells, hl]
theorem size275 : (Tryz.prog.info? 275).map (·.size) = some 8 := by kernel_rfl
theorem u275 : Tryz.prog.underlying 275 = some (.array 8 274) := by kernel_rfl
theorem stateL_len {ws : List Int} {bg : Bool} (h : ws.length = 8) : (stateL ws bg).length = 8 := by
  unfold stateL; split
  · exact h
  · rfl
theorem one_u32 (xs : List Int) : ∀ v ∈ xs.map u32v, v.oneCell' = true := fun v hv => by obtain ⟨x, _, rfl⟩ := List.mem_map.1 hv; rfl
theorem state_calls (w : World) (b : Nat) (ws : List Int) (bg : Bool) (r : List UInt8) (n : Int) (hA : At w b 278 (hcells ws bg r n)) (hl : ws.length = 8) :
    Calls Tryz.prog 192 #[.pointer (some ⟨b, 0, none⟩)] w fun e w' => e = .returned (.agg ((stateL ws bg).map u32v).toArray) ∧ Below w.heap.size w w' := by
  have HA := Aside0.mk hA
  have Hl := Aside0.mk hl
  clear hA hl
  have HZ := Aside0.mk (show (List.replicate 8 (u32v 0)).length = 8 by rfl)
  go_enter Tryz.func192, Tryz.ntmps192
  go_wp2_with (first
    | (refine arm_alloc rfl 275 rfl _ _ info275 ?_; intro W c hc hW
       have A : At W b 278 (hcells ws bg r n) := by subst hW; exact HA.out.alloc _
       have C : At W c 275 (List.replicate 8 (u32v 0)) := by subst hW hc; exact At.new _ _ _
       have HB : Below w.heap.size w W := by subst hW; exact (Below.refl _ _).alloc (Nat.le_refl _) _
       have HC := Aside0.mk (show w.heap.size ≤ c by omega)
       have h8 : W.cell? ⟨b, 8, none⟩ = some (.bool bg) := by rw [A.cell]; exact hcells_bg ws bg r n Hl.out
       have XA := Aside0.mk A
       have XC := Aside0.mk C
       have XB := Aside0.mk HB
       clear A C HB hc hW)
    | (refine arm_load_row rfl 275 _ rfl b 0 rfl (ws.map u32v) (by rw [← hcells_ws ws bg r n Hl.out]; exact XA.out.rangeAt 0 8) (by kernel_rfl) (by rw [List.length_map, Hl.out]; exact size275) ?_
       intro v hv
       have XV := Aside0.mk hv
       clear hv)
    | (refine wpList_buildFlatArr rfl 275 274 8 _ rfl .u32 hWords (by as_aux_lemma => kernel_rfl) (by as_aux_lemma => kernel_rfl) (by as_aux_lemma => kernel_rfl) (by as_aux_lemma => kernel_rfl) ?_)
    | (refine arm_store_row rfl 275 _ _ rfl c 275 _ ((stateL ws bg).map u32v) rfl (by first | (rw [show stateL ws bg = ws from by simp [stateL, *]]; exact XV.out) | (rw [show stateL ws bg = hWords from by simp [stateL, *]]; rfl)) XC.out (by rw [List.length_map, stateL_len Hl.out]; rfl) (by rw [List.length_map, stateL_len Hl.out]; exact size275) (one_u32 _) ?_
       intro W1 hW1
       have D : At W1 c 275 ((stateL ws bg).map u32v) := by subst hW1; exact XC.out.setRow _
       have HB1 : Below w.heap.size w W1 := by subst hW1; exact XB.out.trans (((Only.refl (fun _ => False) _ _).setRow (.inr HC.out) _).to_below (Nat.le_refl _) (fun _ h => h.elim))
       have XD := Aside0.mk D
       have XB1 := Aside0.mk HB1
       clear D HB1 hW1))
  all_goals
    refine bodyPost_ret (results_cell_row rfl _ W1 c 275 _ (0, 0) (.array 8 274) rfl XD.out u275 rfl (by simp only [List.size_toArray, List.length_map, stateL_len Hl.out]; exact size275)) rfl ?_
    exact ⟨rfl, XB1.out⟩
end Go.Proofs.YtbpfmlckddhgbaaGreatDoor
/- SHA-256: a block. -/
namespace Go.Proofs.YtbpfmlckddhgbaaGreatDoor
open Go Go.RowKit Go.Proofs.YtbpfmlckddhgbaaGreatDoorW.PrintWords
def push8 (x : Int) (b : UInt8) : Int := bits .or .u32 (x * 256 % 4294967296) ((b.toNat : Int) % 4294967296)
def wordAt (r : List UInt8) (k : Nat) : Int := ((r.drop (4 * k)).take 4).foldl push8 0
def words16 (r : List UInt8) : List Int := (List.range 16).map (wordAt r)
def wsUp (xs : List Int) : List Value := xs.map u32v ++ List.replicate (64 - xs.length) (u32v 0)
def wsAt (xs : List Int) (x : Int) : List Value := xs.map u32v ++ u32v x :: List.replicate (63 - xs.length) (u32v 0)
theorem wsUp_at (xs : List Int) (h : xs.length < 64) : wsUp xs = wsAt xs 0 := by
  unfold wsUp wsAt
  rw [show 64 - xs.length = (63 - xs.length) + 1 by omega, List.replicate_succ]
theorem wsAt_up (xs : List Int) (x : Int) : wsAt xs x = wsUp (xs ++ [x]) := by
  unfold wsUp wsAt
  simp only [List.map_append, List.length_append, List.map_cons, List.map_nil, List.append_assoc, List.singleton_append, List.length_cons, List.length_nil]
  rw [show 64 - (xs.length + (0 + 1)) = 63 - xs.length by omega]
theorem wsAt_get (xs : List Int) (x : Int) (k : Nat) (hk : k = xs.length) : (wsAt xs x)[k]? = some (u32v x) := by
  subst hk; unfold wsAt; simp
theorem wsAt_set (xs : List Int) (x y : Int) (k : Nat) (hk : k = xs.length) : (wsAt xs x).set k (u32v y) = wsAt xs y := by
  subst hk; unfold wsAt; simp
theorem hcells_r (ws : List Int) (bg : Bool) (r : List UInt8) (n : Int) (hl : ws.length = 8) (k : Nat) (hk : k < r.length) : (hcells ws bg r n)[9 + k]? = some (bv (r.getD k 0)) := by
  unfold hcells
  rw [List.getElem?_append_right (by simp; omega), List.getElem?_append_right (by simp; omega), List.getElem?_append_left (by simp; omega)]
  simp only [List.length_map, hl, List.length_cons, List.length_nil]
  rw [show 9 + k - 8 - (0 + 1) = k by omega, List.getElem?_map, List.getElem?_eq_getElem hk, List.getD_eq_getElem?_getD, List.getElem?_eq_getElem hk]
  rfl
def wordTo (r : List UInt8) (k j : Nat) : Int := ((r.drop (4 * k)).take j).foldl push8 0
theorem wordTo_succ (r : List UInt8) (k j : Nat) (h : 4 * k + j < r.length) : wordTo r k (j + 1) = push8 (wordTo r k j) (r.getD (4 * k + j) 0) := by
  unfold wordTo
  rw [List.take_add_one, List.foldl_append, List.getElem?_drop, List.getElem?_eq_getElem h, List.getD_eq_getElem?_getD, List.getElem?_eq_getElem h]
  rfl
theorem size321 : (Tryz.prog.info? 321).map (·.size) = some 64 := by kernel_rfl
theorem size274 : (Tryz.prog.info? 274).map (·.size) = some 1 := by kernel_rfl
theorem u274 : Tryz.prog.underlying 274 = some (.int .u32) := by kernel_rfl
theorem wordTo_4 (r : List UInt8) (k : Nat) : wordTo r k 4 = wordAt r k := rfl
theorem wsUp_get (xs : List Int) (k : Nat) (h : k < xs.length) : (wsUp xs)[k]? = some (u32v (xs.getD k 0)) := by
  unfold wsUp
  rw [List.getElem?_append_left (by simpa using h), List.getElem?_map, List.getElem?_eq_getElem h, List.getD_eq_getElem?_getD, List.getElem?_eq_getElem h]
  rfl
theorem wsUp_set (xs : List Int) (y : Int) (k : Nat) (hk : k = xs.length) (h : k < 64) : (wsUp xs).set k (u32v y) = wsUp (xs ++ [y]) := by
  rw [wsUp_at xs (by omega), wsAt_set xs 0 y k hk, wsAt_up]
theorem right_calls (x n : Int) (w : World) (h1 : 1 ≤ n) (h2 : n ≤ 31) : Calls Tryz.prog 229 #[.int .u32 x, .int .i64 n] w fun e w' => e = .returned (.int .u32 (rotr x n)) ∧ w' = w := by
  go_enter Tryz.func229, Tryz.ntmps229
  go_wp2_with (go_at_call 230; refine (rotl_calls x n _ h1 h2).mono ?_; rintro e w' ⟨rfl, rfl⟩)
  go_ret
  exact ⟨rfl, rfl⟩
def sg0 (x : Int) : Int := bits .xor .u32 (bits .xor .u32 (rotr x 7) (rotr x 18)) (x / 8)
def sg1 (x : Int) : Int := bits .xor .u32 (bits .xor .u32 (rotr x 17) (rotr x 19)) (x / 1024)
def nextW (xs : List Int) (k : Nat) : Int := (xs.getD k 0 + sg0 (xs.getD (k + 1) 0) + xs.getD (k + 9) 0 + sg1 (xs.getD (k + 14) 0)) % 4294967296
def rndP (k x e f g h : Int) : Int := h + bits .xor .u32 (bits .xor .u32 (rotr e 6) (rotr e 11)) (rotr e 25) + bits .xor .u32 (bits .and .u32 e f) (bits .and .u32 (bits .xor .u32 IntKind.u32.max e) g) + k + x
def rndQ (a b c : Int) : Int := bits .xor .u32 (bits .xor .u32 (rotr a 2) (rotr a 13)) (rotr a 22) + bits .xor .u32 (bits .xor .u32 (bits .and .u32 a b) (bits .and .u32 a c)) (bits .and .u32 b c)
def rnd (k x : Int) : List Int → List Int
  | [a, b, c, d, e, f, g, h] => [(rndP k x e f g h + rndQ a b c) % 4294967296, a, b, c, (d + rndP k x e f g h) % 4294967296, e, f, g]
  | s => s
def rndsTo (ks xs : List Int) : Nat → List Int → List Int
  | 0, s => s
  | n + 1, s => rnd (ks.getD n 0) (xs.getD n 0) (rndsTo ks xs n s)
theorem rnd_len (k x : Int) (s : List Int) : (rnd k x s).length = s.length := by
  unfold rnd; split <;> rfl
theorem rndsTo_len (ks xs : List Int) (n : Nat) (s : List Int) : (rndsTo ks xs n s).length = s.length := by
  induction n with
  | zero => rfl
  | succ n ih => rw [rndsTo, rnd_len, ih]
theorem eight {s : List Int} (h : s.length = 8) : ∃ a b c d e f g i, s = [a, b, c, d, e, f, g, i] := by
  match s, h with
  | [a, b, c, d, e, f, g, i], _ => exact ⟨a, b, c, d, e, f, g, i, rfl⟩
theorem map_get (xs : List Int) (k : Nat) (h : k < xs.length) : (xs.map u32v)[k]? = some (.int .u32 (xs.getD k 0)) := by
  rw [List.getElem?_map, List.getElem?_eq_getElem h, List.getD_eq_getElem?_getD, List.getElem?_eq_getElem h]
  rfl
def addL (xs ys : List Int) : List Int := List.zipWith (fun x y => (x + y) % 4294967296) xs ys
theorem addL_len (xs ys : List Int) (h1 : xs.length = 8) (h2 : ys.length = 8) : (addL xs ys).length = 8 := by simp [addL, h1, h2]
theorem hcells_w (ws : List Int) (bg : Bool) (r : List UInt8) (n : Int) (k : Nat) (hk : k < ws.length) : (hcells ws bg r n)[k]? = some (u32v (ws.getD k 0)) := by
  unfold hcells
  rw [List.getElem?_append_left (by simpa using hk)]
  exact map_get ws k hk
theorem hcells_setw (ws : List Int) (bg : Bool) (r : List UInt8) (n : Int) (k : Nat) (y : Int) (hk : k < ws.length) : (hcells ws bg r n).set k (u32v y) = hcells (ws.set k y) bg r n := by
  unfold hcells
  rw [List.set_append_left _ _ (by simpa using hk), List.map_set]
theorem hcells_setbg (ws : List Int) (bg bg' : Bool) (r : List UInt8) (n : Int) (hk : ws.length = 8) : (hcells ws bg r n).set 8 (.bool bg') = hcells ws bg' r n := by
  unfold hcells
  rw [List.set_append_right _ _ (by simp [hk])]
  simp [hk]
theorem take_set (xs ys : List Int) (k : Nat) (x : Int) (h1 : xs[k]? = some x) (h2 : k < ys.length) : (xs.take k ++ ys.drop k).set k x = xs.take (k + 1) ++ ys.drop (k + 1) := by
  have hk : k < xs.length := (List.getElem?_eq_some_iff.1 h1).1
  rw [List.set_append_right _ _ (by rw [List.length_take]; omega), List.take_add_one, h1, List.append_assoc, show k - (xs.take k).length = 0 by rw [List.length_take]; omega, List.drop_eq_getElem_cons h2]
  rfl
def schedTo : Nat → List Int → List Int
  | 0, xs => xs
  | n + 1, xs => schedTo n xs ++ [nextW (schedTo n xs) n]
theorem schedTo_len (n : Nat) (xs : List Int) : (schedTo n xs).length = xs.length + n := by
  induction n with
  | zero => rfl
  | succ n ih => simp [schedTo, ih]; omega
def blockL (st : List Int) (r : List UInt8) : List Int := addL st (rndsTo kWords (schedTo 48 (words16 r)) 64 st)
set_option maxRecDepth 4000 in
set_option maxHeartbeats 4000000 in
theorem block_calls (w : World) (b : Nat) (ws : List Int) (bg : Bool) (r : List UInt8) (n : Int) (hA : At w b 278 (hcells ws bg r n)) (hl : ws.length = 8) (hr : r.length = 64) :
    Calls Tryz.prog 191 #[.pointer (some ⟨b, 0, none⟩), .slice (some ⟨b, 9, none⟩) 64 64] w fun e w' => e = .returned (.tuple #[]) ∧ At w' b 278 (hcells (blockL (stateL ws bg) r) true r n) ∧ Only (· = b) w.heap.size w w' := by
  have HA := Aside0.mk hA
  have Hl := Aside0.mk hl
  have Hr := Aside0.mk hr
  clear hA hl hr
  have HZ := Aside0.mk (show (List.replicate 8 (u32v 0)).length = 8 by rfl)
  go_enter Tryz.func191, Tryz.ntmps191
  have S0 := Aside0.mk (Only.refl (· = b) w.heap.size w)
  have Z64 := Aside0.mk (show (List.replicate 64 (u32v 0)).length = (kWords.map u32v).length by rfl)
  go_wp2_with (first
    | (go_at_call 228; refine (rounds_calls _).mono ?_; rintro e wa ⟨rfl, hB⟩
       obtain ⟨kv, hkv⟩ : ∃ v, v = Value.agg (kWords.map u32v).toArray := ⟨_, rfl⟩
       rw [← hkv]
       have KV := Aside0.mk hkv
       clear hkv
       have hA : At wa b 278 (hcells ws bg r n) := HA.out.below hB HA.out.lt
       have hS : Only (· = b) w.heap.size w wa := S0.out.trans (Only.of_below hB)
       have HA := Aside0.mk hA
       have S0 := Aside0.mk hS
       clear hA hB hS)
    | (refine arm_alloc rfl 321 rfl _ _ info321 ?_; intro W b5 hb hW
       have hA : At W b 278 (hcells ws bg r n) := by subst hW; exact HA.out.alloc _
       have hK : At W b4 321 (kWords.map u32v) := by subst hW; exact K4.out.alloc _
       have hN : At W b5 321 (List.replicate 64 (u32v 0)) := by subst hW hb; exact At.new _ _ _
       have hS : Only (· = b) w.heap.size w W := by subst hW; exact S0.out.alloc S0.out.size _
       have L5 := Aside0.mk (show w.heap.size ≤ b5 by rw [hb]; exact S0.out.size)
       have D5 := Aside0.mk (show b4 ≠ b5 ∧ b ≠ b5 from ⟨by have := K4.out.lt; omega, by have := HA.out.lt; omega⟩)
       have HA := Aside0.mk hA
       have S0 := Aside0.mk hS
       have K4 := Aside0.mk hK
       have W5 := Aside0.mk hN
       clear hA hK hN hS hb hW)
    | (refine arm_alloc rfl 321 rfl _ _ info321 ?_; intro W b4 hb hW
       have hA : At W b 278 (hcells ws bg r n) := by subst hW; exact HA.out.alloc _
       have hN : At W b4 321 (List.replicate 64 (u32v 0)) := by subst hW hb; exact At.new _ _ _
       have hS : Only (· = b) w.heap.size w W := by subst hW; exact S0.out.alloc S0.out.size _
       have L4 := Aside0.mk (show w.heap.size ≤ b4 by rw [hb]; exact S0.out.size)
       have D4 := Aside0.mk (show b ≠ b4 by have := HA.out.lt; omega)
       have HA := Aside0.mk hA
       have S0 := Aside0.mk hS
       have K4 := Aside0.mk hN
       clear hA hN hS hb hW)
    | (refine arm_store_row rfl 321 _ _ rfl b4 321 _ (kWords.map u32v) rfl KV.out K4.out Z64.out size321 (one_u32 _) ?_
       intro W hW
       have hA : At W b 278 (hcells ws bg r n) := by subst hW; exact HA.out.setRow_other D4.out _
       have hK : At W b4 321 (kWords.map u32v) := by subst hW; exact K4.out.setRow _
       have hS : Only (· = b) w.heap.size w W := by subst hW; exact S0.out.setRow (.inr L4.out) _
       have HA := Aside0.mk hA
       have S0 := Aside0.mk hS
       have K4 := Aside0.mk hK
       clear hA hK hS hW)
    | fail)
  obtain ⟨W0, hW0⟩ : ∃ W0, W0 = W := ⟨_, rfl⟩
  go_loopg [22] 16 (fun g i wr => ∃ k : Nat, k + g = 16 ∧ i = .int .i64 k ∧ Aside0 (At wr b 278 (hcells ws bg r n)) ∧ Aside0 (At wr b4 321 (kWords.map u32v)) ∧
    Aside0 (At wr b5 321 (wsUp ((List.range k).map (wordAt r)))) ∧ Aside0 (Only (· = b) w.heap.size w wr))
  case atStart => exact ⟨0, rfl, rfl, HA, K4, W5, S0⟩
  case round =>
    obtain ⟨k, hk, rfl, HA, K4, W5, S0⟩ := hrel
    by_cases hlt : k < 16
    · go_wp2_with fail
      have W5x := Aside0.mk (wsUp_at ((List.range k).map (wordAt r)) (by simp; omega) ▸ W5.out)
      go_loopg [33] 4 (fun g i wr => ∃ j : Nat, j + g = 4 ∧ i = .int .i64 j ∧ Aside0 (At wr b 278 (hcells ws bg r n)) ∧ Aside0 (At wr b4 321 (kWords.map u32v)) ∧
        Aside0 (At wr b5 321 (wsAt ((List.range k).map (wordAt r)) (wordTo r k j))) ∧ Aside0 (Only (· = b) w.heap.size w wr))
      case atStart => exact ⟨0, rfl, rfl, HA, K4, W5x, S0⟩
      case round =>
        obtain ⟨j, hj, rfl, HA, K4, W5, S0⟩ := hrel
        by_cases hjl : j < 4
        · obtain ⟨c, hc⟩ : ∃ c, c = r.getD (4 * k + j) 0 := ⟨_, rfl⟩
          obtain ⟨x, hx⟩ : ∃ x, x = wordTo r k j := ⟨_, rfl⟩
          have h1 : wr.cell? ⟨b, 9 + 4 * k + j, none⟩ = some (.int .u8 (c.toNat : Int)) := by
            rw [HA.out.cell, Nat.add_assoc, hcells_r _ _ _ _ Hl.out _ (by rw [Hr.out]; omega), ← hc]; rfl
          have h2 : wr.cell? ⟨b5, k, none⟩ = some (.int .u32 x) := by
            rw [W5.out.cell, wsAt_get _ _ _ (by simp), ← hx]; rfl
          have h3 : wr.frozen? ⟨b5, k, none⟩ = false := W5.out.frozen k
          have XC := Aside0.mk hc
          have XX := Aside0.mk hx
          clear hc hx
          go_wp2_with fail
          go_roundg (4 - (j + 1))
          case measure => omega
          case rel =>
            refine ⟨j + 1, by omega, by go_num, ⟨HA.out.setCell_other (show b ≠ b5 from D5.out.2) _⟩, ⟨K4.out.setCell_other (show b4 ≠ b5 from D5.out.1) _⟩, ⟨?_⟩, ⟨S0.out.setCell (.inr L5.out) _⟩⟩
            have e := W5.out.setCell k (u32v (wordTo r k (j + 1)))
            rw [wsAt_set _ _ _ _ (by simp)] at e
            rw [wordTo_succ r k j (by rw [Hr.out]; omega), ← XC.out, ← XX.out] at e
            rw [wordTo_succ r k j (by rw [Hr.out]; omega), ← XC.out, ← XX.out]
            exact e
        · obtain rfl : j = 4 := by omega
          go_wp2_with fail
          go_roundg (16 - (k + 1))
          case measure => omega
          case rel =>
            refine ⟨k + 1, by omega, by go_num, HA, K4, ⟨?_⟩, S0⟩
            have e := W5.out
            rw [wordTo_4, wsAt_up] at e
            rw [List.range_succ, List.map_append]
            exact e
    · obtain rfl : k = 16 := by omega
      go_wp2_with fail
      have X5 : Aside0 (At wr b5 321 (wsUp (words16 r))) := W5
      go_loopg [10] 48 (fun g i wr => ∃ k : Nat, k + g = 48 ∧ i = .int .i64 (k + 16) ∧ Aside0 (At wr b 278 (hcells ws bg r n)) ∧ Aside0 (At wr b4 321 (kWords.map u32v)) ∧
        Aside0 (At wr b5 321 (wsUp (schedTo k (words16 r)))) ∧ Aside0 (Only (· = b) w.heap.size w wr))
      case atStart => exact ⟨0, rfl, by go_num, HA, K4, X5, S0⟩
      case round =>
        obtain ⟨k, hk, rfl, HA, K4, W5, S0⟩ := hrel
        by_cases hlt : k < 48
        · obtain ⟨xs, hxs⟩ : ∃ xs, xs = schedTo k (words16 r) := ⟨_, rfl⟩
          have hxl : xs.length = k + 16 := by rw [hxs, schedTo_len]; simp [words16]; omega
          rw [← hxs] at W5
          have c1 : wr.cell? ⟨b5, k + 1, none⟩ = some (.int .u32 (xs.getD (k + 1) 0)) := by rw [W5.out.cell, wsUp_get _ _ (by omega)]; rfl
          have c14 : wr.cell? ⟨b5, k + 14, none⟩ = some (.int .u32 (xs.getD (k + 14) 0)) := by rw [W5.out.cell, wsUp_get _ _ (by omega)]; rfl
          have c0 : wr.cell? ⟨b5, k, none⟩ = some (.int .u32 (xs.getD k 0)) := by rw [W5.out.cell, wsUp_get _ _ (by omega)]; rfl
          have c9 : wr.cell? ⟨b5, k + 9, none⟩ = some (.int .u32 (xs.getD (k + 9) 0)) := by rw [W5.out.cell, wsUp_get _ _ (by omega)]; rfl
          have c16 : wr.cell? ⟨b5, k + 16, none⟩ = some (.int .u32 0) := by rw [W5.out.cell, wsUp_at xs (by omega), wsAt_get _ _ _ (by omega)]; rfl
          generalize hx1 : xs.getD (k + 1) 0 = x1 at c1
          generalize hx14 : xs.getD (k + 14) 0 = x14 at c14
          generalize hx0 : xs.getD k 0 = x0 at c0
          generalize hx9 : xs.getD (k + 9) 0 = x9 at c9
          have h3 : wr.frozen? ⟨b5, k + 16, none⟩ = false := W5.out.frozen _
          have XS := Aside0.mk hxs
          have XL := Aside0.mk hxl
          have X1 := Aside0.mk hx1
          have X14 := Aside0.mk hx14
          have X0 := Aside0.mk hx0
          have X9 := Aside0.mk hx9
          clear hxs hxl hx1 hx14 hx0 hx9
          go_wp2_with fail
          go_quiet (fail)
          go_wp2_with fail
          refine wp_region_quiet_tail 33 (by kernel_rfl) (by kernel_rfl) ?_
          simp only [List.take_succ_cons, List.take_zero, List.drop_succ_cons, List.drop_zero]
          repeat (first | go_big_quiet_skip | (go_big_quiet_want; go_big_quiet_op; first | go_big_quiet_on | (apply Exists.intro; refine ⟨?_, ?_⟩; (· ((go_at_call 229; exact right_calls _ _ _ (by omega) (by omega)))); go_big_quiet_on)))
          refine wpQuiet_nil ?_
          go_wp2_with fail
          go_roundg (48 - (k + 1))
          case measure => omega
          case rel =>
            refine ⟨k + 1, by omega, by go_num, ⟨HA.out.drewN _ |>.setCell_other (show b ≠ b5 from D5.out.2) _⟩, ⟨K4.out.drewN _ |>.setCell_other (show b4 ≠ b5 from D5.out.1) _⟩, ⟨?_⟩, ⟨S0.out.drewN _ |>.setCell (.inr L5.out) _⟩⟩
            have e := (W5.out.drewN (nq + 1)).setCell (k + 16) (u32v (nextW xs k))
            rw [wsUp_set _ _ _ XL.out.symm (by omega)] at e
            rw [schedTo, ← XS.out]
            rw [nextW, X1.out, X14.out, X0.out, X9.out] at e
            rw [nextW, X1.out, X14.out, X0.out, X9.out]
            exact e
        · obtain rfl : k = 48 := by omega
          obtain ⟨st, hst⟩ : ∃ st, st = stateL ws bg := ⟨_, rfl⟩
          have STL := Aside0.mk (show st.length = 8 by rw [hst]; exact stateL_len Hl.out)
          have ST := Aside0.mk hst
          clear hst
          go_wp2_with (first
            | (go_at_call 192; refine (state_calls _ b ws bg r n HA.out Hl.out).mono ?_; rintro e wa ⟨rfl, hB⟩
               obtain ⟨sv, hsv⟩ : ∃ v, v = Value.agg ((stateL ws bg).map u32v).toArray := ⟨_, rfl⟩
               rw [← hsv]
               have SV := Aside0.mk hsv
               clear hsv
               have hA : At wa b 278 (hcells ws bg r n) := HA.out.below hB HA.out.lt
               have hK : At wa b4 321 (kWords.map u32v) := K4.out.below hB K4.out.lt
               have hX : At wa b5 321 (wsUp (schedTo 48 (words16 r))) := W5.out.below hB W5.out.lt
               have hS : Only (· = b) w.heap.size w wa := S0.out.trans (Only.of_below (hB.mono S0.out.size))
               have HA := Aside0.mk hA
               have S0 := Aside0.mk hS
               have K4 := Aside0.mk hK
               have W5 := Aside0.mk hX
               clear hA hB hS hK hX)
            | (refine arm_alloc rfl 275 rfl _ _ info275 ?_; intro W b6 hb hW
               have hA : At W b 278 (hcells ws bg r n) := by subst hW; exact HA.out.alloc _
               have hK : At W b4 321 (kWords.map u32v) := by subst hW; exact K4.out.alloc _
               have hX : At W b5 321 (wsUp (schedTo 48 (words16 r))) := by subst hW; exact W5.out.alloc _
               have hN : At W b6 275 (List.replicate 8 (u32v 0)) := by subst hW hb; exact At.new _ _ _
               have hS : Only (· = b) w.heap.size w W := by subst hW; exact S0.out.alloc S0.out.size _
               have L6 := Aside0.mk (show w.heap.size ≤ b6 by rw [hb]; exact S0.out.size)
               have D6 := Aside0.mk (show b4 ≠ b6 ∧ b5 ≠ b6 ∧ b ≠ b6 from ⟨by have := K4.out.lt; omega, by have := W5.out.lt; omega, by have := HA.out.lt; omega⟩)
               have HA := Aside0.mk hA
               have S0 := Aside0.mk hS
               have K4 := Aside0.mk hK
               have W5 := Aside0.mk hX
               have V6 := Aside0.mk hN
               clear hA hK hN hS hX hb hW)
            | (refine arm_store_row rfl 275 _ _ rfl b6 275 _ (st.map u32v) rfl (ST.out ▸ SV.out) V6.out (by rw [List.length_map, STL.out]; rfl) (by rw [List.length_map, STL.out]; exact size275) (one_u32 _) ?_
               intro W hW
               have hA : At W b 278 (hcells ws bg r n) := by subst hW; exact HA.out.setRow_other D6.out.2.2 _
               have hK : At W b4 321 (kWords.map u32v) := by subst hW; exact K4.out.setRow_other D6.out.1 _
               have hX : At W b5 321 (wsUp (schedTo 48 (words16 r))) := by subst hW; exact W5.out.setRow_other D6.out.2.1 _
               have hV : At W b6 275 (st.map u32v) := by subst hW; exact V6.out.setRow _
               have hS : Only (· = b) w.heap.size w W := by subst hW; exact S0.out.setRow (.inr L6.out) _
               have HA := Aside0.mk hA
               have S0 := Aside0.mk hS
               have K4 := Aside0.mk hK
               have W5 := Aside0.mk hX
               have V6 := Aside0.mk hV
               clear hA hK hS hX hV hW)
            | fail)
          obtain ⟨xs, hxs⟩ : ∃ xs, xs = schedTo 48 (words16 r) := ⟨_, rfl⟩
          rw [← hxs] at W5
          have XL := Aside0.mk (show xs.length = 64 by rw [hxs, schedTo_len]; rfl)
          have XS := Aside0.mk hxs
          clear hxs
          go_loopg [95] 64 (fun g i wr => ∃ k : Nat, k + g = 64 ∧ i = .int .i64 k ∧ Aside0 (At wr b 278 (hcells ws bg r n)) ∧ Aside0 (At wr b4 321 (kWords.map u32v)) ∧
            Aside0 (At wr b5 321 (wsUp xs)) ∧ Aside0 (At wr b6 275 ((rndsTo kWords xs k st).map u32v)) ∧ Aside0 (Only (· = b) w.heap.size w wr))
          case atStart => exact ⟨0, rfl, rfl, HA, K4, W5, V6, S0⟩
          case round =>
            obtain ⟨k, hk, rfl, HA, K4, W5, V6, S0⟩ := hrel
            by_cases hlt : k < 64
            · have h8 := rndsTo_len kWords xs k st
              rw [STL.out] at h8
              obtain ⟨a, b', c, d, e, f, g, hh, hs⟩ := eight h8
              clear h8
              rw [hs] at V6
              have RS := Aside0.mk hs
              clear hs
              have v0 : wr.cell? ⟨b6, 0, none⟩ = some (.int .u32 a) := by rw [V6.out.cell]; rfl
              have v1 : wr.cell? ⟨b6, 1, none⟩ = some (.int .u32 b') := by rw [V6.out.cell]; rfl
              have v2 : wr.cell? ⟨b6, 2, none⟩ = some (.int .u32 c) := by rw [V6.out.cell]; rfl
              have v4 : wr.cell? ⟨b6, 4, none⟩ = some (.int .u32 e) := by rw [V6.out.cell]; rfl
              have v5 : wr.cell? ⟨b6, 5, none⟩ = some (.int .u32 f) := by rw [V6.out.cell]; rfl
              have v6 : wr.cell? ⟨b6, 6, none⟩ = some (.int .u32 g) := by rw [V6.out.cell]; rfl
              have v7 : wr.cell? ⟨b6, 7, none⟩ = some (.int .u32 hh) := by rw [V6.out.cell]; rfl
              have ck : wr.cell? ⟨b4, k, none⟩ = some (.int .u32 (kWords.getD k 0)) := by rw [K4.out.cell]; exact map_get _ _ hlt
              have cw : wr.cell? ⟨b5, k, none⟩ = some (.int .u32 (xs.getD k 0)) := by rw [W5.out.cell, wsUp_get _ _ (by rw [XL.out]; exact hlt)]; rfl
              generalize hkk : kWords.getD k 0 = kk at ck
              generalize hxx : xs.getD k 0 = xx at cw
              have KK := Aside0.mk hkk
              have XX := Aside0.mk hxx
              clear hkk hxx
              go_wp2_with fail
              go_quiet (fail)
              go_wp2_with fail
              go_quiet ((go_at_call 229; exact quiet_more (right_calls _ _ _ (by omega) (by omega))))
              go_wp2_with fail
              go_quiet ((go_at_call 229; exact quiet_more (right_calls _ _ _ (by omega) (by omega))))
              go_wp2_with fail
              refine wp_region_quiet_tail 2 (by kernel_rfl) (by kernel_rfl) ?_
              simp only [List.take_succ_cons, List.take_zero, List.drop_succ_cons, List.drop_zero]
              repeat (first | go_big_quiet_skip | (go_big_quiet_want; go_big_quiet_op; first | go_big_quiet_on | (apply Exists.intro; refine ⟨?_, ?_⟩; (· (fail)); go_big_quiet_on)))
              refine wpQuiet_nil ?_
              refine arm_copy rfl _ _ 324 324 rfl 274 (by kernel_rfl) (by kernel_rfl) b6 1 7 7 ⟨b6, 0, none⟩ 7 8 rfl rfl _ 275 V6.out ([a, b', c, d, e, f, g].map u32v) rfl (fun j v hv => by rw [Addr.add_mid]; exact V6.out.rangeAt 0 7 j v hv) (Nat.le_refl _) (one_u32 _) ?_
              intro W hW
              have hA : At W b 278 (hcells ws bg r n) := by subst hW; exact At.setRow_other (b := b) HA.out D6.out.2.2 _
              have hK : At W b4 321 (kWords.map u32v) := by subst hW; exact At.setRow_other (b := b4) K4.out D6.out.1 _
              have hX : At W b5 321 (wsUp xs) := by subst hW; exact At.setRow_other (b := b5) W5.out D6.out.2.1 _
              have hV : At W b6 275 ([a, a, b', c, d, e, f, g].map u32v) := by subst hW; exact At.setRow (b := b6) (cs := [a, b', c, d, e, f, g, hh].map u32v) V6.out _
              have hS : Only (· = b) w.heap.size w W := by subst hW; exact (((S0.out.drewN _).drewN _).drew).setRow (.inr L6.out) _
              clear v0 v1 v2 v4 v5 v6 v7 ck cw
              have z0 : W.cell? ⟨b6, 0, none⟩ = some (.int .u32 a) := by rw [hV.cell]; rfl
              have z4 : W.cell? ⟨b6, 4, none⟩ = some (.int .u32 d) := by rw [hV.cell]; rfl
              have f0 : W.frozen? ⟨b6, 0, none⟩ = false := hV.frozen _
              have f4 : W.frozen? ⟨b6, 4, none⟩ = false := hV.frozen _
              have HA := Aside0.mk hA
              have S0 := Aside0.mk hS
              have K4 := Aside0.mk hK
              have W5 := Aside0.mk hX
              have V6 := Aside0.mk hV
              clear hA hK hS hX hV hW
              go_wp2_with fail
              go_roundg (64 - (k + 1))
              case measure => omega
              case rel =>
                refine ⟨k + 1, by omega, by go_num, ⟨(HA.out.setCell_other (show b ≠ b6 from D6.out.2.2) _).setCell_other (show b ≠ b6 from D6.out.2.2) _⟩, ⟨(K4.out.setCell_other (show b4 ≠ b6 from D6.out.1) _).setCell_other (show b4 ≠ b6 from D6.out.1) _⟩,
                  ⟨(W5.out.setCell_other (show b5 ≠ b6 from D6.out.2.1) _).setCell_other (show b5 ≠ b6 from D6.out.2.1) _⟩, ⟨?_⟩, ⟨(S0.out.setCell (.inr L6.out) _).setCell (.inr L6.out) _⟩⟩
                have e1 := (V6.out.setCell 4 (u32v ((d + rndP kk xx e f g hh) % 4294967296))).setCell 0 (u32v ((rndP kk xx e f g hh + rndQ a b' c) % 4294967296))
                rw [rndsTo, RS.out, KK.out, XX.out]
                exact e1
            · obtain rfl : k = 64 := by omega
              go_wp2_with (go_at_call 192; refine (state_calls _ b ws bg r n HA.out Hl.out).mono ?_; rintro e wa ⟨rfl, hB⟩
                           rw [← ST.out]
                           have hA : At wa b 278 (hcells ws bg r n) := HA.out.below hB HA.out.lt
                           have hV : At wa b6 275 ((rndsTo kWords xs 64 st).map u32v) := V6.out.below hB V6.out.lt
                           have hS : Only (· = b) w.heap.size w wa := S0.out.trans (Only.of_below (hB.mono S0.out.size))
                           have HA := Aside0.mk hA
                           have S0 := Aside0.mk hS
                           have V6 := Aside0.mk hV
                           clear hA hB hS hV)
              obtain ⟨sz, hsz⟩ : ∃ sz, sz = rndsTo kWords xs 64 st := ⟨_, rfl⟩
              rw [← hsz] at V6
              have ZL := Aside0.mk (show sz.length = 8 by rw [hsz, rndsTo_len, STL.out])
              have ZS := Aside0.mk hsz
              clear hsz
              go_loopg [177] 8 (fun g i wr => ∃ k : Nat, k + g = 8 ∧ i = .int .i64 k ∧ Aside0 (At wr b 278 (hcells ((addL st sz).take k ++ ws.drop k) bg r n)) ∧
                Aside0 (At wr b6 275 (sz.map u32v)) ∧ Aside0 (Only (· = b) w.heap.size w wr))
              case atStart => exact ⟨0, rfl, rfl, HA, V6, S0⟩
              case round =>
                obtain ⟨k, hk, rfl, HA, V6, S0⟩ := hrel
                by_cases hlt : k < 8
                · have hx : st[k]? = some (st.getD k 0) := by rw [List.getD_eq_getElem?_getD, List.getElem?_eq_getElem (by rw [STL.out]; exact hlt)]; rfl
                  have z1 : wr.cell? ⟨b6, k, none⟩ = some (.int .u32 (sz.getD k 0)) := by rw [V6.out.cell]; exact map_get _ _ (by rw [ZL.out]; exact hlt)
                  generalize hxx : st.getD k 0 = x at hx
                  have hix : (Instr.index 275 (Value.agg (List.map u32v st).toArray) (Value.int .i64 (k : Int))).run Tryz.prog wr = .ok (.int .u32 x) wr :=
                    run_index_row wr 275 274 8 _ k _ _ u275 size274 u274 rfl hlt (by rw [List.getElem?_map, hx]; rfl)
                  generalize hzz : sz.getD k 0 = z at z1
                  have AL := addL_len st sz STL.out ZL.out
                  have TL : ((addL st sz).take k ++ ws.drop k).length = 8 := by simp [AL, Hl.out]; omega
                  have c1 : wr.cell? ⟨b, k, none⟩ = some (.int .u32 (((addL st sz).take k ++ ws.drop k).getD k 0)) := by rw [HA.out.cell, hcells_w _ _ _ _ _ (by rw [TL]; exact hlt)]; rfl
                  have f1 : wr.frozen? ⟨b, k, none⟩ = false := HA.out.frozen _
                  generalize ((addL st sz).take k ++ ws.drop k).getD k 0 = y at c1
                  have XX := Aside0.mk hxx
                  have ZZ := Aside0.mk hzz
                  clear hxx hzz AL TL
                  go_wp2_with fail
                  refine wp_region_quiet_tail 10 (by kernel_rfl) (by kernel_rfl) ?_
                  simp only [List.take_succ_cons, List.take_zero, List.drop_succ_cons, List.drop_zero]
                  repeat (first | go_big_quiet_skip | (go_big_quiet_want; go_big_quiet_op; first | go_big_quiet_on | (apply Exists.intro; refine ⟨?_, ?_⟩; (· (fail)); go_big_quiet_on)))
                  refine wpQuiet_nil ?_
                  go_wp2_with fail
                  go_roundg (8 - (k + 1))
                  case measure => omega
                  case rel =>
                    refine ⟨k + 1, by omega, by go_num, ⟨?_⟩, ⟨(V6.out.setCell_other (show b6 ≠ b from D6.out.2.2.symm) _).drew⟩, ⟨(S0.out.setCell (.inl rfl) _).drew⟩⟩
                    have AL := addL_len st sz STL.out ZL.out
                    have TL : ((addL st sz).take k ++ ws.drop k).length = 8 := by simp [AL, Hl.out]; omega
                    have e1 := (HA.out.setCell k (u32v ((x + z) % 4294967296))).drew
                    rw [hcells_setw _ _ _ _ _ _ (by rw [TL]; exact hlt), take_set _ _ _ _ ?_ (by rw [Hl.out]; exact hlt)] at e1
                    · exact e1
                    · have hz : sz[k]? = some z := by rw [← ZZ.out, List.getD_eq_getElem?_getD, List.getElem?_eq_getElem (by rw [ZL.out]; exact hlt)]; rfl
                      rw [addL, List.getElem?_zipWith, hx, hz]
                · obtain rfl : k = 8 := by omega
                  have AL := addL_len st sz STL.out ZL.out
                  have c8 : wr.cell? ⟨b, 8, none⟩ = some (.bool bg) := by rw [HA.out.cell]; exact hcells_bg _ _ _ _ (by simp [AL, Hl.out])
                  have f8 : wr.frozen? ⟨b, 8, none⟩ = false := HA.out.frozen _
                  have AL := Aside0.mk AL
                  clear hlt
                  go_wp2_with fail
                  refine Great.bodyPost_end0 rfl rfl ?_
                  refine ⟨rfl, ?_, S0.out.setCell (.inl rfl) _⟩
                  have e1 := HA.out.setCell 8 (.bool true)
                  rw [hcells_setbg _ _ _ _ _ (by simp [AL.out, Hl.out]), List.take_of_length_le (by rw [AL.out]; exact Nat.le_refl _), List.drop_eq_nil_of_le (by rw [Hl.out]; exact Nat.le_refl _), List.append_nil] at e1
                  rw [blockL, ← ST.out, ← XS.out, ← ZS.out]
                  exact e1
end Go.Proofs.YtbpfmlckddhgbaaGreatDoor
/- SHA-256: what is written. -/
namespace Go.Proofs.YtbpfmlckddhgbaaGreatDoor
open Go Go.RowKit Go.Proofs.YtbpfmlckddhgbaaGreatDoorW.PrintWords
def shaSt : Nat → List UInt8 → List Int
  | 0, _ => hWords
  | k + 1, bs => blockL (shaSt k bs) ((bs.drop (64 * k)).take 64)
theorem blockL_len (st : List Int) (r : List UInt8) (h : st.length = 8) : (blockL st r).length = 8 := by
  unfold blockL; exact addL_len _ _ h (by rw [rndsTo_len]; exact h)
theorem shaSt_len (k : Nat) (bs : List UInt8) : (shaSt k bs).length = 8 := by
  induction k with
  | zero => rfl
  | succ k ih => exact blockL_len _ _ ih
theorem shaSt_append (k : Nat) (xs ys : List UInt8) (h : 64 * k ≤ xs.length) : shaSt k (xs ++ ys) = shaSt k xs := by
  induction k with
  | zero => rfl
  | succ k ih =>
    rw [shaSt, shaSt, ih (by omega), List.drop_append_of_le_length (by omega), List.take_append_of_le_length (by rw [List.length_drop]; omega)]
structure HS (w : World) (b : Nat) (bs : List UInt8) : Prop where
  out : ∃ ws bg r, At w b 278 (hcells ws bg r bs.length) ∧ ws.length = 8 ∧ r.length = 64 ∧ stateL ws bg = shaSt (bs.length / 64) bs ∧ r.take (bs.length % 64) = bs.drop (64 * (bs.length / 64))
def Rd (w : World) (b : Nat) (A : Option Addr) (bs : List UInt8) : Prop :=
  bs ≠ [] → ∃ ad, A = some ad ∧ ad.block ≠ b ∧ ad.block < w.heap.size ∧ ∀ k, k < bs.length → w.cell? (ad.add k) = some (bv (bs.getD k 0))
theorem hs_more (bs ch : List UInt8) (ws : List Int) (bg : Bool) (r : List UInt8) (hr : r.length = 64) (hs : stateL ws bg = shaSt (bs.length / 64) bs) (hp : r.take (bs.length % 64) = bs.drop (64 * (bs.length / 64)))
    (hlt : bs.length % 64 + ch.length < 64) :
    stateL ws bg = shaSt ((bs ++ ch).length / 64) (bs ++ ch) ∧ (splice r (bs.length % 64) ch).take ((bs ++ ch).length % 64) = (bs ++ ch).drop (64 * ((bs ++ ch).length / 64)) := by
  have e1 : (bs ++ ch).length / 64 = bs.length / 64 := by rw [List.length_append]; omega
  have e2 : (bs ++ ch).length % 64 = bs.length % 64 + ch.length := by rw [List.length_append]; omega
  rw [e1, e2]
  refine ⟨by rw [shaSt_append _ _ _ (by omega)]; exact hs, ?_⟩
  rw [List.drop_append_of_le_length (by omega), ← hp, splice, ← List.append_assoc, List.take_append_of_le_length (by simp [hr]; omega)]
  exact List.take_of_length_le (by simp [hr]; omega)
theorem hs_full (bs ch : List UInt8) (ws : List Int) (bg : Bool) (r : List UInt8) (hr : r.length = 64) (hs : stateL ws bg = shaSt (bs.length / 64) bs) (hp : r.take (bs.length % 64) = bs.drop (64 * (bs.length / 64)))
    (he : bs.length % 64 + ch.length = 64) :
    blockL (stateL ws bg) (splice r (bs.length % 64) ch) = shaSt ((bs ++ ch).length / 64) (bs ++ ch) ∧ (bs ++ ch).length % 64 = 0 ∧ (bs ++ ch).drop (64 * ((bs ++ ch).length / 64)) = [] := by
  have e1 : (bs ++ ch).length / 64 = bs.length / 64 + 1 := by rw [List.length_append]; omega
  refine ⟨?_, by rw [List.length_append]; omega, List.drop_eq_nil_of_le (by rw [e1, List.length_append]; omega)⟩
  rw [e1, shaSt, shaSt_append _ _ _ (by omega), hs, List.drop_append_of_le_length (by omega), ← hp, splice, he, List.drop_eq_nil_of_le (by rw [hr]; exact Nat.le_refl _), List.append_nil]
  rw [List.take_of_length_le (l := r.take _ ++ ch) (by simp [hr]; omega)]
theorem splice_map (r ch : List UInt8) (k : Nat) : splice (r.map bv) k (ch.map bv) = (splice r k ch).map bv := by
  simp [splice, List.map_drop, List.map_take]
theorem hcells_splice (ws : List Int) (bg : Bool) (r ch : List UInt8) (n : Int) (k : Nat) (hl : ws.length = 8) (hr : r.length = 64) (hk : k + ch.length ≤ 64) :
    splice (hcells ws bg r n) (9 + k) (ch.map bv) = hcells ws bg (splice r k ch) n := by
  have e : ∀ (X Y : List Value) (Z C : List Value) (j : Nat), X.length = 9 → j + C.length ≤ Y.length → splice (X ++ (Y ++ Z)) (9 + j) C = X ++ (splice Y j C ++ Z) := by
    intro X Y Z C j hX hj
    unfold splice
    rw [List.take_append, List.drop_append, List.take_of_length_le (by omega), List.drop_eq_nil_of_le (by omega), hX, show 9 + j - 9 = j by omega, show 9 + j + C.length - 9 = j + C.length by omega,
      List.take_append_of_le_length (by omega), List.drop_append_of_le_length (by omega)]
    simp
  unfold hcells
  rw [← List.append_assoc (ws.map u32v), ← List.append_assoc (ws.map u32v), e _ _ _ _ _ (by simp [hl]) (by simp [hr]; omega), splice_map]
theorem hcells_len (ws : List Int) (bg : Bool) (r : List UInt8) (n : Int) (hl : ws.length = 8) (hr : r.length = 64) : (hcells ws bg r n).length = 74 := by simp [hcells, hl, hr]
theorem hcells_n (ws : List Int) (bg : Bool) (r : List UInt8) (n : Int) (hl : ws.length = 8) (hr : r.length = 64) : (hcells ws bg r n)[73]? = some (.int .i64 n) := by simp [hcells, hl, hr]
theorem hcells_setn (ws : List Int) (bg : Bool) (r : List UInt8) (n m : Int) (hl : ws.length = 8) (hr : r.length = 64) : (hcells ws bg r n).set 73 (.int .i64 m) = hcells ws bg r m := by simp [hcells, hl, hr]
theorem tu35 : Tryz.prog.underlying 35 = some (.slice 5) := by kernel_rfl
theorem u276 : Tryz.prog.underlying 276 = some (.array 64 5) := by kernel_rfl
theorem size5 : (Tryz.prog.info? 5).map (·.size) = some 1 := by kernel_rfl
theorem one_bv (xs : List UInt8) : ∀ v ∈ xs.map bv, v.oneCell' = true := fun v hv => by obtain ⟨x, _, rfl⟩ := List.mem_map.1 hv; rfl
theorem one_hcells (ws : List Int) (bg : Bool) (r : List UInt8) (n : Int) : ∀ v ∈ hcells ws bg r n, v.oneCell' = true := fun v hv => by
  simp only [hcells, List.mem_append, List.mem_map, List.mem_singleton] at hv
  rcases hv with ⟨_, _, rfl⟩ | rfl | ⟨_, _, rfl⟩ | rfl <;> rfl
theorem add_block (ad : Addr) (k : Nat) : (ad.add k).block = ad.block := by unfold Addr.add; split <;> rfl
theorem rd_take {w : World} {ad : Addr} {ds : List UInt8} (h : ∀ k, k < ds.length → w.cell? (ad.add k) = some (bv (ds.getD k 0))) (k : Nat) :
    ∀ j v, ((ds.take k).map bv)[j]? = some v → w.cell? (ad.add j) = some v := by
  intro j v hv
  rw [List.getElem?_map, List.getElem?_take] at hv
  split at hv
  · cases hd : ds[j]? with
    | none => rw [hd] at hv; cases hv
    | some x =>
      have hl : j < ds.length := (List.getElem?_eq_some_iff.1 hd).1
      rw [hd] at hv
      rw [h j hl, List.getD_eq_getElem?_getD, hd]
      exact hv
  · cases hv
def WInv (w : World) (b : Nat) (bs ds : List UInt8) (g : Nat) (v : Value) (wr : World) : Prop :=
  ∃ bs1 ds1 A1 c1, Aside0 (bs1 ++ ds1 = bs ++ ds) ∧ Aside0 (ds1.length = g) ∧ v = .slice A1 ds1.length c1 ∧ Aside0 (ds1.length ≤ c1) ∧ Aside0 (HS wr b bs1) ∧ Aside0 (Rd wr b A1 ds1) ∧
    Aside0 (Only (· = b) w.heap.size w wr)
theorem add_add (ad : Addr) (j k : Nat) : (ad.add j).add k = ad.add (j + k) := by
  unfold Addr.add
  by_cases hj : j = 0
  · by_cases hk : k = 0 <;> simp [hj, hk]
  · by_cases hk : k = 0
    · simp [hj, hk]
    · simp [hj, hk, Nat.add_assoc]
theorem winv_next {w : World} {b : Nat} {bs ds bs1 ds1 : List UInt8} {g c2 k : Nat} {ad : Addr} {A : Option Addr} {W : World} (HE : bs1 ++ ds1 = bs ++ ds) (HG : ds1.length = g) (_hk : k ≤ ds1.length) (hc : ds1.length - k ≤ c2)
    (hA : A = some (ad.add k) ∨ (A = some ad ∧ ds1.length = k)) (hH : HS W b (bs1 ++ ds1.take k)) (hb : ad.block ≠ b) (hs : ad.block < W.heap.size) (hR : ∀ j, j < ds1.length → W.cell? (ad.add j) = some (bv (ds1.getD j 0)))
    (hS : Only (· = b) w.heap.size w W) : WInv w b bs ds (g - k) (.slice A (ds1.length - k) c2) W := by
  refine ⟨bs1 ++ ds1.take k, ds1.drop k, A, c2, ⟨?_⟩, ⟨?_⟩, ?_, ⟨?_⟩, ⟨hH⟩, ⟨?_⟩, ⟨hS⟩⟩
  · rw [List.append_assoc, List.take_append_drop]; exact HE
  · rw [List.length_drop, HG]
  · rw [List.length_drop]
  · rw [List.length_drop]; exact hc
  · intro hne
    have hl : k < ds1.length := by
      rcases Nat.lt_or_ge k ds1.length with h | h
      · exact h
      · exact absurd (List.drop_eq_nil_of_le h) hne
    rcases hA with rfl | ⟨rfl, h0⟩
    · refine ⟨_, rfl, by rw [add_block]; exact hb, by rw [add_block]; exact hs, fun j hj => ?_⟩
      rw [List.length_drop] at hj
      rw [add_add, hR _ (by omega)]
      congr 2
      simp only [List.getD_eq_getElem?_getD, List.getElem?_drop]
    · omega
theorem hs_of_more {W : World} {b : Nat} {bs ch : List UInt8} {ws : List Int} {bg : Bool} {r : List UInt8} {m q : Nat} (hA : At W b 278 (hcells ws bg (splice r q ch) ((m : Int) + (ch.length : Int)))) (hl : ws.length = 8) (hr : r.length = 64) (hm : m = bs.length) (hq : q = m % 64)
    (hs : stateL ws bg = shaSt (m / 64) bs) (hp : r.take (m % 64) = bs.drop (64 * (m / 64))) (hlt : q + ch.length < 64) : HS W b (bs ++ ch) := by
  subst hm hq
  have h := hs_more bs ch ws bg r hr hs hp hlt
  refine ⟨ws, bg, splice r (bs.length % 64) ch, ?_, hl, (length_splice r _ ch (by rw [hr]; omega)).trans hr, h.1, h.2⟩
  rw [List.length_append, Int.natCast_add]
  exact hA
theorem hs_of_full {W : World} {b : Nat} {bs ch : List UInt8} {ws : List Int} {bg : Bool} {r : List UInt8} {m q : Nat} (hA : At W b 278 (hcells (blockL (stateL ws bg) (splice r q ch)) true (splice r q ch) ((m : Int) + (ch.length : Int)))) (hl : ws.length = 8) (hr : r.length = 64) (hm : m = bs.length) (hq : q = m % 64)
    (hs : stateL ws bg = shaSt (m / 64) bs) (hp : r.take (m % 64) = bs.drop (64 * (m / 64))) (hlt : q + ch.length = 64) : HS W b (bs ++ ch) := by
  subst hm hq
  have h := hs_full bs ch ws bg r hr hs hp hlt
  refine ⟨_, true, splice r (bs.length % 64) ch, ?_, blockL_len _ _ (stateL_len hl), (length_splice r _ ch (by rw [hr]; omega)).trans hr, h.1, ?_⟩
  · rw [List.length_append, Int.natCast_add]
    exact hA
  · rw [h.2.1, h.2.2]; rfl
set_option maxRecDepth 4000 in
theorem write_calls (w : World) (b : Nat) (bs ds : List UInt8) (A : Option Addr) (c : Nat) (hH : HS w b bs) (hR : Rd w b A ds) (hlen : bs.length + ds.length < 2 ^ 60) (hc : ds.length ≤ c) :
    Calls Tryz.prog 126 #[.pointer (some ⟨b, 0, none⟩), .slice A ds.length c] w fun e w' => e = .returned (.tuple #[]) ∧ HS w' b (bs ++ ds) ∧ Only (· = b) w.heap.size w w' := by
  have HH := Aside0.mk hH
  have HR := Aside0.mk hR
  have HL := Aside0.mk hlen
  have HCc := Aside0.mk hc
  clear hH hR hlen hc
  have S0 := Aside0.mk (Only.refl (· = b) w.heap.size w)
  go_enter Tryz.func126, Tryz.ntmps126
  go_wp2_with fail
  go_loopg [1] ds.length (fun g v wr => WInv w b bs ds g v wr)
  case atStart => exact ⟨bs, ds, A, c, ⟨rfl⟩, ⟨rfl⟩, rfl, HCc, HH, HR, S0⟩
  case round =>
    obtain ⟨bs1, ds1, A1, c1, HE, HG, rfl, HC1, HH, HR, S0⟩ := hrel
    by_cases hne : ds1.length = 0
    · have hne2 : (0 < ds1.length) = False := by simp [hne]
      go_wp2_with fail
      refine Great.bodyPost_end0 rfl rfl ?_
      have e := HE.out
      rw [List.eq_nil_of_length_eq_zero hne, List.append_nil] at e
      rw [← e]
      exact ⟨rfl, HH.out, S0.out⟩
    · have hpos : 0 < ds1.length := by omega
      obtain ⟨ws, bg, r, hA, hl, hr, hst, hpr⟩ := HH.out.out
      obtain ⟨m, hm⟩ : ∃ m, m = bs1.length := ⟨_, rfl⟩
      rw [← hm] at hA hst hpr
      have c73 : wr.cell? ⟨b, 73, none⟩ = some (.int .i64 (m : Int)) := by rw [hA.cell, hcells_n _ _ _ _ hl hr]
      have HA := Aside0.mk hA
      have Hl := Aside0.mk hl
      have Hr := Aside0.mk hr
      have HM := Aside0.mk hm
      have HST := Aside0.mk hst
      have HPR := Aside0.mk hpr
      clear hA hl hr hm hst hpr hne
      obtain ⟨q, hq⟩ : ∃ q, q = m % 64 := ⟨_, rfl⟩
      have hmq : (m : Int) % 64 = (q : Int) := by omega
      have hq64 : q < 64 := by omega
      have HQ := Aside0.mk hq
      obtain ⟨ad, hA1, hadb, hadl, hcell⟩ := HR.out (by intro h; rw [h] at hpos; exact absurd hpos (by decide))
      subst hA1
      obtain ⟨k, hk⟩ : ∃ k, k = Nat.min ds1.length (64 - q) := ⟨_, rfl⟩
      have hk1 : k ≤ ds1.length := by rw [hk]; exact Nat.min_le_left _ _
      have hk2 : k ≤ 64 - q := by rw [hk]; exact Nat.min_le_right _ _
      have hk0 : 0 < k := by rw [hk]; exact Nat.lt_min.2 ⟨hpos, by omega⟩
      have HK := Aside0.mk hk
      have HAD := Aside0.mk (And.intro hadb hadl)
      have HCE := Aside0.mk hcell
      clear hq hk hcell hadb hadl
      have hsl := run_slice_array (P := Tryz.prog) wr 276 5 64 b 9 q u276 size5 hq64
      have hmk : m + k < 1152921504606846976 := by
        have e := congrArg List.length HE.out
        rw [List.length_append, List.length_append, ← HM.out] at e
        have := HL.out
        omega
      by_cases hfull : q + k = 64
      · have hb1 : ((q : Int) + (k : Int) == 64) = true := beq_iff_eq.2 (by omega)
        have hb2 : decide ((q : Int) + (k : Int) = 64) = true := decide_eq_true (by omega)
        have hfull := Aside0.mk hfull
        go_wp2_with (first
          | (refine arm_copy rfl _ _ 35 35 rfl 5 tu35 size5 b (9 + q) _ _ ad ds1.length c1 rfl rfl _ 278 HA.out ((ds1.take k).map bv) (by rw [List.length_map, List.length_take, Nat.min_eq_left hk1]; exact HK.out) ?_ ?_ (one_bv _) ?_
             · exact rd_take HCE.out k
             · rw [List.length_map, List.length_take, Nat.min_eq_left hk1, hcells_len _ _ _ _ Hl.out Hr.out]; omega
             intro W hW
             obtain ⟨ch, hch⟩ : ∃ ch, ch = ds1.take k := ⟨_, rfl⟩
             have hcl : ch.length = k := by rw [hch, List.length_take, Nat.min_eq_left hk1]
             rw [← hch, List.length_map, hcl]
             have hA : At W b 278 (hcells ws bg (splice r q ch) m) := by subst hW; rw [← hcells_splice ws bg r ch m q Hl.out Hr.out (by omega), hch]; exact HA.out.setRow _
             have hS : Only (· = b) w.heap.size w W := by subst hW; exact S0.out.setRow (.inl rfl) _
             have hR : ∀ j, j < ds1.length → W.cell? (ad.add j) = some (bv (ds1.getD j 0)) := by
               intro j hj
               rw [← HCE.out j hj, hW]
               exact ((Only.refl (· = b) (wr.heap.size) wr).setRow (.inl rfl) _).cell (by rw [add_block]; exact HAD.out.2) (by rw [add_block]; exact HAD.out.1)
             have hrl : (splice r q ch).length = 64 := by rw [length_splice _ _ _ (by rw [Hr.out, hcl]; omega)]; exact Hr.out
             have d73 : W.cell? ⟨b, 73, none⟩ = some (.int .i64 (m : Int)) := by rw [hA.cell, hcells_n _ _ _ _ Hl.out hrl]
             have f73 : W.frozen? ⟨b, 73, none⟩ = false := hA.frozen _
             have HSZ := Aside0.mk (show ad.block < W.heap.size by subst hW; simp [World.setRow]; exact HAD.out.2)
             have HA := Aside0.mk hA
             have S0 := Aside0.mk hS
             have HR := Aside0.mk hR
             have HRL := Aside0.mk hrl
             have CL := Aside0.mk hcl
             have CH := Aside0.mk hch
             clear hA hS hR hrl hcl hch hW c73)
          | (go_at_call 191
             have hA := HA.out.setCell 73 (.int .i64 ((m : Int) + (k : Int)))
             rw [hcells_setn _ _ _ _ _ Hl.out HRL.out] at hA
             refine (block_calls _ b ws bg _ _ hA Hl.out HRL.out).mono ?_
             rintro e wz ⟨rfl, hA2, hO2⟩
             have hS := (S0.out.setCell (a := ⟨b, 73, none⟩) (.inl rfl) (.int .i64 ((m : Int) + (k : Int)))).trans (hO2.mono (by simp [World.setCell]; exact S0.out.size) (fun _ _ h => h))
             have hR : ∀ j, j < ds1.length → wz.cell? (ad.add j) = some (bv (ds1.getD j 0)) := by
               intro j hj
               rw [← HR.out j hj, hO2.cell (by rw [add_block]; simp [World.setCell]; exact HSZ.out) (by rw [add_block]; exact HAD.out.1)]
               exact World.cell?_setCell_other _ _ _ _ (by intro h; exact HAD.out.1 (by rw [← add_block ad j, ← h]))
             have HSZ := Aside0.mk (show ad.block < wz.heap.size from Nat.lt_of_lt_of_le HSZ.out (by have := hO2.size; simp [World.setCell] at this; exact this))
             have HA := Aside0.mk hA2
             have S0 := Aside0.mk hS
             have HR := Aside0.mk hR
             clear hA hA2 hO2 hS hR)
          | fail)
        all_goals
          go_roundg (gk - k)
          case measure => have := HG.out; omega
          case rel =>
            refine winv_next HE.out HG.out hk1 (by have := HC1.out; omega) (by first | exact .inl rfl | exact .inr ⟨rfl, by have := HC1.out; omega⟩) ?_ HAD.out.1 HSZ.out HR.out S0.out
            rw [← CH.out]
            exact hs_of_full (by rw [CL.out]; exact HA.out) Hl.out Hr.out HM.out HQ.out HST.out HPR.out (by rw [CL.out]; exact hfull.out)
      · have hb1 : ((q : Int) + (k : Int) == 64) = false := beq_eq_false_iff_ne.2 (by omega)
        have hb2 : decide ((q : Int) + (k : Int) = 64) = false := decide_eq_false (by omega)
        have hfull := Aside0.mk hfull
        go_wp2_with (first
          | (refine arm_copy rfl _ _ 35 35 rfl 5 tu35 size5 b (9 + q) _ _ ad ds1.length c1 rfl rfl _ 278 HA.out ((ds1.take k).map bv) (by rw [List.length_map, List.length_take, Nat.min_eq_left hk1]; exact HK.out) ?_ ?_ (one_bv _) ?_
             · exact rd_take HCE.out k
             · rw [List.length_map, List.length_take, Nat.min_eq_left hk1, hcells_len _ _ _ _ Hl.out Hr.out]; omega
             intro W hW
             obtain ⟨ch, hch⟩ : ∃ ch, ch = ds1.take k := ⟨_, rfl⟩
             have hcl : ch.length = k := by rw [hch, List.length_take, Nat.min_eq_left hk1]
             rw [← hch, List.length_map, hcl]
             have hA : At W b 278 (hcells ws bg (splice r q ch) m) := by subst hW; rw [← hcells_splice ws bg r ch m q Hl.out Hr.out (by omega), hch]; exact HA.out.setRow _
             have hS : Only (· = b) w.heap.size w W := by subst hW; exact S0.out.setRow (.inl rfl) _
             have hR : ∀ j, j < ds1.length → W.cell? (ad.add j) = some (bv (ds1.getD j 0)) := by
               intro j hj
               rw [← HCE.out j hj, hW]
               exact ((Only.refl (· = b) (wr.heap.size) wr).setRow (.inl rfl) _).cell (by rw [add_block]; exact HAD.out.2) (by rw [add_block]; exact HAD.out.1)
             have hrl : (splice r q ch).length = 64 := by rw [length_splice _ _ _ (by rw [Hr.out, hcl]; omega)]; exact Hr.out
             have d73 : W.cell? ⟨b, 73, none⟩ = some (.int .i64 (m : Int)) := by rw [hA.cell, hcells_n _ _ _ _ Hl.out hrl]
             have f73 : W.frozen? ⟨b, 73, none⟩ = false := hA.frozen _
             have HSZ := Aside0.mk (show ad.block < W.heap.size by subst hW; simp [World.setRow]; exact HAD.out.2)
             have HA := Aside0.mk hA
             have S0 := Aside0.mk hS
             have HR := Aside0.mk hR
             have HRL := Aside0.mk hrl
             have CL := Aside0.mk hcl
             have CH := Aside0.mk hch
             clear hA hS hR hrl hcl hch hW c73)
          | fail)
        all_goals
          go_roundg (gk - k)
          case measure => have := HG.out; omega
          case rel =>
            refine winv_next HE.out HG.out hk1 (by have := HC1.out; omega) (by first | exact .inl rfl | exact .inr ⟨rfl, by have := HC1.out; omega⟩) ?_ HAD.out.1 (by simp [World.setCell]; exact HSZ.out) ?_ (S0.out.setCell (a := ⟨b, 73, none⟩) (.inl rfl) _)
            · rw [← CH.out]
              refine hs_of_more (r := r) (q := q) (m := m) (ws := ws) (bg := bg) ?_ Hl.out Hr.out HM.out HQ.out HST.out HPR.out (by rw [CL.out]; have := hfull.out; omega)
              have hA := HA.out.setCell 73 (.int .i64 ((m : Int) + (k : Int)))
              rw [hcells_setn _ _ _ _ _ Hl.out HRL.out] at hA
              rw [CL.out]; exact hA
            · intro j hj
              rw [← HR.out j hj]
              exact World.cell?_setCell_other _ _ _ _ (by intro h; exact HAD.out.1 (by rw [← add_block ad j, ← h]))
end Go.Proofs.YtbpfmlckddhgbaaGreatDoor
/- SHA-256: the sum. -/
namespace Go.Proofs.YtbpfmlckddhgbaaGreatDoor
open Go Go.RowKit Go.Proofs.YtbpfmlckddhgbaaGreatDoorW.PrintWords
def hzero : List Value := hcells (List.replicate 8 0) false (List.replicate 64 0) 0
theorem new_calls (w : World) : Calls Tryz.prog 125 #[] w fun e w' => ∃ b, e = .returned (.pointer (some ⟨b, 0, none⟩)) ∧ w.heap.size ≤ b ∧ HS w' b [] ∧ Below w.heap.size w w' := by
  go_enter Tryz.func125, Tryz.ntmps125
  go_wp2_with (first
    | (refine arm_build rfl 278 _ rfl hzero (by as_aux_lemma => kernel_rfl) ?_; intro v hv; have HV := Aside0.mk hv; clear hv)
    | (refine arm_box rfl 278 _ rfl hzero HV.out ?_; intro W b hb hW
       have hA : At W b 278 hzero := by subst hW hb; exact At.new _ _ _
       have hB : Below w.heap.size w W := by subst hW; exact (Below.refl _ _).alloc (Nat.le_refl _) _
       have A := Aside0.mk hA
       have B := Aside0.mk hB
       have L := Aside0.mk hb
       clear hA hB hb hW)
    | fail)
  go_ret
  refine ⟨b, rfl, by rw [L.out]; exact Nat.le_refl _, ⟨_, _, _, A.out, rfl, rfl, rfl, rfl⟩, B.out⟩
def lenByte (m i : Nat) : UInt8 := UInt8.ofNat (m * 8 / 2 ^ (8 * (7 - i)) % 256)
def lenBytes (m : Nat) : List UInt8 := (List.range 8).map (lenByte m)
def padFill (m : Nat) : Nat := 1 + (119 - m % 64) % 64
def padB (m : Nat) : List UInt8 := 128 :: (List.replicate (padFill m - 1) 0 ++ lenBytes m)
def word4 (x : Int) : List UInt8 := (List.range 4).map fun k => UInt8.ofNat ((x / 2 ^ (8 * (3 - k)) % 256).toNat)
def shaL (bs : List UInt8) : List UInt8 := (shaSt ((bs ++ padB bs.length).length / 64) (bs ++ padB bs.length)).flatMap word4
def padTo (m f k : Nat) : List UInt8 := 128 :: (List.replicate f 0 ++ ((List.range k).map (lenByte m) ++ List.replicate (8 - k) 0))
theorem padTo_len (m f k : Nat) (hk : k ≤ 8) : (padTo m f k).length = 1 + f + 8 := by simp [padTo]; omega
theorem padTo_set (m f k : Nat) (hk : k < 8) : (padTo m f k).set (1 + f + k) (lenByte m k) = padTo m f (k + 1) := by
  unfold padTo
  rw [show 1 + f + k = (f + k) + 1 by omega, List.set_cons_succ, List.set_append_right _ _ (by simp), List.set_append_right _ _ (by simp)]
  rw [show 8 - k = (8 - (k + 1)) + 1 by omega, List.replicate_succ, List.range_succ, List.map_append]
  simp
theorem padTo_0 (m f : Nat) : (List.replicate (1 + f + 8) (bv 0)).set 0 (bv 128) = (padTo m f 0).map bv := by
  rw [show 1 + f + 8 = (f + 8) + 1 by omega, List.replicate_succ, List.set_cons_zero, padTo, List.map_cons, List.map_append, List.range_zero, List.map_nil, List.nil_append, Nat.sub_zero,
    List.map_replicate, List.map_replicate, List.replicate_append_replicate]
theorem padTo_8 (m f : Nat) (hf : f + 1 = padFill m) : padTo m f 8 = padB m := by
  unfold padTo padB lenBytes
  rw [← hf]; simp
def dUp (l : List UInt8) : List Value := l.map bv ++ List.replicate (32 - l.length) (bv 0)
theorem dUp_set (l : List UInt8) (y : UInt8) (k : Nat) (hk : k = l.length) (h : k < 32) : (dUp l).set k (bv y) = dUp (l ++ [y]) := by
  subst hk
  unfold dUp
  rw [List.set_append_right _ _ (by simp), show 32 - l.length = (32 - (l.length + 1)) + 1 by omega, List.replicate_succ]
  simp
theorem dUp_get (l : List UInt8) (k : Nat) (hk : k = l.length) (h : k < 32) : (dUp l)[k]? = some (bv 0) := by
  subst hk
  unfold dUp
  rw [List.getElem?_append_right (by simp), show 32 - l.length = (32 - (l.length + 1)) + 1 by omega, List.replicate_succ]
  simp
theorem bv_ofNat (n : Nat) (h : n < 256) : bv (UInt8.ofNat n) = .int .u8 (n : Int) := by
  unfold bv; rw [UInt8.toNat_ofNat', Nat.mod_eq_of_lt (by omega)]
theorem bv_lenByte (m k : Nat) : bv (lenByte m k) = .int .u8 ((m : Int) * 8 / 2 ^ (8 * (7 - k)) % 256) := by
  unfold lenByte
  rw [bv_ofNat _ (Nat.mod_lt _ (by decide))]
  congr 1
theorem word4_len (x : Int) : (word4 x).length = 4 := rfl
theorem bv_word4 (x : Int) (k : Nat) (hk : k < 4) : (word4 x)[k]? = some (UInt8.ofNat ((x / 2 ^ (8 * (3 - k)) % 256).toNat)) := by
  unfold word4; rw [List.getElem?_map, List.getElem?_range hk]; rfl
theorem bv_word (x : Int) (k : Nat) : bv (UInt8.ofNat ((x / 2 ^ (8 * (3 - k)) % 256).toNat)) = .int .u8 (x / 2 ^ (8 * (3 - k)) % 256) := by
  have h1 : 0 ≤ x / 2 ^ (8 * (3 - k)) % 256 := Int.emod_nonneg _ (by decide)
  have h2 : x / 2 ^ (8 * (3 - k)) % 256 < 256 := Int.emod_lt_of_pos _ (by decide)
  rw [bv_ofNat _ (by omega), Int.toNat_of_nonneg h1]
theorem flatMap_word4_len (st : List Int) : (st.flatMap word4).length = 4 * st.length := by
  induction st with
  | nil => rfl
  | cons x st ih => rw [List.flatMap_cons, List.length_append, ih, word4_len, List.length_cons]; omega
theorem info27 : (Tryz.prog.info? 27).map (fun i => (i.zero, i.size)) = some (some (.agg ((List.replicate 32 (bv 0)).toArray)), 32) := by kernel_rfl
theorem info278 : (Tryz.prog.info? 278).map (fun i => (i.zero, i.size)) = some (some (.agg hzero.toArray), 74) := by kernel_rfl
theorem size278 : (Tryz.prog.info? 278).map (·.size) = some 74 := by kernel_rfl
theorem size27 : (Tryz.prog.info? 27).map (·.size) = some 32 := by kernel_rfl
theorem tu27 : Tryz.prog.underlying 27 = some (.array 32 5) := by kernel_rfl
theorem info5z : (Tryz.prog.info? 5).map (fun i => (i.zero, i.size, i.bytes)) = some (some (bv 0), 1, 1) := by kernel_rfl
set_option maxRecDepth 4000 in
theorem sum_calls (w : World) (b : Nat) (bs : List UInt8) (hH : HS w b bs) (hlen : bs.length < 2 ^ 59) :
    Calls Tryz.prog 127 #[.pointer (some ⟨b, 0, none⟩)] w fun e w' => e = .returned (.agg ((shaL bs).map bv).toArray) ∧ Below w.heap.size w w' := by
  obtain ⟨ws, bg, r, hA, hl, hr, hst, hpr⟩ := hH.out
  obtain ⟨m, hm⟩ : ∃ m, m = bs.length := ⟨_, rfl⟩
  rw [← hm] at hA hst hpr hlen
  have c73 : w.cell? ⟨b, 73, none⟩ = some (.int .i64 (m : Int)) := by rw [hA.cell, hcells_n _ _ _ _ hl hr]
  have HA := Aside0.mk hA
  have Hl := Aside0.mk hl
  have Hr := Aside0.mk hr
  have HM := Aside0.mk hm
  have HST := Aside0.mk hst
  have HPR := Aside0.mk hpr
  clear hA hl hr hm hst hpr hH
  obtain ⟨q, hq⟩ : ∃ q, q = m % 64 := ⟨_, rfl⟩
  have hmq : (m : Int) % 64 = (q : Int) := by omega
  have hq64 : q < 64 := by omega
  obtain ⟨f, hf⟩ : ∃ f, f = (119 - q) % 64 := ⟨_, rfl⟩
  have hmf : (119 - (q : Int)) % 64 = (f : Int) := by omega
  have hf64 : f < 64 := by omega
  have HQ := Aside0.mk hq
  have HF := Aside0.mk hf
  clear hq hf
  go_enter Tryz.func127, Tryz.ntmps127
  go_wp2_with (first
    | (refine arm_alloc rfl 27 rfl _ _ info27 ?_; intro W b2 hb hW
       have hA : At W b 278 (hcells ws bg r m) := by subst hW; exact HA.out.alloc _
       have hN : At W b2 27 (List.replicate 32 (bv 0)) := by subst hW hb; exact At.new _ _ _
       have hB : Below w.heap.size w W := by subst hW; exact (Below.refl _ _).alloc (Nat.le_refl _) _
       have d73 : W.cell? ⟨b, 73, none⟩ = some (.int .i64 (m : Int)) := by rw [hA.cell, hcells_n _ _ _ _ Hl.out Hr.out]
       have L2 := Aside0.mk (show w.heap.size ≤ b2 by rw [hb]; exact Nat.le_refl _)
       have HA := Aside0.mk hA
       have N2 := Aside0.mk hN
       have B := Aside0.mk hB
       clear hA hN hB hb hW c73)
    | (refine arm_load_row rfl 278 _ rfl b 0 rfl (hcells ws bg r m) HA.out.rangeAll (by kernel_rfl) (by rw [hcells_len _ _ _ _ Hl.out Hr.out]; exact size278) ?_
       intro v hv
       have HV := Aside0.mk hv
       clear hv)
    | (refine arm_alloc rfl 278 rfl _ _ info278 ?_; intro W b3 hb hW
       have hA : At W b 278 (hcells ws bg r m) := by subst hW; exact HA.out.alloc _
       have hN2 : At W b2 27 (List.replicate 32 (bv 0)) := by subst hW; exact N2.out.alloc _
       have hN : At W b3 278 hzero := by subst hW hb; exact At.new _ _ _
       have hB : Below w.heap.size w W := by subst hW; exact B.out.alloc B.out.size _
       have L3 := Aside0.mk (show b2 < b3 ∧ b < b3 by have := N2.out.lt; have := HA.out.lt; omega)
       have HA := Aside0.mk hA
       have N2 := Aside0.mk hN2
       have N3 := Aside0.mk hN
       have B := Aside0.mk hB
       clear hA hN hN2 hB hb hW)
    | (refine arm_store_row rfl 278 _ _ rfl b3 278 _ (hcells ws bg r m) rfl HV.out N3.out (by rw [hcells_len _ _ _ _ Hl.out Hr.out]; rfl) (by rw [hcells_len _ _ _ _ Hl.out Hr.out]; exact size278) (one_hcells _ _ _ _) ?_
       intro W hW
       have hA : At W b 278 (hcells ws bg r m) := by subst hW; exact HA.out.setRow_other (by have := L3.out; omega) _
       have hN2 : At W b2 27 (List.replicate 32 (bv 0)) := by subst hW; exact N2.out.setRow_other (by have := L3.out; omega) _
       have hN : At W b3 278 (hcells ws bg r m) := by subst hW; exact N3.out.setRow _
       have hB : Below w.heap.size w W := by subst hW; exact below_setRow B.out (by have := L3.out; have := L2.out; omega) _
       have d73 : W.cell? ⟨b, 73, none⟩ = some (.int .i64 (m : Int)) := by rw [hA.cell, hcells_n _ _ _ _ Hl.out Hr.out]
       have HA := Aside0.mk hA
       have N2 := Aside0.mk hN2
       have N3 := Aside0.mk hN
       have B := Aside0.mk hB
       clear hA hN hN2 hB hW)
    | (refine arm_make rfl _ _ 35 5 rfl (bv 0) rfl (1 + f + 8) 1 tu35 info5z (congrArg (Value.int .i64) (show (1 + (f : Int) + 8) = ((1 + f + 8 : Nat) : Int) by omega)) (congrArg (Value.int .i64) (show (1 + (f : Int) + 8) = ((1 + f + 8 : Nat) : Int) by omega)) (by omega) (by omega) ?_
       intro W b5 hb hN5 hB5
       have hA : At W b 278 (hcells ws bg r m) := HA.out.below hB5 HA.out.lt
       have hN2 : At W b2 27 (List.replicate 32 (bv 0)) := N2.out.below hB5 N2.out.lt
       have hN3 : At W b3 278 (hcells ws bg r m) := N3.out.below hB5 N3.out.lt
       have hB : Below w.heap.size w W := B.out.trans (hB5.mono B.out.size)
       have d73 : W.cell? ⟨b, 73, none⟩ = some (.int .i64 (m : Int)) := by rw [hA.cell, hcells_n _ _ _ _ Hl.out Hr.out]
       have d0 : W.cell? ⟨b5, 0, none⟩ = some (.int .u8 0) := by rw [hN5.cell, show 1 + f + 8 = (f + 8) + 1 by omega]; rfl
       have f0 : W.frozen? ⟨b5, 0, none⟩ = false := hN5.frozen _
       have L5 := Aside0.mk (show b3 < b5 by have := N3.out.lt; omega)
       have HA := Aside0.mk hA
       have N2 := Aside0.mk hN2
       have N3 := Aside0.mk hN3
       have N5 := Aside0.mk hN5
       have B := Aside0.mk hB
       clear hA hN2 hN3 hN5 hB hB5 hb)
    | fail)
  have hN5 := N5.out.setCell 0 (bv 128)
  rw [padTo_0 m f] at hN5
  have X5 := Aside0.mk hN5
  clear hN5 d0 f0 d73
  go_loopg [27] 8 (fun g i wr => ∃ k : Nat, k + g = 8 ∧ i = .int .i64 k ∧ Aside0 (At wr b 278 (hcells ws bg r m)) ∧ Aside0 (At wr b2 27 (List.replicate 32 (bv 0))) ∧ Aside0 (At wr b3 278 (hcells ws bg r m)) ∧
    Aside0 (At wr b5 5 ((padTo m f k).map bv)) ∧ Aside0 (Below w.heap.size w wr))
  case atStart =>
    exact ⟨0, rfl, rfl, ⟨HA.out.setCell_other (show b ≠ b5 by have := L3.out; have := L5.out; omega) _⟩, ⟨N2.out.setCell_other (show b2 ≠ b5 by have := L3.out; have := L5.out; omega) _⟩,
      ⟨N3.out.setCell_other (show b3 ≠ b5 by have := L5.out; omega) _⟩, X5, ⟨B.out.setCell (p := ⟨b5, 0, none⟩) (show w.heap.size ≤ b5 by have := L2.out; have := L3.out; have := L5.out; omega) _⟩⟩
  case round =>
    obtain ⟨k, hk, rfl, HA, N2, N3, N5, B⟩ := hrel
    by_cases hlt : k < 8
    · have d73 : wr.cell? ⟨b, 73, none⟩ = some (.int .i64 (m : Int)) := by rw [HA.out.cell, hcells_n _ _ _ _ Hl.out Hr.out]
      have d5 : wr.cell? ⟨b5, 1 + f + k, none⟩ = some (bv ((padTo m f k).getD (1 + f + k) 0)) := by
        rw [N5.out.cell, List.getElem?_map, List.getElem?_eq_getElem (by rw [padTo_len _ _ _ (by omega)]; omega), List.getD_eq_getElem?_getD, List.getElem?_eq_getElem (by rw [padTo_len _ _ _ (by omega)]; omega)]; rfl
      have f5 : wr.frozen? ⟨b5, 1 + f + k, none⟩ = false := N5.out.frozen _
      go_wp2_with fail
      go_roundg (8 - (k + 1))
      case measure => omega
      case rel =>
        have hne : b ≠ b5 ∧ b2 ≠ b5 ∧ b3 ≠ b5 ∧ w.heap.size ≤ b5 := by have := L2.out; have := L3.out; have := L5.out; omega
        rw [← bv_lenByte]
        refine ⟨k + 1, by omega, by go_num, ⟨HA.out.setCell_other hne.1 _⟩, ⟨N2.out.setCell_other hne.2.1 _⟩, ⟨N3.out.setCell_other hne.2.2.1 _⟩, ⟨?_⟩, ⟨B.out.setCell (p := ⟨b5, 1 + f + k, none⟩) hne.2.2.2 _⟩⟩
        have e := N5.out.setCell (1 + f + k) (bv (lenByte m k))
        rw [← List.map_set, padTo_set _ _ _ hlt] at e
        exact e
    · obtain rfl : k = 8 := by omega
      have hpf : f + 1 = padFill m := by rw [HF.out, HQ.out]; unfold padFill; omega
      have hpl : (padB m).length = 1 + f + 8 := by rw [← padTo_8 m f hpf, padTo_len _ _ _ (Nat.le_refl _)]
      have PF := Aside0.mk hpf
      have PL := Aside0.mk hpl
      clear hpf hpl
      go_wp2_with (first
        | (go_at_call 126
           have hW : Calls Tryz.prog 126 #[.pointer (some ⟨b3, 0, none⟩), .slice (some ⟨b5, 0, none⟩) (padB m).length (1 + f + 8)] wr fun e w' => e = .returned (.tuple #[]) ∧ HS w' b3 (bs ++ padB m) ∧ Only (· = b3) wr.heap.size wr w' := by
             refine write_calls wr b3 bs (padB m) (some ⟨b5, 0, none⟩) (1 + f + 8) ⟨ws, bg, r, ?_, Hl.out, Hr.out, ?_, ?_⟩ (fun _ => ⟨_, rfl, ?_, N5.out.lt, ?_⟩) (by rw [PL.out, ← HM.out]; omega) (by rw [PL.out]; exact Nat.le_refl _)
             · rw [← HM.out]; exact N3.out
             · rw [← HM.out]; exact HST.out
             · rw [← HM.out]; exact HPR.out
             · have := L5.out; show b5 ≠ b3; omega
             · intro j hj
               rw [Addr.add_mid, Nat.zero_add, N5.out.cell, padTo_8 m f PF.out, List.getElem?_map, List.getElem?_eq_getElem hj, List.getD_eq_getElem?_getD, List.getElem?_eq_getElem hj]
               rfl
           rw [PL.out] at hW
           refine hW.mono ?_
           rintro e wz ⟨rfl, hH, hO⟩
           clear hW
           have hN2 : At wz b2 27 (List.replicate 32 (bv 0)) := hO.at_ N2.out.lt (by have := L3.out; omega) N2.out
           have hB : Below w.heap.size w wz := below_only B.out hO B.out.size (fun b hb => by subst hb; have := L2.out; have := L3.out; omega)
           obtain ⟨ws2, bg2, r2, hN3, hl2, hr2, hst2, _⟩ := hH.out
           have N2 := Aside0.mk hN2
           have N3 := Aside0.mk hN3
           have B := Aside0.mk hB
           have Hl2 := Aside0.mk hl2
           have ST2 := Aside0.mk hst2
           clear hN2 hB hN3 hl2 hr2 hst2 hO hH)
        | (refine arm_alloc rfl 27 rfl _ _ info27 ?_; intro W b7 hb hW
           have hN2 : At W b2 27 (List.replicate 32 (bv 0)) := by subst hW; exact N2.out.alloc _
           have hN3 : At W b3 278 (hcells ws2 bg2 r2 (bs ++ padB m).length) := by subst hW; exact N3.out.alloc _
           have hN7 : At W b7 27 (dUp []) := by subst hW hb; exact At.new _ _ _
           have hB : Below w.heap.size w W := by subst hW; exact B.out.alloc B.out.size _
           have L7 := Aside0.mk (show b2 < b7 ∧ b3 < b7 by have := N2.out.lt; have := N3.out.lt; omega)
           have N2 := Aside0.mk hN2
           have N3 := Aside0.mk hN3
           have N7 := Aside0.mk hN7
           have B := Aside0.mk hB
           clear hN2 hN3 hN7 hB hb hW)
        | (go_at_call 192; refine (state_calls _ b3 ws2 bg2 r2 _ N3.out Hl2.out).mono ?_; rintro e wz ⟨rfl, hO⟩
           have hN2 : At wz b2 27 (List.replicate 32 (bv 0)) := N2.out.below hO N2.out.lt
           have hN7 : At wz b7 27 (dUp []) := N7.out.below hO N7.out.lt
           have hB : Below w.heap.size w wz := B.out.trans (hO.mono B.out.size)
           have N2 := Aside0.mk hN2
           have N7 := Aside0.mk hN7
           have B := Aside0.mk hB
           clear hN2 hN7 hB hO)
        | fail)
      obtain ⟨st, hst⟩ : ∃ st, st = stateL ws2 bg2 := ⟨_, rfl⟩
      rw [← hst]
      have STL := Aside0.mk (show st.length = 8 by rw [hst]; exact stateL_len Hl2.out)
      have SE := Aside0.mk (show shaL bs = st.flatMap word4 by rw [hst, ST2.out, shaL, ← HM.out])
      clear hst
      go_loopg [50] 8 (fun g i wr => ∃ k : Nat, k + g = 8 ∧ i = .int .i64 k ∧ Aside0 (At wr b2 27 (List.replicate 32 (bv 0))) ∧ Aside0 (At wr b7 27 (dUp ((st.take k).flatMap word4))) ∧ Aside0 (Below w.heap.size w wr))
      case atStart => exact ⟨0, rfl, rfl, N2, N7, B⟩
      case round =>
        obtain ⟨k, hk, rfl, N2, N7, B⟩ := hrel
        by_cases hlt : k < 8
        · have hx : st[k]? = some (st.getD k 0) := by rw [List.getD_eq_getElem?_getD, List.getElem?_eq_getElem (by rw [STL.out]; exact hlt)]; rfl
          generalize hxx : st.getD k 0 = x at hx
          clear hxx
          have hix : (Instr.index 275 (Value.agg (List.map u32v st).toArray) (Value.int .i64 (k : Int))).run Tryz.prog wr = .ok (.int .u32 x) wr :=
            run_index_row wr 275 274 8 _ k _ _ u275 size274 u274 rfl hlt (by rw [List.getElem?_map, hx]; rfl)
          have HX := Aside0.mk hx
          clear hx
          go_wp2_with fail
          go_loopg [54] 4 (fun g i wr => ∃ j : Nat, j + g = 4 ∧ i = .int .i64 j ∧ Aside0 (At wr b2 27 (List.replicate 32 (bv 0))) ∧ Aside0 (At wr b7 27 (dUp ((st.take k).flatMap word4 ++ (word4 x).take j))) ∧ Aside0 (Below w.heap.size w wr))
          case atStart => exact ⟨0, rfl, rfl, N2, ⟨by rw [List.take_zero, List.append_nil]; exact N7.out⟩, B⟩
          case round =>
            obtain ⟨j, hj, rfl, N2, N7, B⟩ := hrel
            have hl0 : ((st.take k).flatMap word4).length = 4 * k := by rw [flatMap_word4_len, List.length_take, STL.out]; omega
            have hl1 : ((st.take k).flatMap word4 ++ (word4 x).take j).length = 4 * k + j := by rw [List.length_append, hl0, List.length_take, word4_len]; omega
            by_cases hjl : j < 4
            · have d7 : wr.cell? ⟨b7, 4 * k + j, none⟩ = some (.int .u8 0) := by rw [N7.out.cell, dUp_get _ _ hl1.symm (by omega)]; rfl
              have f7 : wr.frozen? ⟨b7, 4 * k + j, none⟩ = false := N7.out.frozen _
              have HL1 := Aside0.mk hl1
              clear hl0 hl1
              go_wp2_with fail
              go_roundg (4 - (j + 1))
              case measure => omega
              case rel =>
                have hne : b2 ≠ b7 ∧ w.heap.size ≤ b7 := by have := L7.out; have := L2.out; omega
                rw [← bv_word]
                refine ⟨j + 1, by omega, by go_num, ⟨N2.out.setCell_other hne.1 _⟩, ⟨?_⟩, ⟨B.out.setCell (p := ⟨b7, 4 * k + j, none⟩) hne.2 _⟩⟩
                have e := N7.out.setCell (4 * k + j) (bv (UInt8.ofNat ((x / 2 ^ (8 * (3 - j)) % 256).toNat)))
                rw [dUp_set _ _ _ HL1.out.symm (by omega)] at e
                rw [List.take_add_one, bv_word4 x j hjl, ← List.append_assoc]
                exact e
            · obtain rfl : j = 4 := by omega
              clear hl0 hl1
              go_wp2_with fail
              go_roundg (8 - (k + 1))
              case measure => omega
              case rel =>
                refine ⟨k + 1, by omega, by go_num, N2, ⟨?_⟩, B⟩
                have e := N7.out
                rw [List.take_of_length_le (l := word4 x) (by rw [word4_len]; exact Nat.le_refl _)] at e
                rw [List.take_add_one, HX.out, List.flatMap_append]
                have e2 : (some x).toList.flatMap word4 = word4 x := by simp
                rw [e2]
                exact e
        · obtain rfl : k = 8 := by omega
          have e := N7.out
          rw [List.take_of_length_le (by rw [STL.out]; exact Nat.le_refl _), ← SE.out] at e
          have hdl : (shaL bs).length = 32 := by rw [SE.out, flatMap_word4_len, STL.out]
          have hdu : dUp (shaL bs) = (shaL bs).map bv := by unfold dUp; rw [hdl]; simp
          rw [hdu] at e
          have N7 := Aside0.mk e
          have DL := Aside0.mk hdl
          clear hdl hdu e
          go_wp2_with (first
            | (refine arm_load_row rfl 27 _ rfl b7 0 rfl ((shaL bs).map bv) N7.out.rangeAll (by kernel_rfl) (by rw [List.length_map, DL.out]; exact size27) ?_
               intro v hv
               have HV := Aside0.mk hv
               clear hv)
            | (refine arm_store_row rfl 27 _ _ rfl b2 27 _ ((shaL bs).map bv) rfl HV.out N2.out (by rw [List.length_map, DL.out]; rfl) (by rw [List.length_map, DL.out]; exact size27) (one_bv _) ?_
               intro W hW
               have hN : At W b2 27 ((shaL bs).map bv) := by subst hW; exact N2.out.setRow _
               have hB : Below w.heap.size w W := by subst hW; exact below_setRow B.out L2.out _
               have N2 := Aside0.mk hN
               have B := Aside0.mk hB
               clear hN hB hW)
            | fail)
          refine bodyPost_ret (results_cell_row rfl _ W b2 27 _ (0, 0) (.array 32 5) rfl N2.out tu27 rfl (by simp only [List.size_toArray, List.length_map, DL.out]; exact size27)) rfl ?_
          exact ⟨rfl, B.out⟩
end Go.Proofs.YtbpfmlckddhgbaaGreatDoor
/- SHA-256: Of, Cut. -/
namespace Go.Proofs.YtbpfmlckddhgbaaGreatDoor
open Go Go.RowKit Go.Proofs.YtbpfmlckddhgbaaGreatDoorW.PrintWords
def cutD (d : List UInt8) (k : Nat) : List UInt8 := d.take k ++ List.replicate (32 - k) 0
def digV (d : List UInt8) : Value := .agg ((d.map bv).toArray)
def zeroD : List UInt8 := List.replicate 32 0
def RdL (w : World) (A : Option Addr) (bs : List UInt8) : Prop :=
  bs ≠ [] → ∃ ad, A = some ad ∧ ad.block < w.heap.size ∧ ∀ k, k < bs.length → w.cell? (ad.add k) = some (bv (bs.getD k 0))
theorem RdL.below {w w1 : World} {A : Option Addr} {bs : List UInt8} (h : RdL w A bs) (hb : Below w.heap.size w w1) : RdL w1 A bs := fun hne => by
  obtain ⟨ad, h1, h2, h3⟩ := h hne
  exact ⟨ad, h1, Nat.lt_of_lt_of_le h2 hb.size, fun k hk => by rw [hb.cell (by rw [add_block]; exact h2)]; exact h3 k hk⟩
theorem RdL.rd {w : World} {A : Option Addr} {bs : List UInt8} (h : RdL w A bs) {w1 : World} (hb : Below w.heap.size w w1) {b : Nat} (hlt : w.heap.size ≤ b) : Rd w1 b A bs := fun hne => by
  obtain ⟨ad, h1, h2, h3⟩ := h hne
  exact ⟨ad, h1, by omega, Nat.lt_of_lt_of_le h2 hb.size, fun k hk => by rw [hb.cell (by rw [add_block]; exact h2)]; exact h3 k hk⟩
theorem of_calls (w : World) (g : Nat) (A : Option Addr) (c : Nat) (ds : List UInt8) (hg : w.cell? ⟨g, 0, none⟩ = some (.slice A ds.length c)) (hR : RdL w A ds) (hlen : ds.length < 2 ^ 59) (hc : ds.length ≤ c) :
    Calls Tryz.prog 73 #[.slice (some ⟨g, 0, none⟩) 1 1] w fun e w' => e = .returned (digV (shaL ds)) ∧ Below w.heap.size w w' := by
  have HG := Aside0.mk hg
  have HR := Aside0.mk hR
  have hgl : g < w.heap.size := World.block_lt_of_cell? w _ hg
  have hdl : (shaL ds).length = 32 := by rw [shaL, flatMap_word4_len, shaSt_len]
  have DL := Aside0.mk hdl
  clear hg hR hdl
  go_enter Tryz.func73, Tryz.ntmps73
  go_wp2_with (first
    | (refine arm_alloc rfl 27 rfl _ _ info27 ?_; intro W b2 hb hW
       have hN2 : At W b2 27 (List.replicate 32 (bv 0)) := by subst hW hb; exact At.new _ _ _
       have hB : Below w.heap.size w W := by subst hW; exact (Below.refl _ _).alloc (Nat.le_refl _) _
       have L2 := Aside0.mk (show w.heap.size ≤ b2 by rw [hb]; exact Nat.le_refl _)
       have N2 := Aside0.mk hN2
       have B := Aside0.mk hB
       clear hN2 hB hb hW)
    | (go_at_call 125; refine (new_calls _).mono ?_; rintro e wa ⟨b, rfl, hlb, hH, hO⟩
       have hN2 : At wa b2 27 (List.replicate 32 (bv 0)) := N2.out.below hO N2.out.lt
       have hB : Below w.heap.size w wa := B.out.trans (hO.mono B.out.size)
       have hg : wa.cell? ⟨g, 0, none⟩ = some (.slice A ds.length c) := by rw [hB.cell hgl]; exact HG.out
       have L3 := Aside0.mk (show b2 < b ∧ w.heap.size ≤ b from ⟨Nat.lt_of_lt_of_le N2.out.lt hlb, Nat.le_trans B.out.size hlb⟩)
       have N2 := Aside0.mk hN2
       have HH := Aside0.mk hH
       have B := Aside0.mk hB
       clear hN2 hB hO hH hlb)
    | fail)
  refine wp_loop_rounds 2 ?_
  rw [rounds_succ]
  go_wp2_with (first
    | (go_at_call 126; refine (write_calls _ b [] ds A c HH.out (HR.out.rd B.out L3.out.2) (by simpa using Nat.lt_trans hlen (by decide)) hc).mono ?_
       rintro e wz ⟨rfl, hH, hO⟩
       have hN2 : At wz b2 27 (List.replicate 32 (bv 0)) := hO.at_ N2.out.lt (by have := L3.out.1; omega) N2.out
       have hB : Below w.heap.size w wz := below_only B.out hO B.out.size (fun b hb => by subst hb; exact L3.out.2)
       have N2 := Aside0.mk hN2
       have HH := Aside0.mk hH
       have B := Aside0.mk hB
       clear hN2 hB hO hH)
    | fail)
  rw [rounds_succ]
  go_wp2_with (first
    | (go_at_call 127; refine (sum_calls _ b _ HH.out hlen).mono ?_
       rintro e wz ⟨rfl, hO⟩
       have hN2 : At wz b2 27 (List.replicate 32 (bv 0)) := N2.out.below hO N2.out.lt
       have hB : Below w.heap.size w wz := B.out.trans (hO.mono B.out.size)
       have N2 := Aside0.mk hN2
       have B := Aside0.mk hB
       clear hN2 hB hO)
    | (refine arm_store_row rfl 27 _ _ rfl b2 27 _ ((shaL ds).map bv) rfl rfl N2.out (by rw [List.length_map, DL.out]; rfl) (by rw [List.length_map, DL.out]; exact size27) (one_bv _) ?_
       intro W hW
       have hN : At W b2 27 ((shaL ds).map bv) := by subst hW; exact N2.out.setRow _
       have hB : Below w.heap.size w W := by subst hW; exact below_setRow B.out L2.out _
       have N2 := Aside0.mk hN
       have B := Aside0.mk hB
       clear hN hB hW)
    | fail)
  refine bodyPost_ret (results_cell_row rfl _ W b2 27 _ (0, 0) (.array 32 5) rfl N2.out tu27 rfl (by simp only [List.size_toArray, List.length_map, DL.out]; exact size27)) rfl ?_
  exact ⟨rfl, B.out⟩
theorem run_slice_array_end {P : Program} (w : World) (t e : TypeId) (n b o : Nat) (hu : P.underlying t = some (.array n e)) (he : (P.info? e).map (·.size) = some 1) :
    (Instr.sliceAt t (.pointer (some ⟨b, o, none⟩)) (some (.int .i64 (n : Int))) none none).run P w = .ok (.slice (some ⟨b, o, none⟩) 0 0) w := by
  cases hi : P.info? e with
  | none => simp [hi] at he
  | some i =>
    have h1 : (0 : Int) ≤ (n : Int) ∧ (n : Int) ≤ (n : Int) := by omega
    simp [Instr.sliceAt, Instr.sureAddr, Sem.run_bind, run_underlying hu w, Instr.sliceBounds, Instr.sliceBound, asIntOf, h1, sizeOf, typeInfo, hi]
theorem zero5 (w : World) : (zeroValue 5).run Tryz.prog w = .ok (.int .u8 0) w := by kernel_rfl
section
variable {P : Program} {ops : Array Oper} {rest : List Oper} {o : Oper} {a : Act} {w : World} {Q : Exit → Act → World → Prop}
theorem arm_clear (hg : o.guard = none) (x : Operand) (T : TypeId) (ho : o.op = .call { callee := .builtin .clear, args := #[x], argTypes := #[T] }) (s : Value) (hx : a.eval x = s) (w' : World)
    (hrun : ∀ ty, (Builtin.clear_ #[T] ty #[s]).run P w = .ok (.tuple #[]) w') (h : ∀ W, W = w' → wpList P ops Q rest (a.put o.dst (.tuple #[])) W) : wpList P ops Q (o :: rest) a w := by
  refine wpList_plain hg fun K hK => ?_
  unfold Oper.wp
  simp [execOp, ho, resolve, invoke, builtin, hx, hrun, Result.andThen]
  exact hK _ _ (h _ rfl)
end
theorem splice_end {α : Type} (xs : List α) (k : Nat) (ys : List α) (h : k + ys.length = xs.length) : splice xs k ys = xs.take k ++ ys := by
  unfold splice; rw [List.drop_eq_nil_of_le (by omega), List.append_nil]
theorem clear_end (W : World) (b k : Nat) (cs : List Value) (t : TypeId) (hA : At W b t cs) (hc : cs.length = 32) (hk : k ≤ 32) (ty : TypeId) :
    (Builtin.clear_ #[35] ty #[.slice (some ⟨b, if k < 32 then k else 0, none⟩) (32 - k) (32 - k)]).run Tryz.prog W = .ok (.tuple #[]) (W.setCells b k (List.replicate (32 - k) (bv 0))) := by
  by_cases h : k < 32
  · rw [if_pos h]
    exact Lib.run_clear_slice W 35 5 ty (bv 0) tu35 zero5 rfl rfl b k (32 - k) (32 - k) (by omega) (fun j hj => by rw [hA.cell, List.getElem?_eq_getElem (by omega)]; rfl) (fun j hj => hA.frozen _)
  · rw [show 32 - k = 0 by omega]
    simp [Builtin.clear_, run_underlying tu35, World.setCells]
def wOk (wd : Int) : Bool := decide (1 ≤ wd) && decide (wd ≤ 32)
theorem cutD_len (d : List UInt8) (k : Nat) (hd : d.length = 32) (hk : k ≤ 32) : (cutD d k).length = 32 := by simp [cutD, hd]; omega
set_option maxRecDepth 4000 in
theorem cut_calls (w : World) (d : List UInt8) (wd : Int) (hd : d.length = 32) :
    Calls Tryz.prog 72 #[digV d, .int .i64 wd] w fun e w' => e = .returned (if wOk wd then .tuple #[digV (cutD d wd.toNat), .int .i64 0] else .tuple #[digV zeroD, .int .i64 3]) ∧ Below w.heap.size w w' := by
  have HD := Aside0.mk hd
  have D0 := Aside0.mk (show (d.map bv).length = 32 by rw [List.length_map]; exact hd)
  clear hd
  obtain ⟨dv, hdv⟩ : ∃ dv, dv = digV d := ⟨_, rfl⟩
  rw [← hdv]
  have DV := Aside0.mk hdv
  clear hdv
  by_cases hok : 1 ≤ wd ∧ wd ≤ 32
  · obtain ⟨k, rfl⟩ : ∃ k : Nat, wd = (k : Int) := ⟨wd.toNat, by omega⟩
    have hk1 : 1 ≤ k := by omega
    have hk2 : k ≤ 32 := by omega
    have hw : wOk (k : Int) = true := by unfold wOk; simp; omega
    rw [if_pos hw, Int.toNat_natCast]
    have t1 : decide ((k : Int) < 1) = false := decide_eq_false (by omega)
    have t2 : decide (32 < (k : Int)) = false := decide_eq_false (by omega)
    clear hw hok
    obtain ⟨off, hoff⟩ : ∃ off, off = if k < 32 then k else 0 := ⟨_, rfl⟩
    have OFF := Aside0.mk hoff
    clear hoff
    go_enter Tryz.func72, Tryz.ntmps72
    go_wp2_with (first
      | (refine arm_box rfl 27 _ rfl (d.map bv) DV.out ?_; intro W b2 hb hW
         have hA : At W b2 27 (d.map bv) := by subst hW hb; exact At.new _ _ _
         have hB : Below w.heap.size w W := by subst hW; exact (Below.refl _ _).alloc (Nat.le_refl _) _
         have L2 := Aside0.mk (show w.heap.size ≤ b2 by rw [hb]; exact Nat.le_refl _)
         have A := Aside0.mk hA
         have B := Aside0.mk hB
         clear hA hB hb hW)
      | (refine arm_alloc rfl 27 rfl _ _ info27 ?_; intro W b4 hb hW
         have hA : At W b2 27 (d.map bv) := by subst hW; exact A.out.alloc _
         have hN : At W b4 27 (List.replicate 32 (bv 0)) := by subst hW hb; exact At.new _ _ _
         have hB : Below w.heap.size w W := by subst hW; exact B.out.alloc B.out.size _
         have L4 := Aside0.mk (show b2 < b4 by have := A.out.lt; omega)
         have hsl : (Instr.sliceAt 27 (.pointer (some ⟨b2, 0, none⟩)) (some (.int .i64 (k : Int))) none none).run Tryz.prog W = .ok (.slice (some ⟨b2, off, none⟩) (32 - k) (32 - k)) W := by
           rw [OFF.out]
           by_cases h : k < 32
           · rw [run_slice_array (P := Tryz.prog) W 27 5 32 b2 0 k tu27 size5 h, if_pos h, Nat.zero_add]
           · have e := run_slice_array_end W 27 5 32 b2 0 tu27 size5
             rw [if_neg h, show 32 - k = 0 by omega, show (k : Int) = ((32 : Nat) : Int) by omega]
             exact e
         have A := Aside0.mk hA
         have N := Aside0.mk hN
         have B := Aside0.mk hB
         clear hA hN hB hb hW)
      | (refine arm_clear rfl _ 35 rfl (.slice (some ⟨b2, off, none⟩) (32 - k) (32 - k)) rfl _ (by rw [OFF.out]; exact clear_end W b2 k _ 27 A.out D0.out hk2) ?_
         intro W2 hW
         have hA : At W2 b2 27 ((cutD d k).map bv) := by
           subst hW
           have e := A.out.setCells (List.replicate (32 - k) (bv 0)) k (by rw [D0.out, List.length_replicate]; omega)
           rw [splice_end _ _ _ (by rw [D0.out, List.length_replicate]; omega)] at e
           rw [cutD, List.map_append, List.map_take, List.map_replicate]
           exact e
         have hN : At W2 b4 27 (List.replicate 32 (bv 0)) := by subst hW; exact N.out.setCells_other (by have := L4.out; omega) _ _
         have hB : Below w.heap.size w W2 := by subst hW; exact below_setCells B.out L2.out _ _
         have A := Aside0.mk hA
         have N := Aside0.mk hN
         have B := Aside0.mk hB
         have CL := Aside0.mk (cutD_len d k HD.out hk2)
         clear hA hN hB hW)
      | (refine arm_load_row rfl 27 _ rfl b2 0 rfl ((cutD d k).map bv) A.out.rangeAll (by kernel_rfl) (by rw [List.length_map, CL.out]; exact size27) ?_
         intro v hv
         have HV := Aside0.mk hv
         clear hv)
      | (refine arm_store_row rfl 27 _ _ rfl b4 27 _ ((cutD d k).map bv) rfl HV.out N.out (by rw [List.length_map, CL.out]; rfl) (by rw [List.length_map, CL.out]; exact size27) (one_bv _) ?_
         intro W3 hW
         have hN : At W3 b4 27 ((cutD d k).map bv) := by subst hW; exact N.out.setRow _
         have hB : Below w.heap.size w W3 := by subst hW; exact below_setRow B.out (by have := L2.out; have := L4.out; omega) _
         have N := Aside0.mk hN
         have B := Aside0.mk hB
         clear hN hB hW)
      | fail)
    all_goals
      refine bodyPost_ret (results_cell_tmp rfl _ W3 b4 27 _ (.array 32 5) rfl N.out tu27 rfl (by rw [List.length_map, CL.out]; exact size27)) rfl ?_
      exact ⟨rfl, B.out⟩
  · have hw : wOk wd = false := by
      unfold wOk
      by_cases h : 1 ≤ wd
      · simp [h]; omega
      · simp [h]
    rw [hw, if_neg Bool.false_ne_true]
    by_cases h1 : wd < 1
    · have t1 : decide (wd < 1) = true := decide_eq_true h1
      clear hw hok
      go_enter Tryz.func72, Tryz.ntmps72
      go_wp2_with (first
        | (refine arm_box rfl 27 _ rfl (d.map bv) DV.out ?_; intro W b2 hb hW
           have hB : Below w.heap.size w W := by subst hW; exact (Below.refl _ _).alloc (Nat.le_refl _) _
           have B := Aside0.mk hB
           clear hB hb hW)
        | (refine arm_alloc rfl 27 rfl _ _ info27 ?_; intro W b4 hb hW
           have hN : At W b4 27 (List.replicate 32 (bv 0)) := by subst hW hb; exact At.new _ _ _
           have hB : Below w.heap.size w W := by subst hW; exact B.out.alloc B.out.size _
           have L4 := Aside0.mk (show w.heap.size ≤ b4 by rw [hb]; exact B.out.size)
           have N := Aside0.mk hN
           have B := Aside0.mk hB
           clear hN hB hb hW)
        | (refine arm_build rfl 27 _ rfl (List.replicate 32 (bv 0)) (by as_aux_lemma => kernel_rfl) ?_; intro v hv; have HV := Aside0.mk hv; clear hv)
        | (refine arm_store_row rfl 27 _ _ rfl b4 27 _ (zeroD.map bv) rfl HV.out N.out rfl size27 (one_bv _) ?_
           intro W3 hW
           have hN : At W3 b4 27 (zeroD.map bv) := by subst hW; exact N.out.setRow _
           have hB : Below w.heap.size w W3 := by subst hW; exact below_setRow B.out L4.out _
           have N := Aside0.mk hN
           have B := Aside0.mk hB
           clear hN hB hW)
        | fail)
      refine bodyPost_ret (results_cell_tmp rfl _ W3 b4 27 _ (.array 32 5) rfl N.out tu27 rfl size27) rfl ?_
      exact ⟨rfl, B.out⟩
    · have t1 : decide (wd < 1) = false := decide_eq_false h1
      have t2 : decide (32 < wd) = true := decide_eq_true (by omega)
      clear hw hok
      go_enter Tryz.func72, Tryz.ntmps72
      go_wp2_with (first
        | (refine arm_box rfl 27 _ rfl (d.map bv) DV.out ?_; intro W b2 hb hW
           have hB : Below w.heap.size w W := by subst hW; exact (Below.refl _ _).alloc (Nat.le_refl _) _
           have B := Aside0.mk hB
           clear hB hb hW)
        | (refine arm_alloc rfl 27 rfl _ _ info27 ?_; intro W b4 hb hW
           have hN : At W b4 27 (List.replicate 32 (bv 0)) := by subst hW hb; exact At.new _ _ _
           have hB : Below w.heap.size w W := by subst hW; exact B.out.alloc B.out.size _
           have L4 := Aside0.mk (show w.heap.size ≤ b4 by rw [hb]; exact B.out.size)
           have N := Aside0.mk hN
           have B := Aside0.mk hB
           clear hN hB hb hW)
        | (refine arm_build rfl 27 _ rfl (List.replicate 32 (bv 0)) (by as_aux_lemma => kernel_rfl) ?_; intro v hv; have HV := Aside0.mk hv; clear hv)
        | (refine arm_store_row rfl 27 _ _ rfl b4 27 _ (zeroD.map bv) rfl HV.out N.out rfl size27 (one_bv _) ?_
           intro W3 hW
           have hN : At W3 b4 27 (zeroD.map bv) := by subst hW; exact N.out.setRow _
           have hB : Below w.heap.size w W3 := by subst hW; exact below_setRow B.out L4.out _
           have N := Aside0.mk hN
           have B := Aside0.mk hB
           clear hN hB hW)
        | fail)
      refine bodyPost_ret (results_cell_tmp rfl _ W3 b4 27 _ (.array 32 5) rfl N.out tu27 rfl size27) rfl ?_
      exact ⟨rfl, B.out⟩
end Go.Proofs.YtbpfmlckddhgbaaGreatDoor
/- A row of one's own that grows; what append does to it. -/
namespace Go.Proofs.YtbpfmlckddhgbaaGreatDoor
open Go Go.RowKit Go.Proofs.YtbpfmlckddhgbaaGreatDoorW.PrintWords
def Own (w : World) (e : TypeId) (v : Value) (xs : List Value) : Prop := w.ownsRow 0 e 1 v xs.length xs
namespace Own
variable {w w1 : World} {e : TypeId} {v : Value} {xs : List Value}
theorem nil (w : World) (e : TypeId) : Own w e (.slice none 0 0) [] := World.ownsRow_nil w 0 e 1
theorem lt (h : Own w e v xs) {k : Nat} (hk : v.ownBlock = some k) : k < w.heap.size := (World.ownsRow.lt h k hk).2
theorem only {S : Nat → Prop} {B : Nat} (h : Own w e v xs) (ho : Only S B w w1) (hb : ∀ k, v.ownBlock = some k → k < B ∧ ¬ S k) : Own w1 e v xs := by
  obtain ⟨h1, h2 | ⟨g, cap, cur, hv, hg, hcell, h3⟩⟩ := h
  · exact ⟨h1, .inl h2⟩
  · have := hb g (by rw [hv]; rfl)
    exact ⟨h1, .inr ⟨g, cap, cur, hv, hg, by rw [ho.block g this.1 this.2]; exact hcell, h3⟩⟩
theorem below {B : Nat} (h : Own w e v xs) (ho : Below B w w1) (hb : ∀ k, v.ownBlock = some k → k < B) : Own w1 e v xs :=
  h.only (Only.of_below (S := fun _ => False) ho) (fun k hk => ⟨hb k hk, id⟩)
theorem alloc (h : Own w e v xs) (o : Obj) : Own (w.alloc o) e v xs := World.ownsRow.alloc h o
theorem reads (h : Own w e v xs) : ∃ A c, v = .slice A xs.length c ∧ xs.length ≤ c ∧ (xs ≠ [] → ∃ ad, A = some ad ∧ v.ownBlock = some ad.block ∧ ∀ j u, xs[j]? = some u → w.cell? (ad.add j) = some u) := by
  have h' := h
  obtain ⟨h1, ⟨hv, hn⟩ | ⟨g, cap, cur, hv, _, hcell, hc, _⟩⟩ := h
  · exact ⟨none, 0, by rw [hv, hn], by omega, fun hne => absurd (List.eq_nil_of_length_eq_zero hn) hne⟩
  · exact ⟨_, cap, hv, hc, fun _ => ⟨_, rfl, by rw [hv]; rfl, World.ownsRow.cells h' (by rw [hv]; rfl)⟩⟩
theorem rdl {l : List UInt8} (h : Own w e v (l.map bv)) : ∃ A c, v = .slice A l.length c ∧ l.length ≤ c ∧ RdL w A l ∧ (l ≠ [] → ∃ ad, A = some ad ∧ v.ownBlock = some ad.block) := by
  obtain ⟨A, c, hv, hc, hr⟩ := h.reads
  rw [List.length_map] at hv hc
  refine ⟨A, c, hv, hc, fun hne => ?_, fun hne => ?_⟩
  · obtain ⟨ad, h1, h2, h3⟩ := hr (by simpa using hne)
    refine ⟨ad, h1, h.lt h2, fun k hk => ?_⟩
    exact h3 k _ (by rw [List.getElem?_map, List.getElem?_eq_getElem hk, List.getD_eq_getElem?_getD, List.getElem?_eq_getElem hk]; rfl)
  · obtain ⟨ad, h1, h2, _⟩ := hr (by simpa using hne)
    exact ⟨ad, h1, h2⟩
theorem lit (w : World) (e : TypeId) (cs : List Value) (hm : cs.length ≤ 1099511627776) : Own (w.alloc (.cells cs.toArray e)) e (.slice (some ⟨w.heap.size, 0, none⟩) cs.length cs.length) cs := by
  refine ⟨by rw [Nat.mul_one], .inr ⟨_, _, _, rfl, Nat.zero_le _, heap_alloc_last _ _, Nat.le_refl _, by simp [maxLen]; omega, by simp, by simp⟩⟩
end Own
section
variable {P : Program} {ops : Array Oper} {rest : List Oper} {o : Oper} {a : Act} {w : World} {Q : Exit → Act → World → Prop}
theorem arm_append (hgd : o.guard = none) (s x : Operand) (t e : TypeId) (ho : o.op = .call { callee := .builtin .append, args := #[s, x], argTypes := #[t, t] }) (z : Value) (bytes : Nat)
    (hu : P.underlying t = some (.slice e)) (hi : (P.info? e).map (fun i => (i.zero, i.size, i.bytes)) = some (some z, 1, bytes)) (hz : z.cells.size = 1)
    (v : Value) (xs ys : List Value) (hs : a.eval s = v) (hown : Own w e v xs) (ad : Addr) (m c : Nat) (hx : a.eval x = .slice (some ad) m c) (hm : m = ys.length) (hys : ∀ j u, ys[j]? = some u → w.cell? (ad.add j) = some u)
    (h1 : ∀ u ∈ ys, u.oneCell' = true) (hb : (xs.length + ys.length) * bytes ≤ 140737488355328) (hb2 : xs.length + ys.length ≤ 140737488355328)
    (h : ∀ v' W, Own W e v' (xs ++ ys) → Only (fun k => v.ownBlock = some k) w.heap.size w W → (v'.ownBlock = v.ownBlock ∨ v'.ownBlock = some w.heap.size) → wpList P ops Q rest (a.put o.dst v') W) : wpList P ops Q (o :: rest) a w := by
  cases hq : P.info? e with
  | none => simp [hq] at hi
  | some i =>
    simp [hq] at hi
    obtain ⟨i1, i2, i3⟩ := hi
    subst hm
    refine wpList_append_own_at w hgd s x t ho 0 e i z 1 bytes hu hq i1 i2 i3 hz (by omega) v xs.length xs hs hown ad ys.length c ys hx (by simp) hys h1 (by simp [maxLen]; omega) hb (Nat.zero_le _) ?_
    intro v' W h2 h3 _ h5
    refine h v' W ?_ ⟨h3.os, h3.tape, h3.output, h3.size, fun k hk hS => h3.block k hk (fun e => hS e.symm)⟩ h5
    unfold Own
    rw [List.length_append]
    exact h2
end
end Go.Proofs.YtbpfmlckddhgbaaGreatDoor
/- mint: a number's form. -/
namespace Go.Proofs.YtbpfmlckddhgbaaGreatDoor
open Go Go.RowKit Go.Proofs.YtbpfmlckddhgbaaGreatDoorW.PrintWords
def manyOf (u : Nat) : Nat → Nat
  | 0 => 0
  | k + 1 => if u / 2 ^ (8 * k) = 0 then manyOf u k else k + 1
def formByte (u k : Nat) : UInt8 := UInt8.ofNat (u / 2 ^ (8 * k) % 256)
def formTail (u : Nat) : Nat → List UInt8
  | 0 => []
  | k + 1 => formByte u k :: formTail u k
def formL (u : Nat) : List UInt8 := if u < 248 then [UInt8.ofNat u] else UInt8.ofNat (247 + manyOf u 8) :: formTail u (manyOf u 8)
theorem formTail_len (u k : Nat) : (formTail u k).length = k := by
  induction k with
  | zero => rfl
  | succ k ih => simp [formTail, ih]
theorem manyOf_le (u k : Nat) : manyOf u k ≤ k := by
  induction k with
  | zero => exact Nat.le_refl _
  | succ k ih => unfold manyOf; split <;> omega
theorem formL_len (u : Nat) : (formL u).length ≤ 9 ∧ 0 < (formL u).length := by
  unfold formL
  have := manyOf_le u 8
  split <;> simp [formTail_len]; omega
theorem bv_formByte (u k : Nat) : bv (formByte u k) = .int .u8 ((u : Int) / 2 ^ (8 * k) % 256) := by
  unfold formByte
  rw [bv_ofNat _ (Nat.mod_lt _ (by decide))]
  congr 1
theorem news_one (w : World) (x : Value) (e : TypeId) : ∀ j u, ([x] : List Value)[j]? = some u → (w.alloc (.cells #[x] e)).cell? ((⟨w.heap.size, 0, none⟩ : Addr).add j) = some u := by
  intro j u h
  match j with
  | 0 =>
    rw [Addr.add_mid, (At.new w e #[x]).cell]
    exact h
  | j + 1 => simp at h
set_option maxRecDepth 4000 in
theorem form_calls (w : World) (u : Nat) (hu : u < 18446744073709551616) :
    Calls Tryz.prog 196 #[.int .u64 (u : Int)] w fun e w' => ∃ v, e = .returned v ∧ Own w' 5 v ((formL u).map bv) ∧ Below w.heap.size w w' ∧ ∃ b, v.ownBlock = some b ∧ w.heap.size ≤ b := by
  by_cases hs : u < 248
  · have t1 : decide ((u : Int) < 248) = true := decide_eq_true (by omega)
    have t2 : (u : Int) % 256 = (u : Int) := by omega
    go_enter Tryz.func196, Tryz.ntmps196
    go_wp2_with fail
    go_ret
    refine ⟨_, rfl, ?_, (Below.refl _ _).alloc (Nat.le_refl _) _, _, rfl, Nat.le_refl _⟩
    have e := Own.lit w 5 [bv (UInt8.ofNat u)] (by simp)
    rw [bv_ofNat u (by omega)] at e
    unfold formL
    rw [if_pos hs, List.map_cons, List.map_nil, bv_ofNat u (by omega)]
    exact e
  · have t1 : decide ((u : Int) < 248) = false := decide_eq_false (by omega)
    go_enter Tryz.func196, Tryz.ntmps196
    go_wp2_with fail
    go_loopg [3] 8 (fun g i wr => w = wr ∧ ∃ j : Nat, j + 1 = g ∧ i = .int .i64 ((j : Int) + 1) ∧ j < 8 ∧ Aside0 (manyOf u (j + 1) = manyOf u 8))
    case atStart => exact ⟨rfl, 7, rfl, rfl, by omega, ⟨rfl⟩⟩
    case round =>
      obtain ⟨rfl, j, hj, rfl, hj8, HM⟩ := hrel
      by_cases h0 : u / 2 ^ (8 * j) = 0
      · have hb : ((u : Int) / 2 ^ (8 * j) == 0) = true := by
          rw [beq_iff_eq, ← Int.natCast_zero, ← h0]; simp
        have hjp : 0 < j := by
          rcases Nat.eq_zero_or_pos j with rfl | h
          · simp at h0; omega
          · exact h
        have H0 := Aside0.mk h0
        clear h0
        go_wp2_with fail
        go_roundg j
        case measure => omega
        case rel =>
          refine ⟨rfl, j - 1, by omega, ?_, by omega, ⟨?_⟩⟩
          · rw [show ((j - 1 : Nat) : Int) = (j : Int) - 1 by omega]; go_num
          · have e := HM.out
            rw [manyOf, if_pos H0.out] at e
            rw [show j - 1 + 1 = j by omega]; exact e
      · have hb : ((u : Int) / 2 ^ (8 * j) == 0) = false := by
          rw [beq_eq_false_iff_ne]
          intro h
          apply h0
          have : ((u / 2 ^ (8 * j) : Nat) : Int) = 0 := by rw [← h]; simp
          omega
        have hm : manyOf u 8 = j + 1 := by rw [← HM.out, manyOf, if_neg h0]
        have XM := Aside0.mk hm
        clear h0 hm HM
        obtain ⟨hd, hhd⟩ : ∃ hd, hd = UInt8.ofNat (247 + manyOf u 8) := ⟨_, rfl⟩
        have hbd : bv hd = .int .u8 (247 + ((j : Int) + 1)) := by
          rw [hhd, XM.out, bv_ofNat _ (by omega)]; congr 1
        have t3 : (247 + ((j : Int) + 1)) % 256 = 247 + ((j : Int) + 1) := by omega
        have HD := Aside0.mk hhd
        have BD := Aside0.mk hbd
        clear hhd hbd
        go_wp2_with fail
        go_loopg [4, 5] (j + 1) (fun g v i wr => ∃ (k : Nat) (l : List UInt8), k = g ∧ i = .int .i64 ((k : Int) - 1) ∧ k ≤ j + 1 ∧ Aside0 (l ++ formTail u k = hd :: formTail u (j + 1)) ∧ Aside0 (Own wr 5 v (l.map bv)) ∧ Aside0 (l.length ≤ 20) ∧ Aside0 (l.length + k = j + 2) ∧
          Aside0 (Below w.heap.size w wr) ∧ Aside0 (∃ b, v.ownBlock = some b ∧ w.heap.size ≤ b))
        case atStart =>
          refine ⟨j + 1, [hd], rfl, by go_num, Nat.le_refl _, ⟨rfl⟩, ⟨?_⟩, ⟨by simp⟩, ⟨by simp; omega⟩, ⟨(Below.refl _ _).alloc (Nat.le_refl _) _⟩, ⟨_, rfl, Nat.le_refl _⟩⟩
          have e := Own.lit w 5 [bv hd] (by simp)
          rw [BD.out] at e
          rw [List.map_cons, List.map_nil, BD.out]
          exact e
        case round =>
          obtain ⟨k, l, hk, rfl, hkj, HL, HO, HN, HK, HB, HV⟩ := hrel
          rcases Nat.eq_zero_or_pos k with rfl | hkp
          · go_wp2_with fail
            go_ret
            refine ⟨_, rfl, ?_, HB.out, HV.out⟩
            have e := HL.out
            rw [formTail, List.append_nil] at e
            unfold formL
            rw [if_neg hs, ← HD.out, XM.out, ← e]
            exact HO.out
          · obtain ⟨k', rfl⟩ : ∃ k', k = k' + 1 := ⟨k - 1, by omega⟩
            rw [show (((k' + 1 : Nat) : Int) - 1) = (k' : Int) by omega]
            obtain ⟨y, hy⟩ : ∃ y, y = (u : Int) / 2 ^ (8 * k') % 256 := ⟨_, rfl⟩
            have HY := Aside0.mk hy
            have hyy : (u : Int) / 2 ^ (8 * k') % 256 = y := hy.symm
            clear hy
            go_wp2_with (first
              | (refine arm_append rfl _ _ 35 5 rfl (bv 0) 1 tu35 info5z rfl u4 (l.map bv) [.int .u8 y] rfl (HO.out.alloc _) ⟨wr.heap.size, 0, none⟩ 1 1 rfl rfl (news_one wr _ 5) (by intro u hu; simp at hu; subst hu; rfl) (by have := HN.out; simp; omega) (by have := HN.out; simp; omega) ?_
                 intro v' W hO hS hat
                 have hB : Below w.heap.size w W := by
                   have h1 : Below w.heap.size w (wr.alloc (.cells #[.int .u8 y] 5)) := HB.out.alloc HB.out.size _
                   refine below_only h1 hS (Nat.le_trans HB.out.size (by simp)) (fun b hb => ?_)
                   obtain ⟨b', hb', hle⟩ := HV.out
                   rw [hb'] at hb; injection hb with hb; omega
                 have hV : ∃ b, v'.ownBlock = some b ∧ w.heap.size ≤ b := by
                   rcases hat with h | h
                   · rw [h]; exact HV.out
                   · exact ⟨_, h, Nat.le_trans HB.out.size (by simp)⟩
                 have HO := Aside0.mk hO
                 have HB := Aside0.mk hB
                 have HV := Aside0.mk hV
                 clear hO hS hat hB hV)
              | fail)
            go_roundg k'
            case measure => omega
            case rel =>
              refine ⟨k', l ++ [formByte u k'], rfl, by go_num, by omega, ⟨?_⟩, ⟨?_⟩, ⟨?_⟩, ⟨?_⟩, HB, HV⟩
              · rw [← HL.out, formTail, List.append_assoc]; rfl
              · rw [List.map_append, List.map_cons, List.map_nil, bv_formByte, ← HY.out]; exact HO.out
              · have := HN.out; have := HK.out; simp; omega
              · have := HK.out; simp; omega
end Go.Proofs.YtbpfmlckddhgbaaGreatDoor
/- mint: a Writer that has met no fault. -/
namespace Go.Proofs.YtbpfmlckddhgbaaGreatDoor
open Go Go.RowKit Go.Proofs.YtbpfmlckddhgbaaGreatDoorW.PrintWords
structure Wr (w : World) (b : Nat) (v : Value) (l : List UInt8) : Prop where
  cells : At w b 283 [v, .int .i64 0]
  own : Own w 5 v (l.map bv)
  apart : v.ownBlock ≠ some b
def WrS (b : Nat) (v : Value) : Nat → Prop := fun k => k = b ∨ v.ownBlock = some k
def WrAt (w : World) (v v' : Value) : Prop := v'.ownBlock = v.ownBlock ∨ ∃ k, v'.ownBlock = some k ∧ w.heap.size ≤ k
abbrev Pt := Addr × Nat × List UInt8
def Pt.val (p : Pt) : Value := .slice (some p.1) p.2.2.length p.2.1
structure Pt.Ok (w : World) (b : Nat) (v : Value) (p : Pt) : Prop where
  apart : ¬ WrS b v p.1.block
  lt : p.1.block < w.heap.size
  cap : p.2.2.length ≤ p.2.1
  cell : ∀ k, k < p.2.2.length → w.cell? (p.1.add k) = some (bv (p.2.2.getD k 0))
def ptsL (ps : List Pt) : List UInt8 := ps.flatMap (·.2.2)
theorem ptsL_take (ps : List Pt) (j : Nat) (p : Pt) (h : ps[j]? = some p) : ptsL (ps.take (j + 1)) = ptsL (ps.take j) ++ p.2.2 := by
  unfold ptsL
  rw [List.take_add_one, h, List.flatMap_append]
  simp
theorem ptsL_le (ps : List Pt) (j : Nat) : (ptsL (ps.take j)).length ≤ (ptsL ps).length := by
  have e : ptsL ps = ptsL (ps.take j) ++ ptsL (ps.drop j) := by unfold ptsL; rw [← List.flatMap_append, List.take_append_drop]
  rw [e, List.length_append]; omega
theorem WrAt.trans {w w1 : World} {v v1 v2 : Value} (h : WrAt w v v1) (h2 : WrAt w1 v1 v2) (hs : w.heap.size ≤ w1.heap.size) : WrAt w v v2 := by
  rcases h2 with h2 | ⟨k, h2, h3⟩
  · unfold WrAt; rw [h2]; exact h
  · exact .inr ⟨k, h2, by omega⟩
theorem WrAt.only {w w1 w2 : World} {b : Nat} {v v1 : Value} (ha : WrAt w v v1) (h : Only (WrS b v) w.heap.size w w1) (h2 : Only (WrS b v1) w1.heap.size w1 w2) : Only (WrS b v) w.heap.size w w2 :=
  h.then_only h2 h.size (fun k hk hS => by
    rcases hS with rfl | hS
    · exact .inl rfl
    · rcases ha with ha | ⟨k', ha, hle⟩
      · exact .inr (by rw [← ha]; exact hS)
      · rw [ha] at hS; injection hS with hS; omega)
theorem wnew_calls (w : World) : Calls Tryz.prog 130 #[] w fun e w' => ∃ b v, e = .returned (.pointer (some ⟨b, 0, none⟩)) ∧ w.heap.size ≤ b ∧ Wr w' b v [] ∧ v.ownBlock = none ∧ Below w.heap.size w w' := by
  go_enter Tryz.func130, Tryz.ntmps130
  go_wp2_with (first
    | (refine arm_build rfl 283 _ rfl [.slice none 0 0, .int .i64 0] (by as_aux_lemma => kernel_rfl) ?_; intro v hv; have HV := Aside0.mk hv; clear hv)
    | (refine arm_box rfl 283 _ rfl [.slice none 0 0, .int .i64 0] HV.out ?_; intro W b hb hW
       have hA : At W b 283 [.slice none 0 0, .int .i64 0] := by subst hW hb; exact At.new _ _ _
       have hB : Below w.heap.size w W := by subst hW; exact (Below.refl _ _).alloc (Nat.le_refl _) _
       have A := Aside0.mk hA
       have B := Aside0.mk hB
       have L := Aside0.mk hb
       clear hA hB hb hW)
    | fail)
  go_ret
  exact ⟨b, .slice none 0 0, rfl, by rw [L.out]; exact Nat.le_refl _, ⟨A.out, Own.nil _ _, by simp [Value.ownBlock]⟩, rfl, B.out⟩
set_option maxRecDepth 4000 in
theorem add_calls (w : World) (b g : Nat) (v : Value) (l : List UInt8) (ps : List Pt) (hW : Wr w b v l) (hg : ¬ WrS b v g) (hc : ∀ j, j < ps.length → ∃ p, ps[j]? = some p ∧ w.cell? ⟨g, j, none⟩ = some p.val)
    (hp : ∀ p ∈ ps, p.Ok w b v) (hl : l.length + (ptsL ps).length ≤ 4194304) (hn : ps.length ≤ 1000) :
    Calls Tryz.prog 195 #[.pointer (some ⟨b, 0, none⟩), .slice (some ⟨g, 0, none⟩) ps.length ps.length] w fun e w' => ∃ v', e = .returned (.tuple #[]) ∧ Wr w' b v' (l ++ ptsL ps) ∧ Only (WrS b v) w.heap.size w w' ∧ WrAt w v v' := by
  have d0 : w.cell? ⟨b, 0, none⟩ = some v := by rw [hW.cells.cell]; rfl
  have d1 : w.cell? ⟨b, 1, none⟩ = some (.int .i64 0) := by rw [hW.cells.cell]; rfl
  obtain ⟨A, c, hv, _, _⟩ := hW.own.rdl
  have HW := Aside0.mk hW
  have HG := Aside0.mk hg
  have HC := Aside0.mk hc
  have HP := Aside0.mk hp
  have HL := Aside0.mk hl
  have HV := Aside0.mk hv
  rw [hv] at d0
  clear hW hg hc hp hl hv
  go_enter Tryz.func195, Tryz.ntmps195
  go_wp2_with fail
  go_loopg [4, 16] ps.length (fun g n i wr => w = wr ∧ ∃ j : Nat, j + g = ps.length ∧ i = .int .i64 j ∧ n = .int .i64 ((l.length : Int) + ((ptsL (ps.take j)).length : Int)))
  case atStart => exact ⟨rfl, 0, by omega, rfl, by simp [ptsL]⟩
  case round =>
    obtain ⟨rfl, j, hj, rfl, rfl⟩ := hrel
    by_cases hlt : j < ps.length
    · obtain ⟨p, hpj, hcell⟩ := HC.out j hlt
      have htk := ptsL_take ps j p hpj
      have hle := ptsL_le ps (j + 1)
      rw [htk, List.length_append] at hle
      have HT := Aside0.mk htk
      have hle2 : l.length + ((ptsL (ps.take j)).length + p.2.2.length) ≤ 4194304 := Nat.le_trans (by omega) HL.out
      unfold Pt.val at hcell
      clear hpj htk hle
      go_wp2_with fail
      go_roundg (ps.length - (j + 1))
      case measure => omega
      case rel =>
        refine ⟨rfl, j + 1, by omega, by go_num, ?_⟩
        rw [HT.out, List.length_append, Int.natCast_add, ← Int.add_assoc]
    · obtain rfl : j = ps.length := by omega
      rw [List.take_of_length_le (Nat.le_refl _)]
      have t1 : decide (4194304 < (l.length : Int) + ((ptsL ps).length : Int)) = false := decide_eq_false (by have := HL.out; omega)
      go_wp2_with fail
      go_loopg [39] ps.length (fun g i wr => ∃ (j : Nat) (v1 : Value), j + g = ps.length ∧ i = .int .i64 j ∧ Aside0 (Wr wr b v1 (l ++ ptsL (ps.take j))) ∧ Aside0 (Only (WrS b v) w.heap.size w wr) ∧ Aside0 (WrAt w v v1))
      case atStart => exact ⟨0, v, by omega, rfl, ⟨by simp [ptsL]; exact HW.out⟩, ⟨Only.refl _ _ _⟩, ⟨.inl rfl⟩⟩
      case round =>
        obtain ⟨j, v1, hj, rfl, H1, S1, A1⟩ := hrel
        by_cases hlt : j < ps.length
        · obtain ⟨p, hpj, hcell⟩ := HC.out j hlt
          have htk := ptsL_take ps j p hpj
          have hle := ptsL_le ps (j + 1)
          rw [htk, List.length_append] at hle
          have hok := HP.out p (List.mem_of_getElem? hpj)
          have hcw : wr.cell? ⟨g, j, none⟩ = some (.slice (some p.1) p.2.2.length p.2.1) := by
            rw [S1.out.cell (World.block_lt_of_cell? w _ hcell) HG.out]; exact hcell
          have e0 : wr.cell? ⟨b, 0, none⟩ = some v1 := by rw [H1.out.cells.cell]; rfl
          have e1 : wr.cell? ⟨b, 1, none⟩ = some (.int .i64 0) := by rw [H1.out.cells.cell]; rfl
          have hrd : ∀ k u, (p.2.2.map bv)[k]? = some u → wr.cell? (p.1.add k) = some u := by
            intro k u hu
            rw [List.getElem?_map] at hu
            cases hx : p.2.2[k]? with
            | none => rw [hx] at hu; cases hu
            | some x =>
              rw [hx] at hu
              rw [S1.out.cell (by rw [add_block]; exact hok.lt) (by rw [add_block]; exact hok.apart), hok.cell k (List.getElem?_eq_some_iff.1 hx).1, List.getD_eq_getElem?_getD, hx]
              exact hu
          have HT := Aside0.mk htk
          have HLE := Aside0.mk hle
          have HRD := Aside0.mk hrd
          clear hpj hcell htk hle hok hrd
          go_wp2_with (first
            | (refine arm_append rfl _ _ 35 5 rfl (bv 0) 1 tu35 info5z rfl v1 _ (p.2.2.map bv) rfl H1.out.own p.1 p.2.2.length p.2.1 rfl (by simp) HRD.out (one_bv _) (by have := HL.out; have := HLE.out; simp; omega) (by have := HL.out; have := HLE.out; simp; omega) ?_
               intro v2 W hO hS hat
               obtain ⟨A2, n2, c2, hv2⟩ : ∃ A2 n2 c2, v2 = .slice A2 n2 c2 := by
                 obtain ⟨A2, c2, e, _⟩ := hO.reads
                 exact ⟨A2, _, c2, e⟩
               subst hv2
               have hA : At W b 283 [v1, .int .i64 0] := hS.at_ H1.out.cells.lt H1.out.apart H1.out.cells
               have k0 : W.cell? ⟨b, 0, none⟩ = some v1 := by rw [hA.cell]; rfl
               have kf : W.frozen? ⟨b, 0, none⟩ = false := hA.frozen _
               have HA := Aside0.mk hA
               have HO := Aside0.mk hO
               have HS := Aside0.mk hS
               have HAT := Aside0.mk hat
               clear hA hO hS hat)
            | fail)
          go_roundg (ps.length - (j + 1))
          case measure => omega
          case rel =>
            refine ⟨j + 1, .slice A2 n2 c2, by omega, by go_num, ⟨⟨?_, ?_, ?_⟩⟩, ⟨?_⟩, ⟨?_⟩⟩
            · exact HA.out.setCell 0 _
            · rw [HT.out, ← List.append_assoc, List.map_append]
              refine HO.out.only ((Only.refl (· = b) W.heap.size W).setCell (a := ⟨b, 0, none⟩) (.inl rfl) _) (fun k hk => ⟨HO.out.lt hk, fun e => ?_⟩)
              subst e
              rcases HAT.out with h | h
              · rw [h] at hk; exact H1.out.apart hk
              · rw [h] at hk; injection hk with hk; have := H1.out.cells.lt; omega
            · intro h
              rcases HAT.out with h' | h'
              · rw [h'] at h; exact H1.out.apart h
              · rw [h'] at h; injection h with h; have := H1.out.cells.lt; omega
            · have o1 : Only (WrS b v1) wr.heap.size wr (W.setCell ⟨b, 0, none⟩ (.slice A2 n2 c2)) :=
                (HS.out.mono (Nat.le_refl _) (fun k _ h => .inr h)).setCell (a := ⟨b, 0, none⟩) (.inl (.inl rfl)) _
              exact A1.out.only S1.out o1
            · rcases HAT.out with h | h
              · rcases A1.out with h' | ⟨k, h', h3⟩
                · exact .inl (h.trans h')
                · exact .inr ⟨k, h.trans h', h3⟩
              · exact .inr ⟨_, h, S1.out.size⟩
        · obtain rfl : j = ps.length := by omega
          rw [List.take_of_length_le (Nat.le_refl _)] at H1
          go_wp2_with fail
          refine Great.bodyPost_end0 rfl rfl ?_
          exact ⟨v1, rfl, H1.out, S1.out, A1.out⟩
end Go.Proofs.YtbpfmlckddhgbaaGreatDoor
/- mint: a Writer's Num, Bytes, Text, Done. -/
namespace Go.Proofs.YtbpfmlckddhgbaaGreatDoor
open Go Go.RowKit Go.Proofs.YtbpfmlckddhgbaaGreatDoorW.PrintWords
theorem Wr.below {w w1 : World} {b : Nat} {v : Value} {l : List UInt8} (h : Wr w b v l) (hb : Below w.heap.size w w1) : Wr w1 b v l :=
  ⟨h.cells.below hb h.cells.lt, h.own.below hb (fun _ hk => h.own.lt hk), h.apart⟩
theorem Wr.lt {w : World} {b : Nat} {v : Value} {l : List UInt8} (h : Wr w b v l) {k : Nat} (hk : WrS b v k) : k < w.heap.size := by
  rcases hk with rfl | hk
  · exact h.cells.lt
  · exact h.own.lt hk
theorem Pt.Ok.below {w w1 : World} {b : Nat} {v : Value} {p : Pt} (h : p.Ok w b v) (hb : Below w.heap.size w w1) : p.Ok w1 b v :=
  ⟨h.apart, Nat.lt_of_lt_of_le h.lt hb.size, h.cap, fun k hk => by rw [hb.cell (by rw [add_block]; exact h.lt)]; exact h.cell k hk⟩
theorem pt_of_own {w w1 : World} {b : Nat} {v v1 : Value} {l x : List UInt8} (h : Wr w b v l) (_hb : Below w.heap.size w w1) (ho : Own w1 5 v1 (x.map bv)) (hx : x ≠ []) (hf : ∃ k, v1.ownBlock = some k ∧ w.heap.size ≤ k) :
    ∃ ad c, v1 = .slice (some ad) x.length c ∧ Pt.Ok w1 b v (ad, c, x) := by
  obtain ⟨A, c, hv, hc, hr, ha⟩ := ho.rdl
  obtain ⟨ad, h1, h2, h3⟩ := hr hx
  obtain ⟨ad', h4, h5⟩ := ha hx
  rw [h1] at h4; injection h4 with h4; subst h4
  obtain ⟨k, hk1, hk2⟩ := hf
  rw [h5] at hk1; injection hk1 with hk1
  exact ⟨ad, c, by rw [hv, h1], ⟨fun hS => by have := h.lt hS; simp only at this; omega, h2, hc, h3⟩⟩
theorem tu9 : Tryz.prog.underlying 9 = some .string := by kernel_rfl
theorem tu5 : Tryz.prog.underlying 5 = some (.int .u8) := by kernel_rfl
theorem formL_ne (u : Nat) : formL u ≠ [] := fun h => by have := (formL_len u).2; rw [h] at this; exact absurd this (by decide)
theorem num_calls (w : World) (b : Nat) (v : Value) (l : List UInt8) (n : Nat) (hW : Wr w b v l) (hn : n < 9223372036854775808) (hl : l.length + (formL n).length ≤ 4194304) :
    Calls Tryz.prog 131 #[.pointer (some ⟨b, 0, none⟩), .int .i64 (n : Int)] w fun e w' => ∃ v', e = .returned (.tuple #[]) ∧ Wr w' b v' (l ++ formL n) ∧ Only (WrS b v) w.heap.size w w' ∧ WrAt w v v' := by
  have HW := Aside0.mk hW
  have HL := Aside0.mk hl
  clear hW hl
  go_enter Tryz.func131, Tryz.ntmps131
  go_wp2_with (first
    | (go_at_call 196; refine (form_calls _ n (by omega)).mono ?_; rintro e wa ⟨v1, rfl, hO, hB, hF⟩
       have hW1 := HW.out.below hB
       obtain ⟨ad, c, rfl, hP⟩ := pt_of_own HW.out hB hO (formL_ne n) hF
       have HB := Aside0.mk hB
       have HP := Aside0.mk hP
       have W1 := Aside0.mk hW1
       clear hO hB hF hW1 hP)
    | (go_at_call 195
       have hB2 : Below wa.heap.size wa (wa.alloc (.cells #[.slice (some ad) (formL n).length c] 35)) := (Below.refl _ _).alloc (Nat.le_refl _) _
       refine (add_calls _ b wa.heap.size v l [(ad, c, formL n)] (W1.out.below hB2) (fun hS => by have := W1.out.lt hS; omega) (fun j hj => ⟨(ad, c, formL n), ?_, ?_⟩) (fun p hp => ?_) (by simpa [ptsL] using HL.out) (by simp)).mono ?_
       · obtain rfl : j = 0 := by simp at hj; omega
         rfl
       · obtain rfl : j = 0 := by simp at hj; omega
         rw [(At.new wa 35 #[.slice (some ad) (formL n).length c]).cell]; rfl
       · rw [List.mem_singleton] at hp; subst hp; exact HP.out.below hB2
       rintro e wz ⟨v', rfl, hW2, hS2, hA2⟩
       have HW2 := Aside0.mk hW2
       have HS2 := Aside0.mk hS2
       have HA2 := Aside0.mk hA2
       have HB2 := Aside0.mk hB2
       clear hW2 hS2 hA2 hB2)
    | fail)
  refine Great.bodyPost_end0 rfl rfl ?_
  have e := HW2.out
  rw [show ptsL [(ad, c, formL n)] = formL n by simp [ptsL]] at e
  refine ⟨v', rfl, e, ?_, ?_⟩
  · exact (Only.of_below (HB.out.trans (HB2.out.mono HB.out.size))).then_only HS2.out (Nat.le_trans HB.out.size (by simp)) (fun _ _ h => h)
  · rcases HA2.out with h | ⟨k, h, h3⟩
    · exact .inl h
    · exact .inr ⟨k, h, Nat.le_trans (Nat.le_trans HB.out.size (by simp)) h3⟩
theorem bytes_calls (w : World) (b : Nat) (v : Value) (l : List UInt8) (ad0 : Addr) (c0 : Nat) (ds : List UInt8) (hW : Wr w b v l) (hP0 : Pt.Ok w b v (ad0, c0, ds)) (hl : l.length + ((formL ds.length).length + ds.length) ≤ 4194304) :
    Calls Tryz.prog 133 #[.pointer (some ⟨b, 0, none⟩), .slice (some ad0) ds.length c0] w fun e w' => ∃ v', e = .returned (.tuple #[]) ∧ Wr w' b v' (l ++ (formL ds.length ++ ds)) ∧ Only (WrS b v) w.heap.size w w' ∧ WrAt w v v' := by
  have HW := Aside0.mk hW
  have HL := Aside0.mk hl
  have HP0 := Aside0.mk hP0
  have hn : ds.length < 9223372036854775808 := by omega
  clear hW hl hP0
  go_enter Tryz.func133, Tryz.ntmps133
  go_wp2_with (first
    | (go_at_call 196; refine (form_calls _ ds.length (by omega)).mono ?_; rintro e wa ⟨v1, rfl, hO, hB, hF⟩
       have hW1 := HW.out.below hB
       obtain ⟨ad, c, rfl, hP⟩ := pt_of_own HW.out hB hO (formL_ne ds.length) hF
       have HP0 := Aside0.mk (HP0.out.below hB)
       have HB := Aside0.mk hB
       have HP := Aside0.mk hP
       have W1 := Aside0.mk hW1
       clear hO hB hF hW1 hP)
    | (go_at_call 195
       have hB2 : Below wa.heap.size wa (wa.alloc (.cells #[.slice (some ad) (formL ds.length).length c, .slice (some ad0) ds.length c0] 35)) := (Below.refl _ _).alloc (Nat.le_refl _) _
       refine (add_calls _ b wa.heap.size v l [(ad, c, formL ds.length), (ad0, c0, ds)] (W1.out.below hB2) (fun hS => by have := W1.out.lt hS; omega) (fun j hj => ?_) (fun p hp => ?_) (by simpa [ptsL] using HL.out) (by simp)).mono ?_
       · have hA := At.new wa 35 #[.slice (some ad) (formL ds.length).length c, .slice (some ad0) ds.length c0]
         rcases j with _ | _ | j
         · exact ⟨_, rfl, by rw [hA.cell]; rfl⟩
         · exact ⟨_, rfl, by rw [hA.cell]; rfl⟩
         · simp at hj; omega
       · rcases List.mem_cons.1 hp with rfl | hp
         · exact HP.out.below hB2
         · rw [List.mem_singleton] at hp; subst hp; exact HP0.out.below hB2
       rintro e wz ⟨v', rfl, hW2, hS2, hA2⟩
       have HW2 := Aside0.mk hW2
       have HS2 := Aside0.mk hS2
       have HA2 := Aside0.mk hA2
       have HB2 := Aside0.mk hB2
       clear hW2 hS2 hA2 hB2)
    | fail)
  refine Great.bodyPost_end0 rfl rfl ?_
  have e := HW2.out
  rw [show ptsL [(ad, c, formL ds.length), (ad0, c0, ds)] = formL ds.length ++ ds by simp [ptsL]] at e
  refine ⟨v', rfl, e, ?_, ?_⟩
  · exact (Only.of_below (HB.out.trans (HB2.out.mono HB.out.size))).then_only HS2.out (Nat.le_trans HB.out.size (by simp)) (fun _ _ h => h)
  · rcases HA2.out with h | ⟨k, h, h3⟩
    · exact .inl h
    · exact .inr ⟨k, h, Nat.le_trans (Nat.le_trans HB.out.size (by simp)) h3⟩
section
variable {P : Program} {ops : Array Oper} {rest : List Oper} {o : Oper} {a : Act} {w : World} {Q : Exit → Act → World → Prop}
theorem arm_bytes_of (hg : o.guard = none) (S T e : TypeId) (x : Operand) (ho : o.op = .convert S T x) (s : ByteArray) (hx : a.eval x = .string s) (hs : P.underlying S = some .string) (hd : P.underlying T = some (.slice e)) (he : P.underlying e = some (.int .u8))
    (h : ∀ W b c, b = w.heap.size → s.size ≤ c → b < W.heap.size → Below w.heap.size w W → (∀ k, k < s.data.toList.length → W.cell? ⟨b, k, none⟩ = some (bv (s.data.toList.getD k 0))) → wpList P ops Q rest (a.put o.dst (.slice (some ⟨b, 0, none⟩) s.size c)) W) : wpList P ops Q (o :: rest) a w := by
  refine wpList_plain hg fun K hK => ?_
  have hr := run_bytes_of_string w S T e s hs hd he
  have hr2 : (execOp a.eval o).run P w = .ok (.value (.slice (some ⟨w.heap.size, 0, none⟩) s.size (grownCap w s.size 0 e)))
      (w.drew.alloc (.cells (bytesRow s (grownCap w s.size 0 e)) e ((bytesRow s (grownCap w s.size 0 e)).size, (bytesRow s (grownCap w s.size 0 e)).size + 1))) := by
    unfold execOp
    simp [ho, hx, hr]
  unfold Oper.wp
  rw [hr2, Oper.upon_value]
  refine hK _ _ (h _ w.heap.size _ rfl (grownCap_ge _ _ _ _) (by simp) ((Below.refl _ _).drew.alloc (by simp) _) (fun k hk => ?_))
  have hk' : k < s.data.size := by simpa using hk
  have hcell := cell_of_row (w.drew.alloc (.cells (bytesRow s (grownCap w s.size 0 e)) e ((bytesRow s (grownCap w s.size 0 e)).size, (bytesRow s (grownCap w s.size 0 e)).size + 1))) w.heap.size k _ e _ (heap_alloc_last w.drew _)
  rw [hcell, bytesRow_at s _ k hk']
  simp only [bv]
  rw [List.getD_eq_getElem?_getD, Array.getElem?_toList, Array.getElem?_eq_getElem hk']
  rfl
end
set_option maxRecDepth 4000 in
theorem text_calls (w : World) (b : Nat) (v : Value) (l : List UInt8) (s : ByteArray) (hW : Wr w b v l) (hl : l.length + ((formL s.data.toList.length).length + s.data.toList.length) ≤ 4194304) :
    Calls Tryz.prog 132 #[.pointer (some ⟨b, 0, none⟩), .string s] w fun e w' => ∃ v', e = .returned (.tuple #[]) ∧ Wr w' b v' (l ++ (formL s.data.toList.length ++ s.data.toList)) ∧ Only (WrS b v) w.heap.size w w' ∧ WrAt w v v' := by
  have HW := Aside0.mk hW
  have HL := Aside0.mk hl
  clear hW hl
  go_enter Tryz.func132, Tryz.ntmps132
  have hsz : s.size = s.data.toList.length := ba_size s
  have HZ := Aside0.mk hsz
  clear hsz
  go_wp2_with (first
    | (refine arm_bytes_of rfl 9 35 5 _ rfl s rfl tu9 tu35 tu5 ?_; intro W b5 c5 hb hc hlt hB hcell
       have hP : Pt.Ok W b v (⟨b5, 0, none⟩, c5, s.data.toList) := ⟨fun hS => by have := HW.out.lt hS; simp only at this; omega, hlt, by rw [← HZ.out]; exact hc, fun k hk => by rw [Addr.add_mid, Nat.zero_add]; exact hcell k hk⟩
       have hW1 := HW.out.below hB
       have HB := Aside0.mk hB
       have HP := Aside0.mk hP
       have W1 := Aside0.mk hW1
       clear hB hP hW1 hcell hlt hc hb)
    | (go_at_call 133
       have hcall := bytes_calls W b v l ⟨b5, 0, none⟩ c5 s.data.toList W1.out HP.out HL.out
       rw [← HZ.out] at hcall
       refine hcall.mono ?_
       rintro e wz ⟨v', rfl, hW2, hS2, hA2⟩
       clear hcall
       rw [HZ.out] at hW2
       have HW2 := Aside0.mk hW2
       have HS2 := Aside0.mk hS2
       have HA2 := Aside0.mk hA2
       clear hW2 hS2 hA2)
    | fail)
  refine Great.bodyPost_end0 rfl rfl ?_
  refine ⟨v', rfl, HW2.out, ?_, ?_⟩
  · exact (Only.of_below HB.out).then_only HS2.out HB.out.size (fun _ _ h => h)
  · rcases HA2.out with h | ⟨k, h, h3⟩
    · exact .inl h
    · exact .inr ⟨k, h, Nat.le_trans HB.out.size h3⟩
end Go.Proofs.YtbpfmlckddhgbaaGreatDoor
/- bytes.Clone; mint: a Writer's Done. -/
namespace Go.Proofs.YtbpfmlckddhgbaaGreatDoor
open Go Go.RowKit Go.Proofs.YtbpfmlckddhgbaaGreatDoorW.PrintWords
theorem Own.of_base {w : World} {base e : Nat} {v : Value} {n : Nat} {xs : List Value} (h : w.ownsRow base e 1 v n xs) : Own w e v xs ∧ (∀ k, v.ownBlock = some k → base ≤ k) := by
  have hl : xs.length = n := by have := h.1; rw [Nat.mul_one] at this; exact this
  refine ⟨?_, fun k hk => (World.ownsRow.lt h k hk).1⟩
  unfold Own
  rw [hl]
  obtain ⟨h1, h2 | ⟨g, cap, cur, hv, _, h3⟩⟩ := h
  · exact ⟨h1, .inl h2⟩
  · exact ⟨h1, .inr ⟨g, cap, cur, hv, Nat.zero_le _, h3⟩⟩
theorem clone_calls (w : World) (A : Option Addr) (c : Nat) (ds : List UInt8) (hR : RdL w A ds) (hbig : ds.length ≤ 140737488355328) :
    Calls Tryz.prog 71 #[.slice A ds.length c] w fun e w' => ∃ v', e = .returned v' ∧ Own w' 5 v' (ds.map bv) ∧ (∀ k, v'.ownBlock = some k → w.heap.size ≤ k) ∧ Below w.heap.size w w' := by
  cases A with
  | none =>
    have h0 : ds = [] := by
      cases ds with
      | nil => rfl
      | cons x xs => obtain ⟨ad, h, _⟩ := hR (by simp); cases h
    subst h0
    refine (Tryz.bytes_Clone_nil 0 c w).mono ?_
    rintro e w' ⟨rfl, rfl⟩
    exact ⟨_, rfl, Own.nil _ _, fun k hk => by simp [Value.ownBlock] at hk, Below.refl _ _⟩
  | some ad =>
    refine (Tryz.bytes_Clone_at ad ds.length c (ds.map fun b => (b.toNat : Int)) w (by simp) hbig ?_).mono ?_
    · intro i hi
      obtain ⟨ad', h1, _, h3⟩ := hR (by intro h; rw [h] at hi; simp at hi)
      injection h1 with h1
      subst h1
      rw [h3 i hi]
      simp only [List.getD_eq_getElem?_getD, List.getElem?_map, List.getElem?_eq_getElem hi]
      rfl
    · rintro e w' ⟨v', rfl, h1, _, h3⟩
      have h4 := Own.of_base h1
      refine ⟨v', rfl, ?_, h4.2, h3⟩
      have e : (ds.map fun b => (b.toNat : Int)).map (Value.int .u8) = ds.map bv := by rw [List.map_map]; rfl
      rw [e] at h4
      exact h4.1
theorem wdone_calls (w : World) (b : Nat) (v : Value) (l : List UInt8) (hW : Wr w b v l) (hl : l.length ≤ 4194304) :
    Calls Tryz.prog 135 #[.pointer (some ⟨b, 0, none⟩)] w fun e w' => ∃ v', e = .returned (.tuple #[v', .int .i64 0]) ∧ Own w' 5 v' (l.map bv) ∧ (∀ k, v'.ownBlock = some k → w.heap.size ≤ k) ∧ Below w.heap.size w w' := by
  have d0 : w.cell? ⟨b, 0, none⟩ = some v := by rw [hW.cells.cell]; rfl
  have d1 : w.cell? ⟨b, 1, none⟩ = some (.int .i64 0) := by rw [hW.cells.cell]; rfl
  obtain ⟨A, c, hv, _, hr, _⟩ := hW.own.rdl
  rw [hv] at d0
  have HR := Aside0.mk hr
  clear hr hv hW
  go_enter Tryz.func135, Tryz.ntmps135
  go_wp2_with (first
    | (go_at_call 71; refine (clone_calls w A c l HR.out (by omega)).mono ?_; rintro e wz ⟨v', rfl, hO, hF, hB⟩
       have HO := Aside0.mk hO
       have HF := Aside0.mk hF
       have HB := Aside0.mk hB
       clear hO hF hB)
    | fail)
  go_ret2
  exact ⟨v', rfl, HO.out, HF.out, HB.out⟩
end Go.Proofs.YtbpfmlckddhgbaaGreatDoor
/- node: entries that may be a directory's; a digest's front. -/
namespace Go.Proofs.YtbpfmlckddhgbaaGreatDoor
open Go Go.RowKit Go.Proofs.YtbpfmlckddhgbaaGreatDoorW.PrintWords
structure Ent where
  name : ByteArray
  kind : Int
  dig : List UInt8
deriving Inhabited
def ecells (x : Ent) : List Value := .string x.name :: .int .i64 x.kind :: x.dig.map bv
def ltS (a b : ByteArray) : Bool := !Op.bytesLess b.toList a.toList && !(b.toList == a.toList)
def Ent.ok (x : Ent) (ahead : ByteArray) : Bool := (x.kind == 1 || x.kind == 2) && (isName x.name && ltS ahead x.name)
def entsOkFrom : ByteArray → List Ent → Bool
  | _, [] => true
  | ahead, x :: xs => x.ok ahead && entsOkFrom x.name xs
def entsOk (xs : List Ent) : Bool := entsOkFrom ByteArray.empty xs
theorem wrong_calls (w : World) (k : Int) (name ahead : ByteArray) (hk : k = 1 ∨ k = 2) (hn : isName name = true) (hl : ltS ahead name = true) :
    Calls Tryz.prog 194 #[.int .i64 k, .string name, .string ahead] w fun e w' => e = .returned (.int .i64 0) ∧ Below w.heap.size w w' := by
  have hl1 : Op.bytesLess name.toList ahead.toList = false := by unfold ltS at hl; simp at hl; simpa using hl.1
  have hl2 : (name.toList == ahead.toList) = false := by unfold ltS at hl; simp at hl; simpa using hl.2
  clear hl
  rcases hk with rfl | rfl
  · go_enter Tryz.func194, Tryz.ntmps194
    go_wp2_with (first
      | (go_at_call 173; refine (isName_calls name _).mono ?_; rintro e wz ⟨rfl, hB⟩; have HB := Aside0.mk hB; clear hB; rw [hn])
      | fail)
    go_ret
    exact ⟨rfl, HB.out⟩
  · go_enter Tryz.func194, Tryz.ntmps194
    go_wp2_with (first
      | (go_at_call 173; refine (isName_calls name _).mono ?_; rintro e wz ⟨rfl, hB⟩; have HB := Aside0.mk hB; clear hB; rw [hn])
      | fail)
    go_ret
    exact ⟨rfl, HB.out⟩
def frontN (d : List UInt8) : Nat → Nat
  | 0 => 0
  | n + 1 => if d.getD n 0 = 0 then frontN d n else n + 1
def frontL (d : List UInt8) : List UInt8 := d.take (frontN d 32)
theorem frontN_le (d : List UInt8) (n : Nat) : frontN d n ≤ n := by
  induction n with
  | zero => exact Nat.le_refl _
  | succ n ih => unfold frontN; split <;> omega
theorem run_slice_array_to {P : Program} (w : World) (t e : TypeId) (n b o : Nat) (z : Int) (q : Nat) (hz : z = (q : Int)) (hu : P.underlying t = some (.array n e)) (he : (P.info? e).map (·.size) = some 1) (hq : q ≤ n) :
    (Instr.sliceAt t (.pointer (some ⟨b, o, none⟩)) none (some (.int .i64 z)) none).run P w = .ok (.slice (some ⟨b, o, none⟩) q n) w := by
  subst hz
  cases hi : P.info? e with
  | none => simp [hi] at he
  | some i =>
    have h1 : (0 : Int) ≤ (q : Int) ∧ (q : Int) ≤ (n : Int) := by omega
    simp [Instr.sliceAt, Instr.sureAddr, Sem.run_bind, run_underlying hu w, Instr.sliceBounds, Instr.sliceBound, asIntOf, h1, hq, sizeOf, typeInfo, hi, Addr.add_mid]
theorem frontL_len (d : List UInt8) (hd : d.length = 32) : (frontL d).length = frontN d 32 := by
  rw [frontL, List.length_take, hd, Nat.min_eq_left (frontN_le d 32)]
theorem front_done {w w' : World} {d : List UInt8} {b n : Nat} (hd : d.length = 32) (hn : frontN d 32 = n) (hA : At w' b 27 (d.map bv)) (hb : w.heap.size ≤ b) (hB : Below w.heap.size w w') :
    ∃ b' c, (Ending.returned (.slice (some ⟨b, 0, none⟩) n 32)) = Ending.returned (.slice (some ⟨b', 0, none⟩) (frontL d).length c) ∧ (frontL d).length ≤ c ∧ w.heap.size ≤ b' ∧ b' < w'.heap.size ∧ Below w.heap.size w w' ∧ ∀ k, k < (frontL d).length → w'.cell? ⟨b', k, none⟩ = some (bv ((frontL d).getD k 0)) := by
  have hl := frontL_len d hd
  have hle := frontN_le d 32
  refine ⟨b, 32, by rw [hl, hn], by omega, hb, hA.lt, hB, fun k hk => ?_⟩
  rw [hl] at hk
  rw [hA.cell, List.getElem?_map, List.getElem?_eq_getElem (by omega), List.getD_eq_getElem?_getD, frontL, List.getElem?_take, if_pos hk, List.getElem?_eq_getElem (by omega)]
  rfl
set_option maxRecDepth 4000 in
theorem front_calls (w : World) (d : List UInt8) (hd : d.length = 32) :
    Calls Tryz.prog 134 #[digV d] w fun e w' => ∃ b c, e = .returned (.slice (some ⟨b, 0, none⟩) (frontL d).length c) ∧ (frontL d).length ≤ c ∧ w.heap.size ≤ b ∧ b < w'.heap.size ∧ Below w.heap.size w w' ∧ ∀ k, k < (frontL d).length → w'.cell? ⟨b, k, none⟩ = some (bv ((frontL d).getD k 0)) := by
  have HD := Aside0.mk hd
  clear hd
  obtain ⟨dv, hdv⟩ : ∃ dv, dv = digV d := ⟨_, rfl⟩
  rw [← hdv]
  have DV := Aside0.mk hdv
  clear hdv
  go_enter Tryz.func134, Tryz.ntmps134
  go_wp2_with (first
    | (refine arm_box rfl 27 _ rfl (d.map bv) DV.out ?_; intro W b2 hb hW
       have hA : At W b2 27 (d.map bv) := by subst hW hb; exact At.new _ _ _
       have hB : Below w.heap.size w W := by subst hW; exact (Below.refl _ _).alloc (Nat.le_refl _) _
       have L2 := Aside0.mk (show w.heap.size ≤ b2 by rw [hb]; exact Nat.le_refl _)
       have A := Aside0.mk hA
       have B := Aside0.mk hB
       clear hA hB hb hW)
    | fail)
  go_loopg [3] 32 (fun g i wr => W = wr ∧ ∃ n : Nat, Aside0 (n = g) ∧ i = .int .i64 n ∧ n ≤ 32 ∧ Aside0 (frontN d n = frontN d 32))
  case atStart => exact ⟨rfl, 32, ⟨rfl⟩, rfl, Nat.le_refl _, ⟨rfl⟩⟩
  case round =>
    obtain ⟨rfl, n, hn, rfl, hn32, HF⟩ := hrel
    rcases Nat.eq_zero_or_pos n with rfl | hp
    · have hf := Aside0.mk (show frontN d 32 = 0 from HF.out.symm)
      go_wp2_with fail
      go_ret
      exact front_done HD.out hf.out A.out L2.out B.out
    · obtain ⟨k, rfl⟩ : ∃ k, n = k + 1 := ⟨n - 1, by omega⟩
      rw [show ((k + 1 : Nat) : Int) = (k : Int) + 1 by omega]
      clear hp
      have hc : W.cell? ⟨b2, k, none⟩ = some (.int .u8 ((d.getD k 0).toNat : Int)) := by
        rw [A.out.cell, List.getElem?_map, List.getElem?_eq_getElem (by rw [HD.out]; omega), List.getD_eq_getElem?_getD, List.getElem?_eq_getElem (by rw [HD.out]; omega)]; rfl
      by_cases h0 : d.getD k 0 = 0
      · rw [h0] at hc
        have hc' : W.cell? ⟨b2, k, none⟩ = some (.int .u8 0) := hc
        have e : frontN d k = frontN d 32 := by rw [← HF.out, frontN, if_pos h0]
        have HE := Aside0.mk e
        clear hc h0 e
        go_wp2_with fail
        go_roundg k
        case measure => have := hn.out; omega
        case rel => exact ⟨rfl, k, ⟨rfl⟩, by go_num, by omega, HE⟩
      · have hb : (((d.getD k 0).toNat : Int) == 0) = false := beq_eq_false_iff_ne.2 (fun h => h0 (UInt8.toNat_inj.1 ((show (d.getD k 0).toNat = 0 by omega).trans rfl)))
        generalize ((d.getD k 0).toNat : Int) = x at hc hb
        have e : frontN d 32 = k + 1 := by rw [← HF.out, frontN, if_neg h0]
        have HE := Aside0.mk e
        have hsl := run_slice_array_to (P := Tryz.prog) W 27 5 32 b2 0 ((k : Int) + 1) (k + 1) (by omega) tu27 size5 hn32
        clear h0 e
        go_wp2_with fail
        go_ret
        exact front_done HD.out HE.out A.out L2.out B.out
end Go.Proofs.YtbpfmlckddhgbaaGreatDoor
/- node: Check of entries that may stand there. -/
namespace Go.Proofs.YtbpfmlckddhgbaaGreatDoor
open Go Go.RowKit Go.Proofs.YtbpfmlckddhgbaaGreatDoorW.PrintWords
theorem info101 : (Tryz.prog.info? 101).map (fun i => (i.zero, i.size)) = some (some (.agg ((ecells ⟨ByteArray.empty, 0, zeroD⟩).toArray)), 34) := by kernel_rfl
theorem size101 : (Tryz.prog.info? 101).map (·.size) = some 34 := by kernel_rfl
theorem row101 : (Tryz.prog.underlying 101).map TypeDesc.isRow = some true := by kernel_rfl
def eRow (xs : List Ent) : List Value := xs.flatMap ecells
def digsOk (xs : List Ent) : Prop := ∀ x ∈ xs, x.dig.length = 32
theorem ecells_len {x : Ent} (h : x.dig.length = 32) : (ecells x).length = 34 := by simp [ecells, h]
theorem one_ecells (x : Ent) : ∀ v ∈ ecells x, v.oneCell' = true := by
  intro v hv
  simp only [ecells, List.mem_cons, List.mem_map] at hv
  rcases hv with rfl | rfl | ⟨_, _, rfl⟩ <;> rfl
theorem eRow_len {xs : List Ent} (h : digsOk xs) : (eRow xs).length = 34 * xs.length := by
  induction xs with
  | nil => rfl
  | cons x xs ih =>
    have e := ih (fun y hy => h y (List.mem_cons_of_mem _ hy))
    unfold eRow at e ⊢
    rw [List.flatMap_cons, List.length_append, e, ecells_len (h x List.mem_cons_self), List.length_cons]; omega
theorem eRow_at {w : World} {g : Nat} {xs : List Ent} (h : w.rangeAt g 0 (eRow xs)) (hd : digsOk xs) {j : Nat} {x : Ent} (hj : xs[j]? = some x) : w.rangeAt g (j * 34) (ecells x) := by
  rw [Nat.mul_comm j 34]
  have hl : j < xs.length := (List.getElem?_eq_some_iff.1 hj).1
  have e : xs = xs.take j ++ x :: xs.drop (j + 1) := by
    have hx : xs[j] = x := (List.getElem?_eq_some_iff.1 hj).2
    rw [← hx, ← List.drop_eq_getElem_cons hl, List.take_append_drop]
  intro k v hk
  have h1 := h (34 * j + k) v
  rw [Nat.zero_add] at h1
  apply h1
  have hlt : (eRow (xs.take j)).length = 34 * j := by
    rw [eRow_len (fun y hy => hd y (List.mem_of_mem_take hy)), List.length_take, Nat.min_eq_left (by omega)]
  rw [e]
  unfold eRow at hlt ⊢
  rw [List.flatMap_append, List.flatMap_cons, List.getElem?_append_right (by omega), hlt, Nat.add_sub_cancel_left, List.getElem?_append_left (List.getElem?_eq_some_iff.1 hk).1]
  exact hk
def RdE (w : World) (A : Option Addr) (xs : List Ent) : Prop := xs ≠ [] → ∃ g, A = some ⟨g, 0, none⟩ ∧ g < w.heap.size ∧ w.rangeAt g 0 (eRow xs)
theorem rangeAt_below {w w1 : World} {B g o : Nat} {cs : List Value} (h : w.rangeAt g o cs) (hb : Below B w w1) (hg : g < B) : w1.rangeAt g o cs := fun j v hv => by
  rw [hb.cell (p := ⟨g, o + j, none⟩) hg]; exact h j v hv
theorem rangeAt_only {S : Nat → Prop} {w w1 : World} {B g o : Nat} {cs : List Value} (h : w.rangeAt g o cs) (hb : Only S B w w1) (hg : g < B) (hs : ¬ S g) : w1.rangeAt g o cs := fun j v hv => by
  rw [hb.cell (a := ⟨g, o + j, none⟩) hg hs]; exact h j v hv
theorem ncheck_calls (w : World) (A : Option Addr) (c : Nat) (xs : List Ent) (hd : digsOk xs) (hR : RdE w A xs) (hok : entsOk xs = true) (hl : xs.length ≤ 1024) :
    Calls Tryz.prog 129 #[.slice A xs.length c] w fun e w' => e = .returned (.int .i64 0) ∧ Below w.heap.size w w' := by
  have HD := Aside0.mk hd
  have HR := Aside0.mk hR
  have HK := Aside0.mk hok
  clear hd hR hok
  go_enter Tryz.func129, Tryz.ntmps129
  go_wp2_with fail
  go_loopg [3, 12] xs.length (fun g a i wr => ∃ (j : Nat) (ah : ByteArray), Aside0 (j + g = xs.length) ∧ i = .int .i64 j ∧ a = .string ah ∧ Aside0 (entsOkFrom ah (xs.drop j) = true) ∧ Aside0 (Below w.heap.size w wr))
  case atStart => exact ⟨0, ByteArray.empty, ⟨by omega⟩, rfl, rfl, HK, ⟨Below.refl _ _⟩⟩
  case round =>
    obtain ⟨j, ah, HJ, rfl, rfl, HO, HB⟩ := hrel
    by_cases hlt : j < xs.length
    · obtain ⟨x, hx⟩ : ∃ x, xs[j]? = some x := ⟨_, List.getElem?_eq_getElem hlt⟩
      obtain ⟨g, hA, hg, hrow⟩ := HR.out (by intro h; rw [h] at hlt; simp at hlt)
      subst hA
      have hrow2 := eRow_at (rangeAt_below hrow HB.out hg) HD.out hx
      have hxd := HD.out x (List.mem_of_getElem? hx)
      have ho := HO.out
      rw [List.drop_eq_getElem_cons hlt, (List.getElem?_eq_some_iff.1 hx).2] at ho
      simp only [entsOkFrom, Ent.ok, Bool.and_eq_true, Bool.or_eq_true, beq_iff_eq] at ho
      have HO := Aside0.mk ho
      have ROW := Aside0.mk hrow2
      have XD := Aside0.mk hxd
      clear ho hrow2 hxd hrow hx
      go_wp2_with (first
        | (refine arm_load_row rfl 101 _ rfl g (j * 34) rfl (ecells x) ROW.out row101 (by rw [ecells_len XD.out]; exact size101) ?_
           intro v hv
           have HV := Aside0.mk hv
           clear hv)
        | (refine arm_alloc rfl 101 rfl _ _ info101 ?_; intro W b5 hb hW
           have hN : At W b5 101 (ecells ⟨ByteArray.empty, 0, zeroD⟩) := by subst hW hb; exact At.new _ _ _
           have hB : Below w.heap.size w W := by subst hW; exact HB.out.alloc HB.out.size _
           have L5 := Aside0.mk (show w.heap.size ≤ b5 by rw [hb]; exact HB.out.size)
           have HN := Aside0.mk hN
           have HB := Aside0.mk hB
           clear hN hB hb hW)
        | (refine arm_store_row rfl 101 _ _ rfl b5 101 _ (ecells x) rfl HV.out HN.out (by rw [ecells_len XD.out]; rfl) (by rw [ecells_len XD.out]; exact size101) (one_ecells x) ?_
           intro W hW
           have hN : At W b5 101 (ecells x) := by subst hW; exact HN.out.setRow _
           have hB : Below w.heap.size w W := by subst hW; exact below_setRow HB.out L5.out _
           have k0 : W.cell? ⟨b5, 0, none⟩ = some (.string x.name) := by rw [hN.cell]; rfl
           have k1 : W.cell? ⟨b5, 1, none⟩ = some (.int .i64 x.kind) := by rw [hN.cell]; rfl
           have HN := Aside0.mk hN
           have HB := Aside0.mk hB
           clear hN hB hW)
        | (go_at_call 194; refine (wrong_calls _ x.kind x.name ah HO.out.1.1 HO.out.1.2.1 HO.out.1.2.2).mono ?_; rintro e wz ⟨rfl, hB⟩
           have hN : At wz b5 101 (ecells x) := HN.out.below hB HN.out.lt
           have k0 : wz.cell? ⟨b5, 0, none⟩ = some (.string x.name) := by rw [hN.cell]; rfl
           have hB2 : Below w.heap.size w wz := HB.out.trans (hB.mono HB.out.size)
           have HN := Aside0.mk hN
           have HB := Aside0.mk hB2
           clear hN hB hB2)
        | fail)
      go_roundg (xs.length - (j + 1))
      case measure => have := HJ.out; omega
      case rel => exact ⟨j + 1, x.name, ⟨by omega⟩, by go_num, rfl, ⟨HO.out.2⟩, HB⟩
    · obtain rfl : j = xs.length := by have := HJ.out; omega
      go_wp2_with fail
      go_ret
      exact ⟨rfl, HB.out⟩
end Go.Proofs.YtbpfmlckddhgbaaGreatDoor
/- node: Encode of entries that may stand there. -/
namespace Go.Proofs.YtbpfmlckddhgbaaGreatDoor
open Go Go.RowKit Go.Proofs.YtbpfmlckddhgbaaGreatDoorW.PrintWords
def encE (x : Ent) : List UInt8 := formL x.kind.toNat ++ ((formL x.name.data.toList.length ++ x.name.data.toList) ++ (formL (frontL x.dig).length ++ frontL x.dig))
def encL (xs : List Ent) : List UInt8 := formL 1 ++ (formL xs.length ++ xs.flatMap encE)
structure EncSt (w w1 : World) (b : Nat) (v : Value) (l : List UInt8) : Prop where
  put : Wr w1 b v l
  le : w.heap.size ≤ b
  own : ∀ k, v.ownBlock = some k → w.heap.size ≤ k
  below : Below w.heap.size w w1
namespace EncSt
variable {w w1 w2 : World} {b : Nat} {v v1 : Value} {l l1 : List UInt8}
theorem step (h : EncSt w w1 b v l) (hw : Wr w2 b v1 l1) (hS : Only (WrS b v) w1.heap.size w1 w2) (hA : WrAt w1 v v1) : EncSt w w2 b v1 l1 := by
  refine ⟨hw, h.le, fun k hk => ?_, below_only h.below hS h.below.size (fun k hk => ?_)⟩
  · rcases hA with hA | ⟨k', hA, hle⟩
    · rw [hA] at hk; exact h.own k hk
    · rw [hA] at hk; injection hk with hk; have := h.below.size; omega
  · rcases hk with rfl | hk
    · exact h.le
    · exact h.own k hk
theorem on (h : EncSt w w1 b v l) (hB : Below w1.heap.size w1 w2) : EncSt w w2 b v l := ⟨h.put.below hB, h.le, h.own, h.below.trans (hB.mono h.below.size)⟩
end EncSt
theorem wrs_step {w1 : World} {b c : Nat} {v v1 : Value} (h : ¬ WrS b v c) (hlt : c < w1.heap.size) (hA : WrAt w1 v v1) : ¬ WrS b v1 c := by
  intro hS
  rcases hS with rfl | hS
  · exact h (.inl rfl)
  · rcases hA with hA | ⟨k', hA, hle⟩
    · rw [hA] at hS; exact h (.inr hS)
    · rw [hA] at hS; injection hS with hS; omega
theorem isName_le {s : ByteArray} (h : isName s = true) : 1 ≤ s.data.toList.length ∧ s.data.toList.length ≤ 64 := by
  unfold isName isNameL at h
  simp only [Bool.and_eq_true, decide_eq_true_eq] at h
  exact ⟨h.1.1.1.1.1, h.1.1.1.1.2⟩
theorem encE_len {x : Ent} (hd : x.dig.length = 32) (hn : isName x.name = true) : (encE x).length ≤ 123 := by
  unfold encE
  have h1 := (formL_len x.kind.toNat).1
  have h2 := (formL_len x.name.data.toList.length).1
  have h3 := (formL_len (frontL x.dig).length).1
  have h4 := (isName_le hn).2
  have h5 : (frontL x.dig).length ≤ 32 := by rw [frontL_len _ hd]; exact frontN_le _ _
  simp only [List.length_append]
  omega
theorem At.rangeAt_eq {w : World} {b : Nat} {t : TypeId} {cs ds : List Value} (h : At w b t cs) (o : Nat) (hd : cs.drop o = ds) : w.rangeAt b o ds := fun j v hv => by
  rw [h.cell, ← List.getElem?_drop, hd]; exact hv
theorem encs_len {xs : List Ent} (hd : digsOk xs) (hn : ∀ x ∈ xs, isName x.name = true) : (xs.flatMap encE).length ≤ 123 * xs.length := by
  induction xs with
  | nil => simp
  | cons x xs ih =>
    have e := ih (fun y hy => hd y (List.mem_cons_of_mem _ hy)) (fun y hy => hn y (List.mem_cons_of_mem _ hy))
    have e2 := encE_len (hd x List.mem_cons_self) (hn x List.mem_cons_self)
    rw [List.flatMap_cons, List.length_append, List.length_cons]; omega
theorem entsOk_all {a : ByteArray} {xs : List Ent} (h : entsOkFrom a xs = true) : ∀ x ∈ xs, (x.kind = 1 ∨ x.kind = 2) ∧ isName x.name = true := by
  induction xs generalizing a with
  | nil => intro x hx; cases hx
  | cons y ys ih =>
    intro x hx
    simp only [entsOkFrom, Ent.ok, Bool.and_eq_true, Bool.or_eq_true, beq_iff_eq] at h
    rcases List.mem_cons.1 hx with rfl | hx
    · exact ⟨h.1.1, h.1.2.1⟩
    · exact ih h.2 x hx
attribute [local irreducible] formL frontL encE in
set_option maxRecDepth 4000 in
set_option maxHeartbeats 1000000 in
theorem encode_calls (w : World) (A : Option Addr) (c : Nat) (xs : List Ent) (hd : digsOk xs) (hR : RdE w A xs) (hok : entsOk xs = true) (hl : xs.length ≤ 1024) :
    Calls Tryz.prog 76 #[.slice A xs.length c] w fun e w' => ∃ v, e = .returned (.tuple #[v, .int .i64 0]) ∧ Own w' 5 v ((encL xs).map bv) ∧ (∀ k, v.ownBlock = some k → w.heap.size ≤ k) ∧ Below w.heap.size w w' := by
  have hall := entsOk_all hok
  have HALL := Aside0.mk hall
  have HN := Aside0.mk (show ∀ j, (formL 1).length + ((formL xs.length).length + ((xs.take j).flatMap encE).length) ≤ 126000 from fun j => by
    have h1 := (formL_len 1).1
    have h2 := (formL_len xs.length).1
    have h3 := encs_len (xs := xs.take j) (fun y hy => hd y (List.mem_of_mem_take hy)) (fun y hy => (hall y (List.mem_of_mem_take hy)).2)
    rw [List.length_take] at h3
    have h4 : min j xs.length ≤ 1024 := Nat.le_trans (Nat.min_le_right _ _) hl
    omega)
  have HD := Aside0.mk hd
  have HR := Aside0.mk hR
  have HK := Aside0.mk hok
  clear hd hR hok hall
  go_enter Tryz.func76, Tryz.ntmps76
  go_wp2_with (first
    | (go_at_call 129; refine (ncheck_calls _ A c xs HD.out HR.out HK.out hl).mono ?_; rintro e wa ⟨rfl, hB⟩
       have B0 := Aside0.mk hB
       clear hB)
    | (go_at_call 130
       refine (wnew_calls _).mono ?_
       rintro e wb ⟨b, v, rfl, hlb, hW, hv, hB⟩
       have hE : EncSt w wb b v [] := ⟨hW, Nat.le_trans B0.out.size hlb, (fun k hk => by rw [hv] at hk; exact nomatch hk), B0.out.trans (hB.mono B0.out.size)⟩
       have E := Aside0.mk hE
       clear hE hB hW hlb hv)
    | (go_at_call 131
       have z := N1.out
       refine (num_calls _ b _ _ xs.length E.out.put (by omega) (by have := (formL_len 1).1; have := (formL_len xs.length).1; simp; omega)).mono ?_
       rintro e wz ⟨v', rfl, hW, hS, hA⟩
       have hE := E.out.step hW hS hA
       have E := Aside0.mk hE
       clear hE hW hS hA z)
    | (go_at_call 131
       refine (num_calls _ b _ _ 1 E.out.put (by omega) (by have := (formL_len 1).1; simp; omega)).mono ?_
       rintro e wz ⟨v', rfl, hW, hS, hA⟩
       have hE := E.out.step hW hS hA
       have E := Aside0.mk hE
       have N1 := Aside0.mk True.intro
       clear hE hW hS hA)
    | fail)
  go_loopg [22] xs.length (fun g i wr => ∃ (j : Nat) (v : Value), Aside0 (j + g = xs.length) ∧ i = .int .i64 j ∧ Aside0 (EncSt w wr b v (([] ++ formL 1) ++ formL xs.length ++ (xs.take j).flatMap encE)))
  case atStart => exact ⟨0, _, ⟨by omega⟩, rfl, ⟨by rw [List.take_zero, List.flatMap_nil, List.append_nil]; exact E.out⟩⟩
  case round =>
    obtain ⟨j, v, HJ, rfl, E⟩ := hrel
    by_cases hlt : j < xs.length
    · obtain ⟨x, hx⟩ : ∃ x, xs[j]? = some x := ⟨_, List.getElem?_eq_getElem hlt⟩
      obtain ⟨g, hA, hg, hrow⟩ := HR.out (by intro h; rw [h] at hlt; simp at hlt)
      subst hA
      have ROW := Aside0.mk (eRow_at (rangeAt_below hrow E.out.below hg) HD.out hx)
      have XD := Aside0.mk (HD.out x (List.mem_of_getElem? hx))
      have XN := Aside0.mk (HALL.out x (List.mem_of_getElem? hx))
      have htk : (xs.take (j + 1)).flatMap encE = (xs.take j).flatMap encE ++ encE x := by
        rw [List.take_add_one, hx, List.flatMap_append]; simp
      have TK := Aside0.mk htk
      have NN := HN.out (j + 1)
      rw [htk] at NN
      obtain ⟨l0, hl0⟩ : ∃ l0, l0 = ([] ++ formL 1) ++ formL xs.length ++ (xs.take j).flatMap encE := ⟨_, rfl⟩
      have hll : l0.length + (encE x).length ≤ 126000 := by rw [hl0]; simp only [List.length_append, List.length_nil] at NN ⊢; omega
      rw [← hl0] at E
      obtain ⟨kn, hkn⟩ : ∃ kn : Nat, x.kind = (kn : Int) ∧ kn ≤ 2 := by
        rcases (HALL.out x (List.mem_of_getElem? hx)).1 with h | h
        · exact ⟨1, h, by omega⟩
        · exact ⟨2, h, by omega⟩
      have HLL := Aside0.mk hll
      have XE := Aside0.mk (show (formL kn).length + ((formL x.name.data.toList.length).length + x.name.data.toList.length + ((formL (frontL x.dig).length).length + (frontL x.dig).length)) = (encE x).length by
        unfold encE; rw [hkn.1]; simp only [List.length_append]; rfl)
      have L0 := Aside0.mk hl0
      have KN := Aside0.mk hkn
      clear hrow hx htk NN hl0 hll hkn
      go_wp2_with (first
        | (refine arm_load_row rfl 101 _ rfl g (j * 34) rfl (ecells x) ROW.out row101 (by rw [ecells_len XD.out]; exact size101) ?_
           intro vv hv
           have HV := Aside0.mk hv
           clear hv)
        | (refine arm_alloc rfl 101 rfl _ _ info101 ?_; intro W b5 hb hW
           have hN : At W b5 101 (ecells ⟨ByteArray.empty, 0, zeroD⟩) := by subst hW hb; exact At.new _ _ _
           have hB : Below wr.heap.size wr W := by subst hW; exact (Below.refl _ _).alloc (Nat.le_refl _) _
           have L5 := Aside0.mk (show wr.heap.size ≤ b5 ∧ ¬ WrS b v b5 from ⟨by rw [hb]; exact Nat.le_refl _, fun hS => by have := E.out.put.lt hS; omega⟩)
           have HN := Aside0.mk hN
           have E0 := E
           have HB := Aside0.mk hB
           clear hN hB hb hW)
        | (refine arm_store_row rfl 101 _ _ rfl b5 101 _ (ecells x) rfl HV.out HN.out (by rw [ecells_len XD.out]; rfl) (by rw [ecells_len XD.out]; exact size101) (one_ecells x) ?_
           intro W hW
           have hN : At W b5 101 (ecells x) := by subst hW; exact HN.out.setRow _
           have hB : Below wr.heap.size wr W := by subst hW; exact below_setRow HB.out L5.out.1 _
           have hE : EncSt w W b v l0 := E0.out.on hB
           have k0 : W.cell? ⟨b5, 0, none⟩ = some (.string x.name) := by rw [hN.cell]; rfl
           have k1 : W.cell? ⟨b5, 1, none⟩ = some (.int .i64 (kn : Int)) := by rw [hN.cell, ← KN.out.1]; rfl
           have HN := Aside0.mk hN
           have E := Aside0.mk hE
           clear hN hB hW hE)
        | (go_at_call 131
           refine (num_calls _ b _ _ kn E.out.put (by have := KN.out.2; omega) (by have := HLL.out; have := XE.out; omega)).mono ?_
           rintro e wz ⟨v', rfl, hW, hS, hA⟩
           have hE := E.out.step hW hS hA
           have hN : At wz b5 101 (ecells x) := hS.at_ HN.out.lt L5.out.2 HN.out
           have k0 : wz.cell? ⟨b5, 0, none⟩ = some (.string x.name) := by rw [hN.cell]; rfl
           have L5 := Aside0.mk (show wr.heap.size ≤ b5 ∧ ¬ WrS b v' b5 from ⟨L5.out.1, wrs_step L5.out.2 HN.out.lt hA⟩)
           have HN := Aside0.mk hN
           have E := Aside0.mk hE
           clear hE hW hS hA hN k1)
        | (go_at_call 132
           refine (text_calls _ b _ _ x.name E.out.put (by have := HLL.out; have := XE.out; simp only [List.length_append]; omega)).mono ?_
           rintro e wz ⟨v', rfl, hW, hS, hA⟩
           have hE := E.out.step hW hS hA
           have hN : At wz b5 101 (ecells x) := hS.at_ HN.out.lt L5.out.2 HN.out
           have L5 := Aside0.mk (show wr.heap.size ≤ b5 ∧ ¬ WrS b v' b5 from ⟨L5.out.1, wrs_step L5.out.2 HN.out.lt hA⟩)
           have HN := Aside0.mk hN
           have E := Aside0.mk hE
           clear hE hW hS hA hN)
        | (refine arm_load_row rfl 27 _ rfl b5 2 rfl (x.dig.map bv) (HN.out.rangeAt_eq 2 rfl) (by kernel_rfl) (by rw [List.length_map, XD.out]; exact size27) ?_
           intro dv hv
           have DV := Aside0.mk hv
           clear hv)
        | (go_at_call 134
           have hcall := front_calls wz x.dig XD.out
           unfold digV at hcall
           rw [← DV.out] at hcall
           refine hcall.mono ?_
           rintro e wz ⟨b6, c6, rfl, hc6, hb6, hlt6, hB, hcell⟩
           clear hcall
           have hP : Pt.Ok wz b _ (⟨b6, 0, none⟩, c6, frontL x.dig) := ⟨fun hS => by have := E.out.put.lt hS; simp only at this; omega, hlt6, hc6, fun k hk => by rw [Addr.add_mid, Nat.zero_add]; exact hcell k hk⟩
           have hE := E.out.on hB
           have HP := Aside0.mk hP
           have E := Aside0.mk hE
           clear hE hP hB hcell hc6 hb6 hlt6)
        | (go_at_call 133
           refine (bytes_calls _ b _ _ ⟨b6, 0, none⟩ c6 (frontL x.dig) E.out.put HP.out (by have := HLL.out; have := XE.out; simp only [List.length_append]; omega)).mono ?_
           rintro e wz ⟨v', rfl, hW, hS, hA⟩
           have hE := E.out.step hW hS hA
           have E := Aside0.mk hE
           clear hE hW hS hA)
        | fail)
      go_roundg (xs.length - (j + 1))
      case measure => have := HJ.out; omega
      case rel =>
        refine ⟨j + 1, v', ⟨by omega⟩, by go_num, ⟨?_⟩⟩
        have e := E.out
        rw [L0.out] at e
        rw [TK.out]
        have e2 : encE x = formL kn ++ ((formL x.name.data.toList.length ++ x.name.data.toList) ++ (formL (frontL x.dig).length ++ frontL x.dig)) := by unfold encE; rw [KN.out.1]; rfl
        rw [e2]
        simpa only [List.append_assoc] using e
    · obtain rfl : j = xs.length := by have := HJ.out; omega
      rw [List.take_of_length_le (Nat.le_refl _)] at E
      have NN := HN.out xs.length
      rw [List.take_of_length_le (Nat.le_refl _)] at NN
      have NN := Aside0.mk NN
      go_wp2_with (first
        | (go_at_call 135; refine (wdone_calls _ b _ _ E.out.put (by have := NN.out; simp only [List.length_append, List.length_nil]; omega)).mono ?_
           rintro e wz ⟨v', rfl, hO, hF, hB⟩
           have HO := Aside0.mk hO
           have HF := Aside0.mk hF
           have HB := Aside0.mk hB
           clear hO hF hB)
        | fail)
      go_ret2
      refine ⟨v', rfl, ?_, fun k hk => Nat.le_trans E.out.below.size (HF.out k hk), E.out.below.trans (HB.out.mono E.out.below.size)⟩
      have e := HO.out
      unfold encL
      simpa only [List.append_assoc, List.nil_append] using e
end Go.Proofs.YtbpfmlckddhgbaaGreatDoor
