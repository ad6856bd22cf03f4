/- A row of one's own whose elements have several cells each; what append does to it. -/
import Derived.Test.YtbpfmlckddhgbaaGreatDoorQc
import Derived.Test.YtbpfmlckddhgbaaGreatDoorQd
import Derived.Defers
import Derived.Recover
namespace Go.Proofs.YtbpfmlckddhgbaaGreatDoor
open Go Go.RowKit Go.Proofs.YtbpfmlckddhgbaaGreatDoorW.PrintWords
def OwnR (w : World) (e : TypeId) (n : Nat) (v : Value) (k : Nat) (xs : List Value) : Prop := w.ownsRow 0 e n v k xs
namespace OwnR
variable {w w1 : World} {e : TypeId} {n k : Nat} {v : Value} {xs : List Value}
theorem nil (w : World) (e : TypeId) (n : Nat) : OwnR w e n (.slice none 0 0) 0 [] := World.ownsRow_nil w 0 e n
theorem lt (h : OwnR w e n v k xs) {b : Nat} (hk : v.ownBlock = some b) : b < w.heap.size := (World.ownsRow.lt h b hk).2
theorem only {S : Nat → Prop} {B : Nat} (h : OwnR w e n v k xs) (ho : Only S B w w1) (hb : ∀ b, v.ownBlock = some b → b < B ∧ ¬ S b) : OwnR w1 e n v k xs := by
  obtain ⟨h1, h2 | ⟨g, cap, cur, hv, hg, hcell, h3⟩⟩ := h
  · exact ⟨h1, .inl h2⟩
  · have := hb g (by rw [hv]; rfl)
    exact ⟨h1, .inr ⟨g, cap, cur, hv, hg, by rw [ho.block g this.1 this.2]; exact hcell, h3⟩⟩
theorem below {B : Nat} (h : OwnR w e n v k xs) (ho : Below B w w1) (hb : ∀ b, v.ownBlock = some b → b < B) : OwnR w1 e n v k xs :=
  h.only (Only.of_below (S := fun _ => False) ho) (fun b hk => ⟨hb b hk, id⟩)
theorem below' (h : OwnR w e n v k xs) (ho : Below w.heap.size w w1) : OwnR w1 e n v k xs := h.below ho (fun _ hb => h.lt hb)
theorem alloc (h : OwnR w e n v k xs) (o : Obj) : OwnR (w.alloc o) e n v k xs := World.ownsRow.alloc h o
theorem len (h : OwnR w e n v k xs) : xs.length = k * n := h.1
theorem shape (h : OwnR w e n v k xs) : ∃ A c, v = .slice A k c ∧ k ≤ c ∧ c ≤ maxLen ∧ (0 < k → ∃ g, A = some ⟨g, 0, none⟩ ∧ v.ownBlock = some g ∧ g < w.heap.size ∧ w.rangeAt g 0 xs) := by
  have h' := h
  obtain ⟨h1, ⟨hv, hn⟩ | ⟨g, cap, cur, hv, _, hcell, hc, hm, _⟩⟩ := h
  · exact ⟨none, 0, by rw [hv, hn], by omega, by unfold maxLen; omega, fun hne => absurd hn (by omega)⟩
  · refine ⟨_, cap, hv, hc, hm, fun _ => ⟨g, rfl, by rw [hv]; rfl, (Array.getElem?_eq_some_iff.1 hcell).1, fun j u hu => ?_⟩⟩
    have := World.ownsRow.cells h' (g := g) (by rw [hv]; rfl) j u hu
    rw [Addr.add_mid] at this; exact this
end OwnR
section
variable {P : Program} {ops : Array Oper} {rest : List Oper} {o : Oper} {a : Act} {w : World} {Q : Exit → Act → World → Prop}
theorem arm_appendR (hgd : o.guard = none) (s x : Operand) (t e : TypeId) (ho : o.op = .call { callee := .builtin .append, args := #[s, x], argTypes := #[t, t] }) (z : Value) (n bytes : Nat)
    (hu : P.underlying t = some (.slice e)) (hi : (P.info? e).map (fun i => (i.zero, i.size, i.bytes)) = some (some z, n, bytes)) (hz : z.cells.size = n) (hn : 0 < n)
    (v : Value) (k : Nat) (xs ys : List Value) (hs : a.eval s = v) (hown : OwnR w e n v k xs) (ad : Addr) (m c : Nat) (hx : a.eval x = .slice (some ad) m c) (hm : ys.length = m * n) (hys : ∀ j u, ys[j]? = some u → w.cell? (ad.add j) = some u)
    (h1 : ∀ u ∈ ys, u.oneCell' = true) (hb : (k + m) * bytes ≤ 140737488355328) (hb2 : k + m ≤ 1099511627776)
    (h : ∀ v' W, OwnR W e n v' (k + m) (xs ++ ys) → Only (fun b => v.ownBlock = some b) w.heap.size w W → (v'.ownBlock = v.ownBlock ∨ v'.ownBlock = some w.heap.size) → wpList P ops Q rest (a.put o.dst v') W) : wpList P ops Q (o :: rest) a w := by
  cases hq : P.info? e with
  | none => simp [hq] at hi
  | some i =>
    simp [hq] at hi
    obtain ⟨i1, i2, i3⟩ := hi
    refine wpList_append_own_at w hgd s x t ho 0 e i z n bytes hu hq i1 i2 i3 hz hn v k xs hs hown ad m c ys hx hm hys h1 (by simp [maxLen]; omega) hb (Nat.zero_le _) ?_
    intro v' W h2 h3 _ h5
    exact h v' W h2 ⟨h3.os, h3.tape, h3.output, h3.size, fun k hk hS => h3.block k hk (fun e => hS e.symm)⟩ h5
end
end Go.Proofs.YtbpfmlckddhgbaaGreatDoor
/- A slice literal of one element; append, as one operation of a region that draws its order. -/
namespace Go.Proofs.YtbpfmlckddhgbaaGreatDoor
open Go Go.RowKit Go.Maps Go.Proofs.YtbpfmlckddhgbaaGreatDoorW.PrintWords Go.Proofs.YtbpfmlckddhgbaaGreatDoorW.PrintLast
section
variable {P : Program} {o : Oper} {a : Act} {w : World} {K : Act → World → Prop} {Q : Exit → Act → World → Prop} {ops : Array Oper} {rest : List Oper}
theorem run_slice1 (w : World) (t e : TypeId) (v z : Value) (n : Nat) (hu : P.underlying t = some (.slice e)) (hi : (P.info? e).map (fun i => (i.zero, i.size)) = some (some z, n)) (hn : 0 < n) (hs : n ≤ 16777216) (hv : v.cells.size = n) :
    (Instr.buildSlice t 1 #[(0, v)]).run P w = .ok (.slice (some ⟨w.heap.size, 0, none⟩) 1 1) (w.alloc (.cells v.cells e)) := by
  cases hq : P.info? e with
  | none => simp [hq] at hi
  | some ie =>
    simp only [hq, Option.map_some, Option.some.injEq, Prod.mk.injEq] at hi
    obtain ⟨hz, rfl⟩ := hi
    refine run_buildSlice w t e 1 #[(0, v)] v.cells ie z hu hq hz (by omega) (by omega) ?_
    have h := Great.fill_whole hn [v] ((Array.range (1 * ie.size)).map (z.cells[· % z.cells.size]!)) (fun u hu => by simp at hu; subst hu; exact hv) (by simp)
    simpa using h
theorem run_slice1_op (t e : TypeId) (x : Operand) (v z : Value) (n : Nat) (ho : o.op = .buildSlice t 1 #[(0, x)]) (hx : a.eval x = v) (hu : P.underlying t = some (.slice e)) (hi : (P.info? e).map (fun i => (i.zero, i.size)) = some (some z, n)) (hn : 0 < n) (hs : n ≤ 16777216) (hv : v.cells.size = n) :
    (execOp a.eval o).run P w = .ok (.value (.slice (some ⟨w.heap.size, 0, none⟩) 1 1)) (w.alloc (.cells v.cells e)) := by
  subst hx
  unfold execOp
  simp only [ho, Sem.run_bind, List.map_toArray, List.map_cons, List.map_nil, run_slice1 w t e _ z n hu hi hn hs hv, Result.andThen_ok, Sem.run_pure]
theorem arm_slice1 (hg : o.guard = none) (t e : TypeId) (x : Operand) (ho : o.op = .buildSlice t 1 #[(0, x)]) (z : Value) (n : Nat) (cs : List Value) (v : Value) (hx : a.eval x = v) (hvc : v.cells = cs.toArray) (hu : P.underlying t = some (.slice e)) (hi : (P.info? e).map (fun i => (i.zero, i.size)) = some (some z, n)) (hn : 0 < n) (hs : n ≤ 16777216) (hv : cs.length = n)
    (h : ∀ W b, b = w.heap.size → W = w.alloc (.cells cs.toArray e) → wpList P ops Q rest (a.put o.dst (.slice (some ⟨b, 0, none⟩) 1 1)) W) : wpList P ops Q (o :: rest) a w := by
  refine wpList_plain hg fun K hK => ?_
  unfold Oper.wp
  rw [run_slice1_op t e x v z n ho hx hu hi hn hs (by rw [hvc]; simpa using hv), Oper.upon_value, hvc]
  exact hK _ _ (h _ _ rfl rfl)
theorem wpo_slice1 (N : Option Tmp) (hN : o.dst = N) (t e : TypeId) (x : Operand) (ho : o.op = .buildSlice t 1 #[(0, x)]) (z : Value) (n : Nat) (cs : List Value) (v : Value) (hx : a.eval x = v) (hvc : v.cells = cs.toArray) (hu : P.underlying t = some (.slice e)) (hi : (P.info? e).map (fun i => (i.zero, i.size)) = some (some z, n)) (hn : 0 < n) (hs : n ≤ 16777216) (hv : cs.length = n)
    (h : ∀ W b, b = w.heap.size → W = w.alloc (.cells cs.toArray e) → K (a.put N (.slice (some ⟨b, 0, none⟩) 1 1)) W) : o.wp P a w K Q := by
  subst hN
  unfold Oper.wp
  rw [run_slice1_op t e x v z n ho hx hu hi hn hs (by rw [hvc]; simpa using hv), Oper.upon_value, hvc]
  exact h _ _ rfl rfl
theorem wpo_appendR (N : Option Tmp) (hN : o.dst = N) (s x : Operand) (t e : TypeId) (ho : o.op = .call { callee := .builtin .append, args := #[s, x], argTypes := #[t, t] }) (z : Value) (n bytes : Nat)
    (hu : P.underlying t = some (.slice e)) (hi : (P.info? e).map (fun i => (i.zero, i.size, i.bytes)) = some (some z, n, bytes)) (hz : z.cells.size = n) (hn : 0 < n)
    (v : Value) (k : Nat) (xs ys : List Value) (hs : a.eval s = v) (hown : OwnR w e n v k xs) (ad : Addr) (m c : Nat) (hx : a.eval x = .slice (some ad) m c) (hm : ys.length = m * n) (hys : ∀ j u, ys[j]? = some u → w.cell? (ad.add j) = some u)
    (h1 : ∀ u ∈ ys, u.oneCell' = true) (hb : (k + m) * bytes ≤ 140737488355328) (hb2 : k + m ≤ 1099511627776)
    (h : ∀ v' W, OwnR W e n v' (k + m) (xs ++ ys) → Only (fun b => v.ownBlock = some b) w.heap.size w W → (v'.ownBlock = v.ownBlock ∨ v'.ownBlock = some w.heap.size) → K (a.put N v') W) : o.wp P a w K Q := by
  subst hN
  cases hq : P.info? e with
  | none => simp [hq] at hi
  | some i =>
    simp [hq] at hi
    obtain ⟨i1, i2, i3⟩ := hi
    obtain ⟨v', w', hr, h2, h3, h4, h5⟩ := run_append_own_at (P := P) w 0 t o.type e i z n bytes hu hq i1 i2 i3 hz hn v k xs hown ad m c ys hm hys h1 (by simp [maxLen]; omega) hb (Nat.zero_le _)
    unfold Oper.wp execOp
    simp only [ho, resolve, invoke, builtin, Sem.run_bind, Sem.run_pure, Result.andThen_ok, List.map_toArray, List.map_cons, List.map_nil, hs, hx, hr]
    exact h v' w' h2 ⟨h3.os, h3.tape, h3.output, h3.size, fun k hk hS => h3.block k hk (fun e => hS e.symm)⟩ h5
theorem wpo_store1 (N : Option Tmp) (hN : o.dst = N) (ty : TypeId) (x y : Operand) (ho : o.op = .store ty x y) (p : Addr) (hx : a.eval x = .pointer (some p)) (v : Value) (hy : a.eval y = v) (hr : (Instr.storeAt ty (.pointer (some p)) v).run P w = .ok () (w.setCell p v))
    (h : ∀ W, W = w.setCell p v → K (a.put N undef) W) : o.wp P a w K Q := by
  subst hN hy
  unfold Oper.wp
  simp [execOp, ho, hx, hr, Result.andThen]
  exact h _ rfl
theorem run_store_cell (p : Addr) (v u : Value) (hc : w.cell? p = some u) (hf : w.frozen? p = false) (h1 : v.oneCell' = true) : (store p v).run P w = .ok () (w.setCell p v) := by
  rw [run_store P w p v _ h1, hc]
  simp [hf]
theorem cells_one (v : Value) (h1 : v.oneCell' = true) : v.cells = #[v] := by cases v <;> first | rfl | cases h1
theorem run_store1 (ty : TypeId) (p : Addr) (v u : Value) (hc : w.cell? p = some u) (hf : w.frozen? p = false) (hi : (P.info? ty).map (·.size) = some 1) (hp : p.add 0 = p) (h1 : v.oneCell' = true) :
    (Instr.storeAt ty (.pointer (some p)) v).run P w = .ok () (w.setCell p v) := by
  have hst := run_store_cell (P := P) p v u hc hf h1
  cases hq : P.info? ty with
  | none => simp [hq] at hi
  | some inf =>
    have hs : inf.size = 1 := by simpa [hq] using hi
    simp [hst, Instr.storeAt, Instr.sureAddr, storeVar, sizeOf, typeInfo, hq, cells_one v h1, hs, storeCells, Sem.run_bind, hp]
theorem run_load1 (ty : TypeId) (p : Addr) (v : Value) (hc : w.cell? p = some v) (d : TypeDesc) (hu : P.underlying ty = some d) (hd : d.isRow = false) : (Instr.loadAt ty (.pointer (some p))).run P w = .ok v w := by
  have hagg : (isAgg ty).run P w = .ok false w := by
    unfold isAgg
    rw [Sem.run_bind, run_underlying hu w]
    cases d <;> simp_all
  simp only [Instr.loadAt, Instr.sureAddr, Sem.run_bind, Sem.run_pure, Result.andThen_ok, loadVar, hagg]
  simp [run_load, hc]
theorem arm_store1 (hg : o.guard = none) (ty : TypeId) (x y : Operand) (ho : o.op = .store ty x y) (p : Addr) (hx : a.eval x = .pointer (some p)) (v : Value) (hy : a.eval y = v) (u : Value) (hc : w.cell? p = some u) (hf : w.frozen? p = false) (hi : (P.info? ty).map (·.size) = some 1) (hp : p.add 0 = p) (h1 : v.oneCell' = true)
    (h : ∀ W, W = w.setCell p v → wpList P ops Q rest (a.put o.dst undef) W) : wpList P ops Q (o :: rest) a w := by
  refine wpList_plain hg fun K hK => ?_
  refine wpo_store1 o.dst rfl ty x y ho p hx v hy (run_store1 ty p v u hc hf hi hp h1) fun W hW => hK _ _ (h W hW)
end
end Go.Proofs.YtbpfmlckddhgbaaGreatDoor
/- mint: a Reader that meets no fault. -/
namespace Go.Proofs.YtbpfmlckddhgbaaGreatDoor
set_option linter.unusedSimpArgs false
open Go Go.RowKit Go.Maps Go.Proofs.YtbpfmlckddhgbaaGreatDoorW.PrintWords Go.Proofs.YtbpfmlckddhgbaaGreatDoorW.PrintLast
structure Rdr (w : World) (r : Nat) (ad : Addr) (c : Nat) (bs : List UInt8) (p : Nat) : Prop where
  cells : At w r 292 [.slice (some ad) bs.length c, .int .i64 (p : Int), .bool false, .int .i64 0]
  ne : ad.block ≠ r
  lt : ad.block < w.heap.size
  bytes : ∀ k, k < bs.length → w.cell? (ad.add k) = some (bv (bs.getD k 0))
  len : bs.length ≤ c
  big : bs.length < 4611686018427387904
  at_ : p ≤ bs.length
theorem Rdr.below {w w1 : World} {r : Nat} {ad : Addr} {c : Nat} {bs : List UInt8} {p : Nat} (h : Rdr w r ad c bs p) (hB : Below w.heap.size w w1) : Rdr w1 r ad c bs p :=
  ⟨h.cells.below hB h.cells.lt, h.ne, Nat.lt_of_lt_of_le h.lt hB.size, fun k hk => by rw [hB.cell (by rw [add_block]; exact h.lt)]; exact h.bytes k hk, h.len, h.big, h.at_⟩
theorem take_calls (w : World) (r : Nat) (ad : Addr) (c : Nat) (bs : List UInt8) (p n : Nat) (h : Rdr w r ad c bs p) (hn : p + n ≤ bs.length) :
    Calls Tryz.prog 237 #[.pointer (some ⟨r, 0, none⟩), .int .i64 (n : Int)] w fun e w' => (∃ A, e = .returned (.slice A n (c - p)) ∧ (0 < n → A = some (ad.add p))) ∧ Rdr w' r ad c bs (p + n) ∧ Only (· = r) w.heap.size w w' := by
  have H := Aside0.mk h
  have k0 : w.cell? ⟨r, 0, none⟩ = some (.slice (some ad) bs.length c) := by rw [h.cells.cell]; rfl
  have k1 : w.cell? ⟨r, 1, none⟩ = some (.int .i64 (p : Int)) := by rw [h.cells.cell]; rfl
  have f1 : w.frozen? ⟨r, 1, none⟩ = false := h.cells.frozen _
  have hl := h.len
  have hb := h.big
  have ha := h.at_
  generalize hL : bs.length = L at hn k0 hl ha hb
  have LL := Aside0.mk hL
  have t1 : decide ((n : Int) > (L : Int) - (p : Int)) = false := decide_eq_false (by omega)
  have t2 : decide ((L : Int) - (p : Int) < (n : Int)) = false := decide_eq_false (by omega)
  clear h hL
  go_enter Tryz.func237, Tryz.ntmps237
  go_wp2_with fail
  go_quiet (fail)
  go_wp2_with fail
  have s1 : (0 : Int) ≤ (p : Int) ∧ (p : Int) ≤ (p : Int) + (n : Int) ∧ (p : Int) + (n : Int) ≤ (c : Int) := by omega
  go_quiet (fail)
  generalize hW1 : (w.drewN _).drewN _ = W1
  have hD : Below w.heap.size w W1 := by subst hW1; exact ⟨rfl, rfl, rfl, Nat.le_refl _, fun _ _ => rfl⟩
  have hC := H.out.cells.below hD H.out.cells.lt
  have q1 : W1.cell? ⟨r, 1, none⟩ = some (.int .i64 (p : Int)) := by rw [hC.cell]; rfl
  have g1 : W1.frozen? ⟨r, 1, none⟩ = false := hC.frozen _
  have C := Aside0.mk hC
  have D := Aside0.mk hD
  obtain ⟨A, hA⟩ : ∃ A, A = (if c = p then some ad else some (ad.add p)) := ⟨_, rfl⟩
  rw [← hA, show p + n - p = n by omega]
  have AA := Aside0.mk hA
  clear hA hC hD hW1 k0 k1 f1
  go_wp2_with (first
    | (refine arm_store_int rfl 3 _ _ rfl ⟨r, 1, none⟩ rfl .i64 ((p : Int) + (n : Int)) rfl _ q1 g1 (by kernel_rfl) rfl ?_
       intro W2 hW
       have hO : Only (· = r) w.heap.size w W2 := by subst hW; exact (Only.of_below D.out).trans (Only.setCell (S := (· = r)) (a := ⟨r, 1, none⟩) (Only.refl _ _ _) (.inl rfl) _)
       have hC : At W2 r 292 [.slice (some ad) bs.length c, .int .i64 ((p : Int) + (n : Int)), .bool false, .int .i64 0] := by subst hW; exact C.out.setCell 1 _
       have O := Aside0.mk hO
       have C := Aside0.mk hC
       clear hO hC hW)
    | fail)
  go_ret
  refine ⟨⟨A, rfl, fun h0 => by rw [AA.out, if_neg (by omega)]⟩, ⟨?_, H.out.ne, Nat.lt_of_lt_of_le H.out.lt O.out.size, fun k hk => ?_, H.out.len, by rw [LL.out]; exact hb, by rw [LL.out]; exact hn⟩, O.out⟩
  · rw [Int.natCast_add]; exact C.out
  · rw [O.out.cell (by rw [add_block]; exact H.out.lt) (by rw [add_block]; exact H.out.ne)]; exact H.out.bytes k hk
theorem number1_calls (w : World) (r : Nat) (ad : Addr) (c : Nat) (bs : List UInt8) (p : Nat) (h : Rdr w r ad c bs p) (hn : p < bs.length) (hx : (bs.getD p 0).toNat < 248) :
    Calls Tryz.prog 205 #[.pointer (some ⟨r, 0, none⟩)] w fun e w' => e = .returned (.int .u64 ((bs.getD p 0).toNat : Int)) ∧ Rdr w' r ad c bs (p + 1) ∧ Only (· = r) w.heap.size w w' := by
  have H := Aside0.mk h
  have HN := Aside0.mk hn
  generalize hxx : bs.getD p 0 = x at hx
  have X := Aside0.mk hxx
  have t1 : decide ((x.toNat : Int) < 248) = true := decide_eq_true (by omega)
  clear h hn hxx
  go_enter Tryz.func205, Tryz.ntmps205
  go_wp2_with (first
    | (go_at_call 237
       have hcall := take_calls w r ad c bs p 1 H.out HN.out
       rw [show ((1 : Nat) : Int) = 1 from rfl] at hcall
       refine hcall.mono ?_
       rintro e w1 ⟨⟨A, rfl, hA⟩, hR, hO⟩
       have hA := hA Nat.one_pos
       subst hA
       have k1 : w1.cell? (ad.add p) = some (.int .u8 (x.toNat : Int)) := by rw [hR.bytes p HN.out, X.out]; rfl
       have R := Aside0.mk hR
       have O := Aside0.mk hO
       clear hcall hA hR hO)
    | fail)
  go_ret
  exact ⟨rfl, R.out, O.out⟩
theorem num1_calls (w : World) (r : Nat) (ad : Addr) (c : Nat) (bs : List UInt8) (p : Nat) (h : Rdr w r ad c bs p) (hn : p < bs.length) (hx : (bs.getD p 0).toNat < 248) :
    Calls Tryz.prog 155 #[.pointer (some ⟨r, 0, none⟩)] w fun e w' => e = .returned (.int .i64 ((bs.getD p 0).toNat : Int)) ∧ Rdr w' r ad c bs (p + 1) ∧ Only (· = r) w.heap.size w w' := by
  have H := Aside0.mk h
  have HN := Aside0.mk hn
  have HX := Aside0.mk hx
  have k2 : w.cell? ⟨r, 2, none⟩ = some (.bool false) := by rw [h.cells.cell]; rfl
  generalize hxx : bs.getD p 0 = x at hx
  have X := Aside0.mk hxx
  clear h hn hxx
  go_enter Tryz.func155, Tryz.ntmps155
  go_wp2_with (first
    | (go_at_call 205
       have hcall := number1_calls w r ad c bs p H.out HN.out HX.out
       rw [X.out] at hcall
       refine hcall.mono ?_
       rintro e w1 ⟨rfl, hR, hO⟩
       have R := Aside0.mk hR
       have O := Aside0.mk hO
       clear hcall hR hO)
    | fail)
  go_ret
  exact ⟨rfl, R.out, O.out⟩
theorem Rdr.part {w : World} {r : Nat} {ad : Addr} {c : Nat} {bs : List UInt8} {p q n : Nat} (h : Rdr w r ad c bs q) (hn : p + n ≤ bs.length) {A : Option Addr} (hA : 0 < n → A = some (ad.add p)) : RdL w A ((bs.drop p).take n) := fun hne => by
  have h0 : 0 < n := by
    cases n with
    | zero => exact absurd (List.take_zero ..) hne
    | succ m => exact Nat.succ_pos m
  refine ⟨ad.add p, hA h0, by rw [add_block]; exact h.lt, fun k hk => ?_⟩
  have hk' : k < n := by rw [List.length_take] at hk; omega
  rw [Addr.add_add, h.bytes (p + k) (by omega)]
  simp only [List.getD_eq_getElem?_getD, List.getElem?_take, if_pos hk', List.getElem?_drop]
theorem bytes1_calls (w : World) (r : Nat) (ad : Addr) (c : Nat) (bs : List UInt8) (p n : Nat) (h : Rdr w r ad c bs p) (hx : (bs.getD p 0).toNat = n) (hx2 : n < 248) (hn : p + 1 + n ≤ bs.length) :
    Calls Tryz.prog 207 #[.pointer (some ⟨r, 0, none⟩)] w fun e w' => ∃ v, e = .returned v ∧ Own w' 5 v (((bs.drop (p + 1)).take n).map bv) ∧ (∀ k, v.ownBlock = some k → w.heap.size ≤ k) ∧ Rdr w' r ad c bs (p + 1 + n) ∧ Only (· = r) w.heap.size w w' := by
  have H := Aside0.mk h
  have HN := Aside0.mk hn
  have HX := Aside0.mk (And.intro hx hx2)
  have k2 : w.cell? ⟨r, 2, none⟩ = some (.bool false) := by rw [h.cells.cell]; rfl
  obtain ⟨ds, hds⟩ : ∃ ds, ds = (bs.drop (p + 1)).take n := ⟨_, rfl⟩
  rw [← hds]
  have hdl : ds.length = n := by rw [hds, List.length_take, List.length_drop]; omega
  have DS := Aside0.mk hds
  have DL := Aside0.mk hdl
  clear h hn hx hds hdl
  go_enter Tryz.func207, Tryz.ntmps207
  go_wp2_with (first
    | (go_at_call 155
       have hcall := num1_calls w r ad c bs p H.out (by have := HN.out; omega) (by rw [HX.out.1]; exact HX.out.2)
       rw [HX.out.1] at hcall
       refine hcall.mono ?_
       rintro e w1 ⟨rfl, hR, hO⟩
       have R := Aside0.mk hR
       have O := Aside0.mk hO
       clear hcall hR hO)
    | (go_at_call 237
       have hcall := take_calls w1 r ad c bs (p + 1) n R.out HN.out
       refine hcall.mono ?_
       rintro e w2 ⟨⟨A, rfl, hA⟩, hR, hO⟩
       have RA := Aside0.mk (show RdL w2 A ds by rw [DS.out]; exact hR.part HN.out hA)
       have R := Aside0.mk hR
       have O := Aside0.mk (O.out.trans (hO.mono O.out.size (fun _ _ h => h)))
       clear hcall hA hR hO)
    | (go_at_call 71
       have hcall := clone_calls w2 A (c - (p + 1)) ds RA.out (by rw [DL.out]; omega)
       rw [DL.out] at hcall
       refine hcall.mono ?_
       rintro e w3 ⟨v, rfl, h1, h2, h3⟩
       have V := Aside0.mk (And.intro h1 h2)
       have D3 := Aside0.mk h3
       clear hcall h1 h2 h3)
    | fail)
  go_ret
  exact ⟨v, rfl, V.out.1, fun k hk => Nat.le_trans O.out.size (V.out.2 k hk), R.out.below D3.out, O.out.trans ((Only.of_below D3.out).mono O.out.size (fun _ _ h => h))⟩
theorem most1_calls (w : World) (r : Nat) (ad : Addr) (c : Nat) (bs : List UInt8) (p n : Nat) (m : Int) (h : Rdr w r ad c bs p) (hx : (bs.getD p 0).toNat = n) (hx2 : n < 248) (hn : p < bs.length) (hm : (n : Int) ≤ m) :
    Calls Tryz.prog 157 #[.pointer (some ⟨r, 0, none⟩), .int .i64 m] w fun e w' => e = .returned (.int .i64 (n : Int)) ∧ Rdr w' r ad c bs (p + 1) ∧ Only (· = r) w.heap.size w w' := by
  have H := Aside0.mk h
  have HN := Aside0.mk hn
  have HX := Aside0.mk (And.intro hx hx2)
  have t1 : decide ((n : Int) > m) = false := decide_eq_false (by omega)
  have t2 : decide (m < (n : Int)) = false := decide_eq_false (by omega)
  clear h hn hx
  go_enter Tryz.func157, Tryz.ntmps157
  go_wp2_with (first
    | (go_at_call 155
       have hcall := num1_calls w r ad c bs p H.out HN.out (by rw [HX.out.1]; exact HX.out.2)
       rw [HX.out.1] at hcall
       refine hcall.mono ?_
       rintro e w1 ⟨rfl, hR, hO⟩
       have k2 : w1.cell? ⟨r, 2, none⟩ = some (.bool false) := by rw [hR.cells.cell]; rfl
       have R := Aside0.mk hR
       have O := Aside0.mk hO
       clear hcall hR hO)
    | fail)
  go_ret
  exact ⟨rfl, R.out, O.out⟩
theorem fail0_calls (w : World) (r : Nat) (ad : Addr) (c : Nat) (bs : List UInt8) (p : Nat) (h : Rdr w r ad c bs p) :
    Calls Tryz.prog 156 #[.pointer (some ⟨r, 0, none⟩), .int .i64 0] w fun e w' => e = .returned (.tuple #[]) ∧ w' = w := by
  have k2 : w.cell? ⟨r, 2, none⟩ = some (.bool false) := by rw [h.cells.cell]; rfl
  clear h
  go_enter Tryz.func156, Tryz.ntmps156
  go_wp2_with fail
  refine Great.bodyPost_end0 rfl rfl ?_
  exact ⟨rfl, rfl⟩
theorem str_of_bytes (ds : List UInt8) : strOfNums (ds.map fun b => (b.toNat : Int)) = ⟨ds.toArray⟩ := by
  unfold strOfNums
  rw [List.map_map]
  have e : ((fun n : Int => UInt8.ofNat n.toNat) ∘ fun b : UInt8 => (b.toNat : Int)) = id := by funext b; simp
  rw [e, List.map_id]
theorem text1_calls (w : World) (r : Nat) (ad : Addr) (c : Nat) (bs : List UInt8) (p n : Nat) (h : Rdr w r ad c bs p) (hx : (bs.getD p 0).toNat = n) (hx2 : n < 248) (hn : p + 1 + n ≤ bs.length) :
    Calls Tryz.prog 206 #[.pointer (some ⟨r, 0, none⟩)] w fun e w' => e = .returned (.string ⟨((bs.drop (p + 1)).take n).toArray⟩) ∧ Rdr w' r ad c bs (p + 1 + n) ∧ Only (· = r) w.heap.size w w' := by
  have hcall := bytes1_calls w r ad c bs p n h hx hx2 hn
  have HC := Aside0.mk hcall
  obtain ⟨ds, hds⟩ : ∃ ds, ds = (bs.drop (p + 1)).take n := ⟨_, rfl⟩
  rw [← hds]
  have DS := Aside0.mk hds
  clear hcall h hds
  go_enter Tryz.func206, Tryz.ntmps206
  go_wp2_with (first
    | (go_at_call 207
       have hcall := HC.out
       rw [← DS.out] at hcall
       refine hcall.mono ?_
       rintro e w1 ⟨v, rfl, h1, h2, h3, h4⟩
       obtain ⟨A, cv, hv, hcv, hr, _⟩ := h1.rdl
       subst hv
       have hcv : (convert 35 9 (.slice A ds.length cv)).run Tryz.prog w1 = .ok (.string ⟨ds.toArray⟩) w1 := by rw [← str_of_bytes]; exact hr.bytesIn.convert (by simp) cv 35 5 9 tu35 tu5 tu9
       have R := Aside0.mk (And.intro h3 h4)
       clear hcall h1 h2 h3 h4 hr)
    | fail)
  go_ret
  exact ⟨rfl, R.out.1, R.out.2⟩
end Go.Proofs.YtbpfmlckddhgbaaGreatDoor
/- node: one entry is read. -/
namespace Go.Proofs.YtbpfmlckddhgbaaGreatDoor
set_option linter.unusedSimpArgs false
open Go Go.RowKit Go.Maps Go.Proofs.YtbpfmlckddhgbaaGreatDoorW.PrintWords Go.Proofs.YtbpfmlckddhgbaaGreatDoorW.PrintLast
section
variable {P : Program} {ops : Array Oper} {rest : List Oper} {o : Oper} {a : Act} {w : World} {Q : Exit → Act → World → Prop}
theorem arm_store_str (hg : o.guard = none) (ty : TypeId) (x y : Operand) (ho : o.op = .store ty x y) (p : Addr) (hx : a.eval x = .pointer (some p)) (s : ByteArray) (hy : a.eval y = .string s) (u : Value) (hc : w.cell? p = some u) (hf : w.frozen? p = false) (hi : (P.info? ty).map (·.size) = some 1) (hp : p.add 0 = p)
    (h : ∀ W, W = w.setCell p (.string s) → wpList P ops Q rest (a.put o.dst undef) W) : wpList P ops Q (o :: rest) a w := by
  refine wpList_plain hg fun K hK => ?_
  have hr : (Instr.storeAt ty (.pointer (some p)) (.string s)).run P w = .ok () (w.setCell p (.string s)) := by
    cases hq : P.info? ty with
    | none => simp [hq] at hi
    | some inf =>
      have hs : inf.size = 1 := by simpa [hq] using hi
      have h2 : (store p (.string s)).run P w = .ok () (w.setCell p (.string s)) := by rw [run_store P w p (.string s) _ rfl, hc]; simp [hf]
      simp [h2, Instr.storeAt, Instr.sureAddr, storeVar, sizeOf, typeInfo, hq, Value.cells, hs, storeCells, Sem.run_bind, hp]
  unfold Oper.wp
  simp [execOp, ho, hx, hy, hr, Result.andThen]
  exact hK _ _ (h _ rfl)
end
theorem formL_small (n : Nat) (h : n < 248) : formL n = [UInt8.ofNat n] := by
  unfold formL
  simp [h]
theorem drop_next {bs a b : List UInt8} {p : Nat} (h : bs.drop p = a ++ b) : bs.drop (p + a.length) = b := by
  rw [← List.drop_drop, h, List.drop_left]
theorem drop_head {bs l : List UInt8} {p : Nat} {x : UInt8} (h : bs.drop p = x :: l) : bs.getD p 0 = x ∧ p < bs.length ∧ bs.drop (p + 1) = l := by
  have h0 : p < bs.length := by
    have e := congrArg List.length h
    simp at e; omega
  refine ⟨?_, h0, drop_next (a := [x]) h⟩
  have e : (bs.drop p)[0]? = some x := by rw [h]; rfl
  rw [List.getElem?_drop] at e
  rw [List.getD_eq_getElem?_getD, show bs[p]? = some x from e]; rfl
theorem drop_take {bs a b : List UInt8} {p : Nat} (h : bs.drop p = a ++ b) : (bs.drop p).take a.length = a ∧ (a ≠ [] → p + a.length ≤ bs.length) := by
  refine ⟨by rw [h, List.take_left], fun hne => ?_⟩
  have e := congrArg List.length h
  have := List.length_pos_iff.2 hne
  simp at e; omega
theorem ahead_entry {bs rest : List UInt8} {p : Nat} {x : Ent} (h : bs.drop p = encE x ++ rest) (hk : x.kind.toNat < 248) (hn : x.name.data.toList.length < 248) (hf : (frontL x.dig).length < 248) :
    bs.drop p = UInt8.ofNat x.kind.toNat :: (UInt8.ofNat x.name.data.toList.length :: (x.name.data.toList ++ (UInt8.ofNat (frontL x.dig).length :: (frontL x.dig ++ rest)))) := by
  rw [h]
  unfold encE
  rw [formL_small _ hk, formL_small _ hn, formL_small _ hf]
  simp
end Go.Proofs.YtbpfmlckddhgbaaGreatDoor
/- node: one entry is read. -/
namespace Go.Proofs.YtbpfmlckddhgbaaGreatDoor
set_option linter.unusedSimpArgs false
open Go Go.RowKit Go.Maps Go.Proofs.YtbpfmlckddhgbaaGreatDoorW.PrintWords Go.Proofs.YtbpfmlckddhgbaaGreatDoorW.PrintLast
theorem run_slice_array_all {P : Program} (w : World) (t e : TypeId) (n b o : Nat) (hu : P.underlying t = some (.array n e)) (he : (P.info? e).map (·.size) = some 1) :
    (Instr.sliceAt t (.pointer (some ⟨b, o, none⟩)) none none none).run P w = .ok (.slice (some ⟨b, o, none⟩) n n) w := by
  cases hi : P.info? e with
  | none => simp [hi] at he
  | some i =>
    have h1 : (0 : Int) ≤ (n : Int) := by omega
    simp [Instr.sliceAt, Instr.sureAddr, Sem.run_bind, run_underlying hu w, Instr.sliceBounds, Instr.sliceBound, asIntOf, h1, sizeOf, typeInfo, hi, Addr.add_mid]
theorem Rdr.only {w w1 : World} {r : Nat} {ad : Addr} {c : Nat} {bs : List UInt8} {p : Nat} {S : Nat → Prop} {B : Nat} (h : Rdr w r ad c bs p) (hO : Only S B w w1) (hr : r < B ∧ ¬ S r) (ha : ad.block < B ∧ ¬ S ad.block) : Rdr w1 r ad c bs p :=
  ⟨hO.at_ hr.1 hr.2 h.cells, h.ne, Nat.lt_of_lt_of_le h.lt hO.size, fun k hk => by rw [hO.cell (by rw [add_block]; exact ha.1) (by rw [add_block]; exact ha.2)]; exact h.bytes k hk, h.len, h.big, h.at_⟩
theorem frontN_last (d : List UInt8) : ∀ n, 0 < frontN d n → d.getD (frontN d n - 1) 0 ≠ 0
  | 0, h => absurd h (by simp [frontN])
  | n + 1, h => by
    unfold frontN at h ⊢
    split
    · rename_i h0; rw [if_pos h0] at h; exact frontN_last d n h
    · rename_i h0; simpa using h0
theorem frontN_zero (d : List UInt8) : ∀ n k, frontN d n ≤ k → k < n → d.getD k 0 = 0
  | 0, k, _, h => absurd h (Nat.not_lt_zero _)
  | n + 1, k, h, hk => by
    unfold frontN at h
    split at h
    · rename_i h0
      rcases Nat.lt_succ_iff_lt_or_eq.1 hk with h1 | h1
      · exact frontN_zero d n k h h1
      · rw [h1]; exact h0
    · omega
theorem front_zeros (d : List UInt8) (hd : d.length = 32) : frontL d ++ List.replicate (32 - (frontL d).length) 0 = d := by
  have hle := frontN_le d 32
  apply List.ext_getElem
  · rw [List.length_append, List.length_replicate, frontL_len d hd, hd]; omega
  · intro j h1 h2
    by_cases hj : j < (frontL d).length
    · rw [List.getElem_append_left hj]
      simp only [frontL, List.getElem_take]
    · rw [List.getElem_append_right (by omega), List.getElem_replicate]
      rw [frontL_len d hd] at hj
      have := frontN_zero d 32 j (by omega) (by omega)
      rw [List.getD_eq_getElem?_getD, List.getElem?_eq_getElem h2] at this
      exact this.symm
theorem results_cell1 {P : Program} {fn : Func} {p : Tmp} {ty : TypeId} (h : fn.results = #[.cell p ty]) (tmps : Array Value) (w : World) (g : Nat) (t : TypeId) (cs : List Value) (d : TypeDesc)
    (hp : tmps.getD p undef = .pointer (some ⟨g, 0, none⟩)) (hg : At w g t cs) (hu : P.underlying ty = some d) (hd : d.isRow = true) (hi : (P.info? ty).map (·.size) = some cs.length) :
    (results fn tmps).run P w = .ok (.agg cs.toArray) w := by
  have hp' : tmps[p]?.getD undef = .pointer (some ⟨g, 0, none⟩) := by simpa using hp
  have hg' : w.heap[g]? = some (.cells cs.toArray t (0, 0)) := hg
  simp [results, h, hp', asAddr, run_loadVar_row (P := P) w g t ty cs.toArray (0, 0) d hg' hu (by cases d <;> simp_all) (by simpa using hi)]
theorem tu101 : ∃ d, Tryz.prog.underlying 101 = some d ∧ d.isRow = true := by
  have h := row101
  cases hq : Tryz.prog.underlying 101 with
  | none => rw [hq] at h; cases h
  | some d => rw [hq] at h; exact ⟨d, rfl, by simpa using h⟩
theorem splice_front (nm : ByteArray) (k : Int) (d : List UInt8) (hd : d.length = 32) : splice (ecells ⟨nm, k, zeroD⟩) 2 ((frontL d).map bv) = ecells ⟨nm, k, d⟩ := by
  have h := frontN_le d 32
  have hl := frontL_len d hd
  unfold splice ecells
  simp only [List.take_succ_cons, List.take_zero, List.length_map, List.nil_append, List.cons_append]
  congr 2
  rw [show 2 + (frontL d).length = (frontL d).length + 2 by omega, List.drop_succ_cons, List.drop_succ_cons]
  conv => rhs; rw [← front_zeros d hd, List.map_append]
  congr 1
  rw [show zeroD = List.replicate 32 0 from rfl, List.map_replicate, List.drop_replicate, List.map_replicate]
set_option maxRecDepth 4000 in
theorem entry1z_calls (w : World) (r : Nat) (ad : Addr) (c : Nat) (bs rest : List UInt8) (p : Nat) (nm : ByteArray) (dg : List UInt8) (ahead : ByteArray) (h : Rdr w r ad c bs p) (hbs : bs.drop p = encE ⟨nm, 1, dg⟩ ++ rest) (hname : isName nm = true) (hlt : ltS ahead nm = true) (hd : dg.length = 32) (hz : (frontL dg).length = 0) :
    Calls Tryz.prog 158 #[.pointer (some ⟨r, 0, none⟩), .string ahead] w fun e w' => e = .returned (.agg (ecells ⟨nm, 1, dg⟩).toArray) ∧ Rdr w' r ad c bs (p + (encE ⟨nm, 1, dg⟩).length) ∧ Only (· = r) w.heap.size w w' := by
  have H := Aside0.mk h
  have hn := isName_len hname
  have hf := frontL_len dg hd
  have hf2 := frontN_le dg 32
  have hA := ahead_entry hbs (by show (1 : Int).toNat < 248; decide) (by show nm.data.toList.length < 248; omega) (by show (frontL dg).length < 248; omega)
  have hE : (encE ⟨nm, 1, dg⟩).length = 1 + (1 + nm.data.toList.length) + (1 + (frontL dg).length) := by
    unfold encE
    rw [formL_small _ (show (1 : Int).toNat < 248 by decide), formL_small _ (show nm.data.toList.length < 248 by omega), formL_small _ (show (frontL dg).length < 248 by omega)]
    simp only [List.length_append, List.length_singleton]
    omega
  have a1 := drop_head hA
  have a2 := drop_head a1.2.2
  have a3 := drop_take a2.2.2
  have a4 := drop_next a2.2.2
  have a5 := drop_head a4
  have a6 := drop_take a5.2.2
  have A1 := Aside0.mk a1
  have T2 : Aside0 ((bs.getD (p + 1) 0).toNat = nm.data.toList.length ∧ nm.data.toList.length < 248 ∧ p + 1 + 1 + nm.data.toList.length ≤ bs.length) := ⟨by rw [a2.1, UInt8.toNat_ofNat']; exact Nat.mod_eq_of_lt (by show nm.data.toList.length < _; omega), by omega, by
    have t : p + 1 + 1 + nm.data.toList.length < bs.length := a5.2.1; omega⟩
  have A3 := Aside0.mk a3.1
  have T5 : Aside0 ((bs.getD (p + 1 + 1 + nm.data.toList.length) 0).toNat = (frontL dg).length ∧ (frontL dg).length < 248 ∧ p + 1 + 1 + nm.data.toList.length + 1 + (frontL dg).length ≤ bs.length) := ⟨by rw [show p + 1 + 1 + nm.data.toList.length = p + 1 + 1 + nm.data.toList.length from rfl, a5.1, UInt8.toNat_ofNat']; exact Nat.mod_eq_of_lt (by show (frontL dg).length < _; omega), by omega, by
    by_cases h0 : frontL dg = []
    · have := a5.2.1; rw [h0]; simp only [List.length_nil] at this ⊢; omega
    · exact a6.2 h0⟩
  have A6 := Aside0.mk a6.1
  have E := Aside0.mk hE
  have NM := Aside0.mk hname
  have LT := Aside0.mk hlt
  have HD := Aside0.mk hd
  have FL := Aside0.mk (show (frontL dg).length ≤ 32 by omega)
  have Z := Aside0.mk hz
  clear h hbs hname hlt hA a1 a2 a3 a4 a5 a6 hd hn hf hf2 hE hz
  go_enter Tryz.func158, Tryz.ntmps158
  go_wp2_with (first
    | (have G := M1.out
       refine arm_alloc rfl 101 rfl _ _ info101 ?_; intro W5 b5 hb hW
       have hN : At W5 b5 101 (ecells ⟨ByteArray.empty, 0, zeroD⟩) := by subst hW hb; exact At.new _ _ _
       have hO : Only (· = r) w.heap.size w W5 := by subst hW; exact O.out.alloc O.out.size _
       have L5 := Aside0.mk (show w.heap.size ≤ b5 ∧ b4 < b5 ∧ b5 < W5.heap.size from ⟨by rw [hb]; exact O.out.size, by rw [hb]; exact N4.out.lt, hN.lt⟩)
       have R := Aside0.mk (show Rdr W5 r ad c bs (p + 1) by subst hW; exact R.out.below ((Below.refl _ _).alloc (Nat.le_refl _) _))
       have N4 := Aside0.mk (show At W5 b4 101 (ecells ⟨ByteArray.empty, 0, zeroD⟩) by subst hW; exact N4.out.alloc _)
       have N5 := Aside0.mk hN
       have O := Aside0.mk hO
       clear hN hb hW hO)
    | (refine arm_alloc rfl 101 rfl _ _ info101 ?_; intro W4 b4 hb hW
       have hN : At W4 b4 101 (ecells ⟨ByteArray.empty, 0, zeroD⟩) := by subst hW hb; exact At.new _ _ _
       have hB : Below w.heap.size w W4 := by subst hW; exact (Below.refl _ _).alloc (Nat.le_refl _) _
       have L4 := Aside0.mk (show b4 = w.heap.size from hb)
       have R := Aside0.mk (H.out.below hB)
       have N4 := Aside0.mk hN
       have B4 := Aside0.mk hB
       clear hN hb hW hB)
    | (go_at_call 155
       have hcall := num1_calls W4 r ad c bs p R.out A1.out.2.1 (by rw [A1.out.1]; show (UInt8.ofNat (1 : Int).toNat).toNat < 248; decide)
       rw [A1.out.1, show ((UInt8.ofNat (1 : Int).toNat).toNat : Int) = 1 from rfl] at hcall
       refine hcall.mono ?_
       rintro e w1 ⟨rfl, hR, hO⟩
       have R := Aside0.mk hR
       have N4 := Aside0.mk (hO.at_ N4.out.lt (fun e => absurd H.out.cells.lt (by have := L4.out; omega)) N4.out)
       have O := Aside0.mk ((Only.of_below B4.out).trans (hO.mono B4.out.size (fun _ _ h => h)))
       have M1 := Aside0.mk True.intro
       clear hcall hR hO)
    | (refine arm_build rfl 101 _ rfl (ecells ⟨ByteArray.empty, 1, zeroD⟩) (by as_aux_lemma => kernel_rfl) ?_; intro v hv; have HV := Aside0.mk hv; clear hv)
    | (refine arm_store_row rfl 101 _ _ rfl b5 101 _ (ecells ⟨ByteArray.empty, 1, zeroD⟩) rfl HV.out N5.out (by rfl) size101 (by intro v hv; unfold ecells at hv; simp at hv; rcases hv with rfl | rfl | ⟨_, _, rfl⟩ <;> rfl) ?_
       intro W6 hW
       have hb : b5 ≠ r ∧ b5 ≠ b4 := ⟨by have := H.out.cells.lt; have := L5.out; omega, by have := L5.out; omega⟩
       have hO : Only (· = b5) W5.heap.size W5 W6 := by subst hW; exact Only.setRow (S := (· = b5)) (Only.refl _ _ _) (.inl rfl) _
       have hN : At W6 b5 101 (ecells ⟨ByteArray.empty, 1, zeroD⟩) := by subst hW; exact N5.out.setRow _
       have k1 : W6.cell? ⟨b5, 1, none⟩ = some (.int .i64 1) := by rw [hN.cell]; rfl
       have hR : Rdr W6 r ad c bs (p + 1) := R.out.only hO ⟨R.out.cells.lt, Ne.symm hb.1⟩ ⟨R.out.lt, by have := H.out.lt; have := L5.out; omega⟩
       have hN4 := hO.at_ N4.out.lt (Ne.symm hb.2) N4.out
       have hO2 : Only (· = r) w.heap.size w W6 := O.out.trans (hO.mono O.out.size (fun b hb h => by have := L5.out; omega))
       have R := Aside0.mk hR
       have N5 := Aside0.mk hN
       have N4 := Aside0.mk hN4
       have L5 := Aside0.mk (show w.heap.size ≤ b5 ∧ b4 < b5 ∧ b5 < W6.heap.size from ⟨L5.out.1, L5.out.2.1, hN.lt⟩)
       have O := Aside0.mk hO2
       clear hN hW hR hN4 hO hO2 hb)
    | (go_at_call 206
       have hcall := text1_calls W6 r ad c bs (p + 1) nm.data.toList.length R.out T2.out.1 T2.out.2.1 T2.out.2.2
       rw [A3.out, show (⟨nm.data.toList.toArray⟩ : ByteArray) = nm from rfl] at hcall
       refine hcall.mono ?_
       rintro e w2 ⟨rfl, hR, hO⟩
       have hb : b5 ≠ r ∧ b4 ≠ r := ⟨by have := H.out.cells.lt; have := L5.out; omega, by have := L4.out; have := H.out.cells.lt; omega⟩
       have hN := hO.at_ N5.out.lt hb.1 N5.out
       have k0 : w2.cell? ⟨b5, 0, none⟩ = some (.string ByteArray.empty) := by rw [hN.cell]; rfl
       have f0 : w2.frozen? ⟨b5, 0, none⟩ = false := hN.frozen _
       have R := Aside0.mk hR
       have N4 := Aside0.mk (hO.at_ N4.out.lt hb.2 N4.out)
       have N5 := Aside0.mk hN
       have O := Aside0.mk (O.out.trans (hO.mono O.out.size (fun _ _ h => h)))
       clear hcall hR hO hN hb)
    | (refine arm_store_str rfl 9 _ _ rfl ⟨b5, 0, none⟩ rfl nm rfl _ k0 f0 (by kernel_rfl) rfl ?_
       intro W7 hW
       have hb : b5 ≠ r ∧ b5 ≠ b4 := ⟨by have := H.out.cells.lt; have := L5.out; omega, by have := L5.out; omega⟩
       have hO : Only (· = b5) w2.heap.size w2 W7 := by subst hW; exact Only.setCell (S := (· = b5)) (a := ⟨b5, 0, none⟩) (Only.refl _ _ _) (.inl rfl) _
       have hN : At W7 b5 101 (ecells ⟨nm, 1, zeroD⟩) := by subst hW; exact N5.out.setCell 0 _
       have q0 : W7.cell? ⟨b5, 0, none⟩ = some (.string nm) := by rw [hN.cell]; rfl
       have q1 : W7.cell? ⟨b5, 1, none⟩ = some (.int .i64 1) := by rw [hN.cell]; rfl
       have R := Aside0.mk (R.out.only hO ⟨R.out.cells.lt, Ne.symm hb.1⟩ ⟨R.out.lt, by have := H.out.lt; have := L5.out; omega⟩)
       have N4 := Aside0.mk (hO.at_ N4.out.lt (Ne.symm hb.2) N4.out)
       have N5 := Aside0.mk hN
       have O := Aside0.mk (O.out.trans (hO.mono O.out.size (fun b hb h => by have := L5.out; omega)))
       clear k0 f0 hW hO hN hb)
    | (go_at_call 194
       refine (wrong_calls W7 1 nm ahead (by decide) NM.out LT.out).mono ?_
       rintro e w3 ⟨rfl, hB⟩
       have R := Aside0.mk (R.out.below hB)
       have N4 := Aside0.mk (N4.out.below hB N4.out.lt)
       have N5 := Aside0.mk (N5.out.below hB N5.out.lt)
       have O := Aside0.mk (O.out.trans ((Only.of_below hB).mono O.out.size (fun _ _ h => h)))
       clear hB)
    | (go_at_call 156
       refine (fail0_calls w3 r ad c bs _ R.out).mono ?_
       rintro e w4 ⟨rfl, rfl⟩)
    | (go_at_call 207
       have hcall := bytes1_calls _ r ad c bs (p + 1 + 1 + nm.data.toList.length) (frontL dg).length R.out T5.out.1 T5.out.2.1 T5.out.2.2
       rw [A6.out] at hcall
       refine hcall.mono ?_
       rintro e w5 ⟨v6, rfl, hV, hV2, hR, hO⟩
       have hb : b5 ≠ r ∧ b4 ≠ r := ⟨by have := H.out.cells.lt; have := L5.out; omega, by have := L4.out; have := H.out.cells.lt; omega⟩
       have R := Aside0.mk hR
       have N4 := Aside0.mk (hO.at_ N4.out.lt hb.2 N4.out)
       have N5 := Aside0.mk (hO.at_ N5.out.lt hb.1 N5.out)
       have O := Aside0.mk (O.out.trans (hO.mono O.out.size (fun _ _ h => h)))
       obtain ⟨A6, c6, hv6, hc6, hr6, _⟩ := hV.rdl
       subst hv6
       have R6 := Aside0.mk hr6
       have N5 := Aside0.mk (show At w5 b5 101 (ecells ⟨nm, 1, dg⟩) by
         have e := splice_front nm 1 dg HD.out
         rw [List.eq_nil_of_length_eq_zero Z.out] at e
         rw [← e]
         unfold splice
         simp only [List.map_nil, List.nil_append, List.length_nil, Nat.add_zero, List.take_append_drop]
         exact N5.out)
       rw [Z.out]
       have hsl := run_slice_array_all (P := Tryz.prog) w5 27 5 32 b5 2 tu27 size5
       clear hcall hR hO hb hV hV2 hr6 hc6)
    | (refine wpList_copy_nothing rfl _ _ 35 35 rfl 5 tu35 size5 _ _ _ _ _ _ rfl rfl rfl ?_)
    | (refine arm_load_row rfl 101 _ rfl b5 0 rfl (ecells ⟨nm, 1, dg⟩) N5.out.rangeAll row101 (by rw [ecells_len (x := ⟨nm, 1, dg⟩) HD.out]; exact size101) ?_
       intro v7 hv
       have V7 := Aside0.mk hv
       clear hv)
    | (refine arm_store_row rfl 101 _ _ rfl b4 101 _ (ecells ⟨nm, 1, dg⟩) rfl V7.out N4.out (by rw [ecells_len (x := ⟨nm, 1, dg⟩) HD.out]; rfl) (by rw [ecells_len (x := ⟨nm, 1, dg⟩) HD.out]; exact size101) (one_ecells _) ?_
       intro W9 hW
       have hb : b4 ≠ r := by have := H.out.cells.lt; have := L4.out; omega
       have hO : Only (· = b4) w5.heap.size w5 W9 := by subst hW; exact Only.setRow (S := (· = b4)) (Only.refl _ _ _) (.inl rfl) _
       have R := Aside0.mk (R.out.only hO ⟨R.out.cells.lt, Ne.symm hb⟩ ⟨R.out.lt, by have := H.out.lt; have := L4.out; omega⟩)
       have N4 := Aside0.mk (show At W9 b4 101 (ecells ⟨nm, 1, dg⟩) by subst hW; exact N4.out.setRow _)
       have O := Aside0.mk (O.out.trans (hO.mono O.out.size (fun b hb h => by have := L4.out; omega)))
       clear hW hO hb)
    | fail)
  obtain ⟨dd, hdd, hrd⟩ := tu101
  refine bodyPost_ret (results_cell1 rfl _ _ b4 101 _ _ rfl N4.out hdd hrd (by rw [ecells_len (x := ⟨nm, 1, dg⟩) HD.out]; exact size101)) rfl ?_
  refine ⟨rfl, ?_, O.out⟩
  rw [E.out]
  have e : p + (1 + (1 + nm.data.toList.length) + (1 + (frontL dg).length)) = p + 1 + 1 + nm.data.toList.length + 1 + (frontL dg).length := by omega
  rw [e]
  exact R.out
set_option maxRecDepth 4000 in
theorem entry1s_calls (w : World) (r : Nat) (ad : Addr) (c : Nat) (bs rest : List UInt8) (p : Nat) (nm : ByteArray) (dg : List UInt8) (ahead : ByteArray) (h : Rdr w r ad c bs p) (hbs : bs.drop p = encE ⟨nm, 1, dg⟩ ++ rest) (hname : isName nm = true) (hlt : ltS ahead nm = true) (hd : dg.length = 32) (hz : 0 < (frontL dg).length) :
    Calls Tryz.prog 158 #[.pointer (some ⟨r, 0, none⟩), .string ahead] w fun e w' => e = .returned (.agg (ecells ⟨nm, 1, dg⟩).toArray) ∧ Rdr w' r ad c bs (p + (encE ⟨nm, 1, dg⟩).length) ∧ Only (· = r) w.heap.size w w' := by
  have H := Aside0.mk h
  have hn := isName_len hname
  have hf := frontL_len dg hd
  have hf2 := frontN_le dg 32
  have hA := ahead_entry hbs (by show (1 : Int).toNat < 248; decide) (by show nm.data.toList.length < 248; omega) (by show (frontL dg).length < 248; omega)
  have hE : (encE ⟨nm, 1, dg⟩).length = 1 + (1 + nm.data.toList.length) + (1 + (frontL dg).length) := by
    unfold encE
    rw [formL_small _ (show (1 : Int).toNat < 248 by decide), formL_small _ (show nm.data.toList.length < 248 by omega), formL_small _ (show (frontL dg).length < 248 by omega)]
    simp only [List.length_append, List.length_singleton]
    omega
  have a1 := drop_head hA
  have a2 := drop_head a1.2.2
  have a3 := drop_take a2.2.2
  have a4 := drop_next a2.2.2
  have a5 := drop_head a4
  have a6 := drop_take a5.2.2
  have A1 := Aside0.mk a1
  have T2 : Aside0 ((bs.getD (p + 1) 0).toNat = nm.data.toList.length ∧ nm.data.toList.length < 248 ∧ p + 1 + 1 + nm.data.toList.length ≤ bs.length) := ⟨by rw [a2.1, UInt8.toNat_ofNat']; exact Nat.mod_eq_of_lt (by show nm.data.toList.length < _; omega), by omega, by
    have t : p + 1 + 1 + nm.data.toList.length < bs.length := a5.2.1; omega⟩
  have A3 := Aside0.mk a3.1
  have T5 : Aside0 ((bs.getD (p + 1 + 1 + nm.data.toList.length) 0).toNat = (frontL dg).length ∧ (frontL dg).length < 248 ∧ p + 1 + 1 + nm.data.toList.length + 1 + (frontL dg).length ≤ bs.length) := ⟨by rw [show p + 1 + 1 + nm.data.toList.length = p + 1 + 1 + nm.data.toList.length from rfl, a5.1, UInt8.toNat_ofNat']; exact Nat.mod_eq_of_lt (by show (frontL dg).length < _; omega), by omega, by
    by_cases h0 : frontL dg = []
    · have := a5.2.1; rw [h0]; simp only [List.length_nil] at this ⊢; omega
    · exact a6.2 h0⟩
  have A6 := Aside0.mk a6.1
  have E := Aside0.mk hE
  have NM := Aside0.mk hname
  have LT := Aside0.mk hlt
  have HD := Aside0.mk hd
  have FL := Aside0.mk (show (frontL dg).length ≤ 32 by omega)
  obtain ⟨m, hm⟩ : ∃ m, (frontL dg).length = m + 1 := ⟨(frontL dg).length - 1, by omega⟩
  obtain ⟨x, hx⟩ : ∃ x, x = (frontL dg).getD m 0 := ⟨_, rfl⟩
  have hx0 : ((x.toNat : Int) == 0) = false := by
    have h1 := frontN_last dg 32 (by rw [← frontL_len dg hd]; omega)
    rw [← frontL_len dg hd, hm, Nat.add_sub_cancel] at h1
    have h2 : x ≠ 0 := by
      rw [hx]
      unfold frontL
      rw [List.getD_eq_getElem?_getD, List.getElem?_take, if_pos (by rw [← frontL_len dg hd]; omega), ← List.getD_eq_getElem?_getD]
      exact h1
    exact beq_eq_false_iff_ne.2 (fun h => h2 (UInt8.toNat_inj.1 ((show x.toNat = 0 by omega).trans rfl)))
  have t32 : decide (((m : Int) + 1) > 32) = false := decide_eq_false (by omega)
  have t32b : decide (32 < ((m : Int) + 1)) = false := decide_eq_false (by omega)
  have t0 : decide (((m : Int) + 1) > 0) = true := decide_eq_true (by omega)
  have t0b : decide (0 < ((m : Int) + 1)) = true := decide_eq_true (by omega)
  have hm31 : m ≤ 31 := by omega
  have MM := Aside0.mk hm
  have X := Aside0.mk hx
  clear h hbs hname hlt hA a1 a2 a3 a4 a5 a6 hd hn hf hf2 hE hz hm hx
  go_enter Tryz.func158, Tryz.ntmps158
  go_wp2_with (first
    | (have G := M1.out
       refine arm_alloc rfl 101 rfl _ _ info101 ?_; intro W5 b5 hb hW
       have hN : At W5 b5 101 (ecells ⟨ByteArray.empty, 0, zeroD⟩) := by subst hW hb; exact At.new _ _ _
       have hO : Only (· = r) w.heap.size w W5 := by subst hW; exact O.out.alloc O.out.size _
       have L5 := Aside0.mk (show w.heap.size ≤ b5 ∧ b4 < b5 ∧ b5 < W5.heap.size from ⟨by rw [hb]; exact O.out.size, by rw [hb]; exact N4.out.lt, hN.lt⟩)
       have R := Aside0.mk (show Rdr W5 r ad c bs (p + 1) by subst hW; exact R.out.below ((Below.refl _ _).alloc (Nat.le_refl _) _))
       have N4 := Aside0.mk (show At W5 b4 101 (ecells ⟨ByteArray.empty, 0, zeroD⟩) by subst hW; exact N4.out.alloc _)
       have N5 := Aside0.mk hN
       have O := Aside0.mk hO
       clear hN hb hW hO)
    | (refine arm_alloc rfl 101 rfl _ _ info101 ?_; intro W4 b4 hb hW
       have hN : At W4 b4 101 (ecells ⟨ByteArray.empty, 0, zeroD⟩) := by subst hW hb; exact At.new _ _ _
       have hB : Below w.heap.size w W4 := by subst hW; exact (Below.refl _ _).alloc (Nat.le_refl _) _
       have L4 := Aside0.mk (show b4 = w.heap.size from hb)
       have R := Aside0.mk (H.out.below hB)
       have N4 := Aside0.mk hN
       have B4 := Aside0.mk hB
       clear hN hb hW hB)
    | (go_at_call 155
       have hcall := num1_calls W4 r ad c bs p R.out A1.out.2.1 (by rw [A1.out.1]; show (UInt8.ofNat (1 : Int).toNat).toNat < 248; decide)
       rw [A1.out.1, show ((UInt8.ofNat (1 : Int).toNat).toNat : Int) = 1 from rfl] at hcall
       refine hcall.mono ?_
       rintro e w1 ⟨rfl, hR, hO⟩
       have R := Aside0.mk hR
       have N4 := Aside0.mk (hO.at_ N4.out.lt (fun e => absurd H.out.cells.lt (by have := L4.out; omega)) N4.out)
       have O := Aside0.mk ((Only.of_below B4.out).trans (hO.mono B4.out.size (fun _ _ h => h)))
       have M1 := Aside0.mk True.intro
       clear hcall hR hO)
    | (refine arm_build rfl 101 _ rfl (ecells ⟨ByteArray.empty, 1, zeroD⟩) (by as_aux_lemma => kernel_rfl) ?_; intro v hv; have HV := Aside0.mk hv; clear hv)
    | (refine arm_store_row rfl 101 _ _ rfl b5 101 _ (ecells ⟨ByteArray.empty, 1, zeroD⟩) rfl HV.out N5.out (by rfl) size101 (by intro v hv; unfold ecells at hv; simp at hv; rcases hv with rfl | rfl | ⟨_, _, rfl⟩ <;> rfl) ?_
       intro W6 hW
       have hb : b5 ≠ r ∧ b5 ≠ b4 := ⟨by have := H.out.cells.lt; have := L5.out; omega, by have := L5.out; omega⟩
       have hO : Only (· = b5) W5.heap.size W5 W6 := by subst hW; exact Only.setRow (S := (· = b5)) (Only.refl _ _ _) (.inl rfl) _
       have hN : At W6 b5 101 (ecells ⟨ByteArray.empty, 1, zeroD⟩) := by subst hW; exact N5.out.setRow _
       have k1 : W6.cell? ⟨b5, 1, none⟩ = some (.int .i64 1) := by rw [hN.cell]; rfl
       have hR : Rdr W6 r ad c bs (p + 1) := R.out.only hO ⟨R.out.cells.lt, Ne.symm hb.1⟩ ⟨R.out.lt, by have := H.out.lt; have := L5.out; omega⟩
       have hN4 := hO.at_ N4.out.lt (Ne.symm hb.2) N4.out
       have hO2 : Only (· = r) w.heap.size w W6 := O.out.trans (hO.mono O.out.size (fun b hb h => by have := L5.out; omega))
       have R := Aside0.mk hR
       have N5 := Aside0.mk hN
       have N4 := Aside0.mk hN4
       have L5 := Aside0.mk (show w.heap.size ≤ b5 ∧ b4 < b5 ∧ b5 < W6.heap.size from ⟨L5.out.1, L5.out.2.1, hN.lt⟩)
       have O := Aside0.mk hO2
       clear hN hW hR hN4 hO hO2 hb)
    | (go_at_call 206
       have hcall := text1_calls W6 r ad c bs (p + 1) nm.data.toList.length R.out T2.out.1 T2.out.2.1 T2.out.2.2
       rw [A3.out, show (⟨nm.data.toList.toArray⟩ : ByteArray) = nm from rfl] at hcall
       refine hcall.mono ?_
       rintro e w2 ⟨rfl, hR, hO⟩
       have hb : b5 ≠ r ∧ b4 ≠ r := ⟨by have := H.out.cells.lt; have := L5.out; omega, by have := L4.out; have := H.out.cells.lt; omega⟩
       have hN := hO.at_ N5.out.lt hb.1 N5.out
       have k0 : w2.cell? ⟨b5, 0, none⟩ = some (.string ByteArray.empty) := by rw [hN.cell]; rfl
       have f0 : w2.frozen? ⟨b5, 0, none⟩ = false := hN.frozen _
       have R := Aside0.mk hR
       have N4 := Aside0.mk (hO.at_ N4.out.lt hb.2 N4.out)
       have N5 := Aside0.mk hN
       have O := Aside0.mk (O.out.trans (hO.mono O.out.size (fun _ _ h => h)))
       clear hcall hR hO hN hb)
    | (refine arm_store_str rfl 9 _ _ rfl ⟨b5, 0, none⟩ rfl nm rfl _ k0 f0 (by kernel_rfl) rfl ?_
       intro W7 hW
       have hb : b5 ≠ r ∧ b5 ≠ b4 := ⟨by have := H.out.cells.lt; have := L5.out; omega, by have := L5.out; omega⟩
       have hO : Only (· = b5) w2.heap.size w2 W7 := by subst hW; exact Only.setCell (S := (· = b5)) (a := ⟨b5, 0, none⟩) (Only.refl _ _ _) (.inl rfl) _
       have hN : At W7 b5 101 (ecells ⟨nm, 1, zeroD⟩) := by subst hW; exact N5.out.setCell 0 _
       have q0 : W7.cell? ⟨b5, 0, none⟩ = some (.string nm) := by rw [hN.cell]; rfl
       have q1 : W7.cell? ⟨b5, 1, none⟩ = some (.int .i64 1) := by rw [hN.cell]; rfl
       have R := Aside0.mk (R.out.only hO ⟨R.out.cells.lt, Ne.symm hb.1⟩ ⟨R.out.lt, by have := H.out.lt; have := L5.out; omega⟩)
       have N4 := Aside0.mk (hO.at_ N4.out.lt (Ne.symm hb.2) N4.out)
       have N5 := Aside0.mk hN
       have O := Aside0.mk (O.out.trans (hO.mono O.out.size (fun b hb h => by have := L5.out; omega)))
       clear k0 f0 hW hO hN hb)
    | (go_at_call 194
       refine (wrong_calls W7 1 nm ahead (by decide) NM.out LT.out).mono ?_
       rintro e w3 ⟨rfl, hB⟩
       have R := Aside0.mk (R.out.below hB)
       have N4 := Aside0.mk (N4.out.below hB N4.out.lt)
       have N5 := Aside0.mk (N5.out.below hB N5.out.lt)
       have O := Aside0.mk (O.out.trans ((Only.of_below hB).mono O.out.size (fun _ _ h => h)))
       clear hB)
    | (go_at_call 156
       refine (fail0_calls w3 r ad c bs _ R.out).mono ?_
       rintro e w4 ⟨rfl, rfl⟩)
    | (go_at_call 207
       have hcall := bytes1_calls _ r ad c bs (p + 1 + 1 + nm.data.toList.length) (frontL dg).length R.out T5.out.1 T5.out.2.1 T5.out.2.2
       rw [A6.out] at hcall
       refine hcall.mono ?_
       rintro e w5 ⟨v6, rfl, hV, hV2, hR, hO⟩
       have hb : b5 ≠ r ∧ b4 ≠ r := ⟨by have := H.out.cells.lt; have := L5.out; omega, by have := L4.out; have := H.out.cells.lt; omega⟩
       have R := Aside0.mk hR
       have N4 := Aside0.mk (hO.at_ N4.out.lt hb.2 N4.out)
       have N5 := Aside0.mk (hO.at_ N5.out.lt hb.1 N5.out)
       have O := Aside0.mk (O.out.trans (hO.mono O.out.size (fun _ _ h => h)))
       obtain ⟨A6, c6, hv6, hc6, hr6, _⟩ := hV.rdl
       subst hv6
       have R6 := Aside0.mk hr6
       have hne : frontL dg ≠ [] := fun h => by have := MM.out; rw [h] at this; simp at this
       obtain ⟨ad6, hA6, had6, hcell⟩ := hr6 hne
       subst hA6
       have C6 := Aside0.mk hcell
       have kx : w5.cell? (ad6.add m) = some (.int .u8 (x.toNat : Int)) := by rw [hcell m (by rw [MM.out]; omega), X.out]; rfl
       clear hcell hne had6
       rw [MM.out]
       have hsl := run_slice_array_all (P := Tryz.prog) w5 27 5 32 b5 2 tu27 size5
       clear hcall hR hO hb hV hV2 hr6 hc6)
    | (refine arm_copy rfl _ _ 35 35 rfl 5 tu35 size5 b5 2 32 32 ad6 (m + 1) c6 rfl rfl _ 101 N5.out ((frontL dg).map bv) (by rw [List.length_map, MM.out]; have := FL.out; rw [MM.out] at this; exact (Nat.min_eq_left this).symm) (fun j v hj => by
         have hj1 : j < (frontL dg).length := by have := (List.getElem?_eq_some_iff.1 hj).1; rwa [List.length_map] at this
         rw [List.getElem?_map, List.getElem?_eq_getElem hj1] at hj
         rw [C6.out j hj1, List.getD_eq_getElem?_getD, List.getElem?_eq_getElem hj1]; exact hj) (by have := FL.out; rw [List.length_map]; show 2 + _ ≤ (ecells ⟨nm, 1, zeroD⟩).length; rw [ecells_len (x := ⟨nm, 1, zeroD⟩) rfl]; omega) (one_bv _) ?_
       intro W8 hW
       have hb : b5 ≠ r ∧ b5 ≠ b4 := ⟨by have := H.out.cells.lt; have := L5.out; omega, by have := L5.out; omega⟩
       have hO : Only (· = b5) w5.heap.size w5 W8 := by subst hW; exact Only.setRow (S := (· = b5)) (Only.refl _ _ _) (.inl rfl) _
       have R := Aside0.mk (R.out.only hO ⟨R.out.cells.lt, Ne.symm hb.1⟩ ⟨R.out.lt, by have := H.out.lt; have := L5.out; omega⟩)
       have N4 := Aside0.mk (hO.at_ N4.out.lt (Ne.symm hb.2) N4.out)
       have N5 := Aside0.mk (show At W8 b5 101 (ecells ⟨nm, 1, dg⟩) by rw [← splice_front nm 1 dg HD.out]; subst hW; exact N5.out.setRow _)
       have O := Aside0.mk (O.out.trans (hO.mono O.out.size (fun b hb h => by have := L5.out; omega)))
       clear hW hO hb)
    | (refine arm_load_row rfl 101 _ rfl b5 0 rfl (ecells ⟨nm, 1, dg⟩) N5.out.rangeAll row101 (by rw [ecells_len (x := ⟨nm, 1, dg⟩) HD.out]; exact size101) ?_
       intro v7 hv
       have V7 := Aside0.mk hv
       clear hv)
    | (refine arm_store_row rfl 101 _ _ rfl b4 101 _ (ecells ⟨nm, 1, dg⟩) rfl V7.out N4.out (by rw [ecells_len (x := ⟨nm, 1, dg⟩) HD.out]; rfl) (by rw [ecells_len (x := ⟨nm, 1, dg⟩) HD.out]; exact size101) (one_ecells _) ?_
       intro W9 hW
       have hb : b4 ≠ r := by have := H.out.cells.lt; have := L4.out; omega
       have hO : Only (· = b4) W8.heap.size W8 W9 := by subst hW; exact Only.setRow (S := (· = b4)) (Only.refl _ _ _) (.inl rfl) _
       have R := Aside0.mk (R.out.only hO ⟨R.out.cells.lt, Ne.symm hb⟩ ⟨R.out.lt, by have := H.out.lt; have := L4.out; omega⟩)
       have N4 := Aside0.mk (show At W9 b4 101 (ecells ⟨nm, 1, dg⟩) by subst hW; exact N4.out.setRow _)
       have O := Aside0.mk (O.out.trans (hO.mono O.out.size (fun b hb h => by have := L4.out; omega)))
       clear hW hO hb)
    | fail)
  obtain ⟨dd, hdd, hrd⟩ := tu101
  refine bodyPost_ret (results_cell1 rfl _ _ b4 101 _ _ rfl N4.out hdd hrd (by rw [ecells_len (x := ⟨nm, 1, dg⟩) HD.out]; exact size101)) rfl ?_
  refine ⟨rfl, ?_, O.out⟩
  rw [E.out]
  have e : p + (1 + (1 + nm.data.toList.length) + (1 + (frontL dg).length)) = p + 1 + 1 + nm.data.toList.length + 1 + (frontL dg).length := by omega
  rw [e]
  exact R.out
set_option maxRecDepth 4000 in
theorem entry2z_calls (w : World) (r : Nat) (ad : Addr) (c : Nat) (bs rest : List UInt8) (p : Nat) (nm : ByteArray) (dg : List UInt8) (ahead : ByteArray) (h : Rdr w r ad c bs p) (hbs : bs.drop p = encE ⟨nm, 2, dg⟩ ++ rest) (hname : isName nm = true) (hlt : ltS ahead nm = true) (hd : dg.length = 32) (hz : (frontL dg).length = 0) :
    Calls Tryz.prog 158 #[.pointer (some ⟨r, 0, none⟩), .string ahead] w fun e w' => e = .returned (.agg (ecells ⟨nm, 2, dg⟩).toArray) ∧ Rdr w' r ad c bs (p + (encE ⟨nm, 2, dg⟩).length) ∧ Only (· = r) w.heap.size w w' := by
  have H := Aside0.mk h
  have hn := isName_len hname
  have hf := frontL_len dg hd
  have hf2 := frontN_le dg 32
  have hA := ahead_entry hbs (by show (2 : Int).toNat < 248; decide) (by show nm.data.toList.length < 248; omega) (by show (frontL dg).length < 248; omega)
  have hE : (encE ⟨nm, 2, dg⟩).length = 1 + (1 + nm.data.toList.length) + (1 + (frontL dg).length) := by
    unfold encE
    rw [formL_small _ (show (2 : Int).toNat < 248 by decide), formL_small _ (show nm.data.toList.length < 248 by omega), formL_small _ (show (frontL dg).length < 248 by omega)]
    simp only [List.length_append, List.length_singleton]
    omega
  have a1 := drop_head hA
  have a2 := drop_head a1.2.2
  have a3 := drop_take a2.2.2
  have a4 := drop_next a2.2.2
  have a5 := drop_head a4
  have a6 := drop_take a5.2.2
  have A1 := Aside0.mk a1
  have T2 : Aside0 ((bs.getD (p + 1) 0).toNat = nm.data.toList.length ∧ nm.data.toList.length < 248 ∧ p + 1 + 1 + nm.data.toList.length ≤ bs.length) := ⟨by rw [a2.1, UInt8.toNat_ofNat']; exact Nat.mod_eq_of_lt (by show nm.data.toList.length < _; omega), by omega, by
    have t : p + 1 + 1 + nm.data.toList.length < bs.length := a5.2.1; omega⟩
  have A3 := Aside0.mk a3.1
  have T5 : Aside0 ((bs.getD (p + 1 + 1 + nm.data.toList.length) 0).toNat = (frontL dg).length ∧ (frontL dg).length < 248 ∧ p + 1 + 1 + nm.data.toList.length + 1 + (frontL dg).length ≤ bs.length) := ⟨by rw [show p + 1 + 1 + nm.data.toList.length = p + 1 + 1 + nm.data.toList.length from rfl, a5.1, UInt8.toNat_ofNat']; exact Nat.mod_eq_of_lt (by show (frontL dg).length < _; omega), by omega, by
    by_cases h0 : frontL dg = []
    · have := a5.2.1; rw [h0]; simp only [List.length_nil] at this ⊢; omega
    · exact a6.2 h0⟩
  have A6 := Aside0.mk a6.1
  have E := Aside0.mk hE
  have NM := Aside0.mk hname
  have LT := Aside0.mk hlt
  have HD := Aside0.mk hd
  have FL := Aside0.mk (show (frontL dg).length ≤ 32 by omega)
  have Z := Aside0.mk hz
  clear h hbs hname hlt hA a1 a2 a3 a4 a5 a6 hd hn hf hf2 hE hz
  go_enter Tryz.func158, Tryz.ntmps158
  go_wp2_with (first
    | (have G := M1.out
       refine arm_alloc rfl 101 rfl _ _ info101 ?_; intro W5 b5 hb hW
       have hN : At W5 b5 101 (ecells ⟨ByteArray.empty, 0, zeroD⟩) := by subst hW hb; exact At.new _ _ _
       have hO : Only (· = r) w.heap.size w W5 := by subst hW; exact O.out.alloc O.out.size _
       have L5 := Aside0.mk (show w.heap.size ≤ b5 ∧ b4 < b5 ∧ b5 < W5.heap.size from ⟨by rw [hb]; exact O.out.size, by rw [hb]; exact N4.out.lt, hN.lt⟩)
       have R := Aside0.mk (show Rdr W5 r ad c bs (p + 1) by subst hW; exact R.out.below ((Below.refl _ _).alloc (Nat.le_refl _) _))
       have N4 := Aside0.mk (show At W5 b4 101 (ecells ⟨ByteArray.empty, 0, zeroD⟩) by subst hW; exact N4.out.alloc _)
       have N5 := Aside0.mk hN
       have O := Aside0.mk hO
       clear hN hb hW hO)
    | (refine arm_alloc rfl 101 rfl _ _ info101 ?_; intro W4 b4 hb hW
       have hN : At W4 b4 101 (ecells ⟨ByteArray.empty, 0, zeroD⟩) := by subst hW hb; exact At.new _ _ _
       have hB : Below w.heap.size w W4 := by subst hW; exact (Below.refl _ _).alloc (Nat.le_refl _) _
       have L4 := Aside0.mk (show b4 = w.heap.size from hb)
       have R := Aside0.mk (H.out.below hB)
       have N4 := Aside0.mk hN
       have B4 := Aside0.mk hB
       clear hN hb hW hB)
    | (go_at_call 155
       have hcall := num1_calls W4 r ad c bs p R.out A1.out.2.1 (by rw [A1.out.1]; show (UInt8.ofNat (2 : Int).toNat).toNat < 248; decide)
       rw [A1.out.1, show ((UInt8.ofNat (2 : Int).toNat).toNat : Int) = 2 from rfl] at hcall
       refine hcall.mono ?_
       rintro e w1 ⟨rfl, hR, hO⟩
       have R := Aside0.mk hR
       have N4 := Aside0.mk (hO.at_ N4.out.lt (fun e => absurd H.out.cells.lt (by have := L4.out; omega)) N4.out)
       have O := Aside0.mk ((Only.of_below B4.out).trans (hO.mono B4.out.size (fun _ _ h => h)))
       have M1 := Aside0.mk True.intro
       clear hcall hR hO)
    | (refine arm_build rfl 101 _ rfl (ecells ⟨ByteArray.empty, 2, zeroD⟩) (by as_aux_lemma => kernel_rfl) ?_; intro v hv; have HV := Aside0.mk hv; clear hv)
    | (refine arm_store_row rfl 101 _ _ rfl b5 101 _ (ecells ⟨ByteArray.empty, 2, zeroD⟩) rfl HV.out N5.out (by rfl) size101 (by intro v hv; unfold ecells at hv; simp at hv; rcases hv with rfl | rfl | ⟨_, _, rfl⟩ <;> rfl) ?_
       intro W6 hW
       have hb : b5 ≠ r ∧ b5 ≠ b4 := ⟨by have := H.out.cells.lt; have := L5.out; omega, by have := L5.out; omega⟩
       have hO : Only (· = b5) W5.heap.size W5 W6 := by subst hW; exact Only.setRow (S := (· = b5)) (Only.refl _ _ _) (.inl rfl) _
       have hN : At W6 b5 101 (ecells ⟨ByteArray.empty, 2, zeroD⟩) := by subst hW; exact N5.out.setRow _
       have k1 : W6.cell? ⟨b5, 1, none⟩ = some (.int .i64 2) := by rw [hN.cell]; rfl
       have hR : Rdr W6 r ad c bs (p + 1) := R.out.only hO ⟨R.out.cells.lt, Ne.symm hb.1⟩ ⟨R.out.lt, by have := H.out.lt; have := L5.out; omega⟩
       have hN4 := hO.at_ N4.out.lt (Ne.symm hb.2) N4.out
       have hO2 : Only (· = r) w.heap.size w W6 := O.out.trans (hO.mono O.out.size (fun b hb h => by have := L5.out; omega))
       have R := Aside0.mk hR
       have N5 := Aside0.mk hN
       have N4 := Aside0.mk hN4
       have L5 := Aside0.mk (show w.heap.size ≤ b5 ∧ b4 < b5 ∧ b5 < W6.heap.size from ⟨L5.out.1, L5.out.2.1, hN.lt⟩)
       have O := Aside0.mk hO2
       clear hN hW hR hN4 hO hO2 hb)
    | (go_at_call 206
       have hcall := text1_calls W6 r ad c bs (p + 1) nm.data.toList.length R.out T2.out.1 T2.out.2.1 T2.out.2.2
       rw [A3.out, show (⟨nm.data.toList.toArray⟩ : ByteArray) = nm from rfl] at hcall
       refine hcall.mono ?_
       rintro e w2 ⟨rfl, hR, hO⟩
       have hb : b5 ≠ r ∧ b4 ≠ r := ⟨by have := H.out.cells.lt; have := L5.out; omega, by have := L4.out; have := H.out.cells.lt; omega⟩
       have hN := hO.at_ N5.out.lt hb.1 N5.out
       have k0 : w2.cell? ⟨b5, 0, none⟩ = some (.string ByteArray.empty) := by rw [hN.cell]; rfl
       have f0 : w2.frozen? ⟨b5, 0, none⟩ = false := hN.frozen _
       have R := Aside0.mk hR
       have N4 := Aside0.mk (hO.at_ N4.out.lt hb.2 N4.out)
       have N5 := Aside0.mk hN
       have O := Aside0.mk (O.out.trans (hO.mono O.out.size (fun _ _ h => h)))
       clear hcall hR hO hN hb)
    | (refine arm_store_str rfl 9 _ _ rfl ⟨b5, 0, none⟩ rfl nm rfl _ k0 f0 (by kernel_rfl) rfl ?_
       intro W7 hW
       have hb : b5 ≠ r ∧ b5 ≠ b4 := ⟨by have := H.out.cells.lt; have := L5.out; omega, by have := L5.out; omega⟩
       have hO : Only (· = b5) w2.heap.size w2 W7 := by subst hW; exact Only.setCell (S := (· = b5)) (a := ⟨b5, 0, none⟩) (Only.refl _ _ _) (.inl rfl) _
       have hN : At W7 b5 101 (ecells ⟨nm, 2, zeroD⟩) := by subst hW; exact N5.out.setCell 0 _
       have q0 : W7.cell? ⟨b5, 0, none⟩ = some (.string nm) := by rw [hN.cell]; rfl
       have q1 : W7.cell? ⟨b5, 1, none⟩ = some (.int .i64 2) := by rw [hN.cell]; rfl
       have R := Aside0.mk (R.out.only hO ⟨R.out.cells.lt, Ne.symm hb.1⟩ ⟨R.out.lt, by have := H.out.lt; have := L5.out; omega⟩)
       have N4 := Aside0.mk (hO.at_ N4.out.lt (Ne.symm hb.2) N4.out)
       have N5 := Aside0.mk hN
       have O := Aside0.mk (O.out.trans (hO.mono O.out.size (fun b hb h => by have := L5.out; omega)))
       clear k0 f0 hW hO hN hb)
    | (go_at_call 194
       refine (wrong_calls W7 2 nm ahead (by decide) NM.out LT.out).mono ?_
       rintro e w3 ⟨rfl, hB⟩
       have R := Aside0.mk (R.out.below hB)
       have N4 := Aside0.mk (N4.out.below hB N4.out.lt)
       have N5 := Aside0.mk (N5.out.below hB N5.out.lt)
       have O := Aside0.mk (O.out.trans ((Only.of_below hB).mono O.out.size (fun _ _ h => h)))
       clear hB)
    | (go_at_call 156
       refine (fail0_calls w3 r ad c bs _ R.out).mono ?_
       rintro e w4 ⟨rfl, rfl⟩)
    | (go_at_call 207
       have hcall := bytes1_calls _ r ad c bs (p + 1 + 1 + nm.data.toList.length) (frontL dg).length R.out T5.out.1 T5.out.2.1 T5.out.2.2
       rw [A6.out] at hcall
       refine hcall.mono ?_
       rintro e w5 ⟨v6, rfl, hV, hV2, hR, hO⟩
       have hb : b5 ≠ r ∧ b4 ≠ r := ⟨by have := H.out.cells.lt; have := L5.out; omega, by have := L4.out; have := H.out.cells.lt; omega⟩
       have R := Aside0.mk hR
       have N4 := Aside0.mk (hO.at_ N4.out.lt hb.2 N4.out)
       have N5 := Aside0.mk (hO.at_ N5.out.lt hb.1 N5.out)
       have O := Aside0.mk (O.out.trans (hO.mono O.out.size (fun _ _ h => h)))
       obtain ⟨A6, c6, hv6, hc6, hr6, _⟩ := hV.rdl
       subst hv6
       have R6 := Aside0.mk hr6
       have N5 := Aside0.mk (show At w5 b5 101 (ecells ⟨nm, 2, dg⟩) by
         have e := splice_front nm 2 dg HD.out
         rw [List.eq_nil_of_length_eq_zero Z.out] at e
         rw [← e]
         unfold splice
         simp only [List.map_nil, List.nil_append, List.length_nil, Nat.add_zero, List.take_append_drop]
         exact N5.out)
       rw [Z.out]
       have hsl := run_slice_array_all (P := Tryz.prog) w5 27 5 32 b5 2 tu27 size5
       clear hcall hR hO hb hV hV2 hr6 hc6)
    | (refine wpList_copy_nothing rfl _ _ 35 35 rfl 5 tu35 size5 _ _ _ _ _ _ rfl rfl rfl ?_)
    | (refine arm_load_row rfl 101 _ rfl b5 0 rfl (ecells ⟨nm, 2, dg⟩) N5.out.rangeAll row101 (by rw [ecells_len (x := ⟨nm, 2, dg⟩) HD.out]; exact size101) ?_
       intro v7 hv
       have V7 := Aside0.mk hv
       clear hv)
    | (refine arm_store_row rfl 101 _ _ rfl b4 101 _ (ecells ⟨nm, 2, dg⟩) rfl V7.out N4.out (by rw [ecells_len (x := ⟨nm, 2, dg⟩) HD.out]; rfl) (by rw [ecells_len (x := ⟨nm, 2, dg⟩) HD.out]; exact size101) (one_ecells _) ?_
       intro W9 hW
       have hb : b4 ≠ r := by have := H.out.cells.lt; have := L4.out; omega
       have hO : Only (· = b4) w5.heap.size w5 W9 := by subst hW; exact Only.setRow (S := (· = b4)) (Only.refl _ _ _) (.inl rfl) _
       have R := Aside0.mk (R.out.only hO ⟨R.out.cells.lt, Ne.symm hb⟩ ⟨R.out.lt, by have := H.out.lt; have := L4.out; omega⟩)
       have N4 := Aside0.mk (show At W9 b4 101 (ecells ⟨nm, 2, dg⟩) by subst hW; exact N4.out.setRow _)
       have O := Aside0.mk (O.out.trans (hO.mono O.out.size (fun b hb h => by have := L4.out; omega)))
       clear hW hO hb)
    | fail)
  obtain ⟨dd, hdd, hrd⟩ := tu101
  refine bodyPost_ret (results_cell1 rfl _ _ b4 101 _ _ rfl N4.out hdd hrd (by rw [ecells_len (x := ⟨nm, 2, dg⟩) HD.out]; exact size101)) rfl ?_
  refine ⟨rfl, ?_, O.out⟩
  rw [E.out]
  have e : p + (1 + (1 + nm.data.toList.length) + (1 + (frontL dg).length)) = p + 1 + 1 + nm.data.toList.length + 1 + (frontL dg).length := by omega
  rw [e]
  exact R.out
set_option maxRecDepth 4000 in
theorem entry2s_calls (w : World) (r : Nat) (ad : Addr) (c : Nat) (bs rest : List UInt8) (p : Nat) (nm : ByteArray) (dg : List UInt8) (ahead : ByteArray) (h : Rdr w r ad c bs p) (hbs : bs.drop p = encE ⟨nm, 2, dg⟩ ++ rest) (hname : isName nm = true) (hlt : ltS ahead nm = true) (hd : dg.length = 32) (hz : 0 < (frontL dg).length) :
    Calls Tryz.prog 158 #[.pointer (some ⟨r, 0, none⟩), .string ahead] w fun e w' => e = .returned (.agg (ecells ⟨nm, 2, dg⟩).toArray) ∧ Rdr w' r ad c bs (p + (encE ⟨nm, 2, dg⟩).length) ∧ Only (· = r) w.heap.size w w' := by
  have H := Aside0.mk h
  have hn := isName_len hname
  have hf := frontL_len dg hd
  have hf2 := frontN_le dg 32
  have hA := ahead_entry hbs (by show (2 : Int).toNat < 248; decide) (by show nm.data.toList.length < 248; omega) (by show (frontL dg).length < 248; omega)
  have hE : (encE ⟨nm, 2, dg⟩).length = 1 + (1 + nm.data.toList.length) + (1 + (frontL dg).length) := by
    unfold encE
    rw [formL_small _ (show (2 : Int).toNat < 248 by decide), formL_small _ (show nm.data.toList.length < 248 by omega), formL_small _ (show (frontL dg).length < 248 by omega)]
    simp only [List.length_append, List.length_singleton]
    omega
  have a1 := drop_head hA
  have a2 := drop_head a1.2.2
  have a3 := drop_take a2.2.2
  have a4 := drop_next a2.2.2
  have a5 := drop_head a4
  have a6 := drop_take a5.2.2
  have A1 := Aside0.mk a1
  have T2 : Aside0 ((bs.getD (p + 1) 0).toNat = nm.data.toList.length ∧ nm.data.toList.length < 248 ∧ p + 1 + 1 + nm.data.toList.length ≤ bs.length) := ⟨by rw [a2.1, UInt8.toNat_ofNat']; exact Nat.mod_eq_of_lt (by show nm.data.toList.length < _; omega), by omega, by
    have t : p + 1 + 1 + nm.data.toList.length < bs.length := a5.2.1; omega⟩
  have A3 := Aside0.mk a3.1
  have T5 : Aside0 ((bs.getD (p + 1 + 1 + nm.data.toList.length) 0).toNat = (frontL dg).length ∧ (frontL dg).length < 248 ∧ p + 1 + 1 + nm.data.toList.length + 1 + (frontL dg).length ≤ bs.length) := ⟨by rw [show p + 1 + 1 + nm.data.toList.length = p + 1 + 1 + nm.data.toList.length from rfl, a5.1, UInt8.toNat_ofNat']; exact Nat.mod_eq_of_lt (by show (frontL dg).length < _; omega), by omega, by
    by_cases h0 : frontL dg = []
    · have := a5.2.1; rw [h0]; simp only [List.length_nil] at this ⊢; omega
    · exact a6.2 h0⟩
  have A6 := Aside0.mk a6.1
  have E := Aside0.mk hE
  have NM := Aside0.mk hname
  have LT := Aside0.mk hlt
  have HD := Aside0.mk hd
  have FL := Aside0.mk (show (frontL dg).length ≤ 32 by omega)
  obtain ⟨m, hm⟩ : ∃ m, (frontL dg).length = m + 1 := ⟨(frontL dg).length - 1, by omega⟩
  obtain ⟨x, hx⟩ : ∃ x, x = (frontL dg).getD m 0 := ⟨_, rfl⟩
  have hx0 : ((x.toNat : Int) == 0) = false := by
    have h1 := frontN_last dg 32 (by rw [← frontL_len dg hd]; omega)
    rw [← frontL_len dg hd, hm, Nat.add_sub_cancel] at h1
    have h2 : x ≠ 0 := by
      rw [hx]
      unfold frontL
      rw [List.getD_eq_getElem?_getD, List.getElem?_take, if_pos (by rw [← frontL_len dg hd]; omega), ← List.getD_eq_getElem?_getD]
      exact h1
    exact beq_eq_false_iff_ne.2 (fun h => h2 (UInt8.toNat_inj.1 ((show x.toNat = 0 by omega).trans rfl)))
  have t32 : decide (((m : Int) + 1) > 32) = false := decide_eq_false (by omega)
  have t32b : decide (32 < ((m : Int) + 1)) = false := decide_eq_false (by omega)
  have t0 : decide (((m : Int) + 1) > 0) = true := decide_eq_true (by omega)
  have t0b : decide (0 < ((m : Int) + 1)) = true := decide_eq_true (by omega)
  have hm31 : m ≤ 31 := by omega
  have MM := Aside0.mk hm
  have X := Aside0.mk hx
  clear h hbs hname hlt hA a1 a2 a3 a4 a5 a6 hd hn hf hf2 hE hz hm hx
  go_enter Tryz.func158, Tryz.ntmps158
  go_wp2_with (first
    | (have G := M1.out
       refine arm_alloc rfl 101 rfl _ _ info101 ?_; intro W5 b5 hb hW
       have hN : At W5 b5 101 (ecells ⟨ByteArray.empty, 0, zeroD⟩) := by subst hW hb; exact At.new _ _ _
       have hO : Only (· = r) w.heap.size w W5 := by subst hW; exact O.out.alloc O.out.size _
       have L5 := Aside0.mk (show w.heap.size ≤ b5 ∧ b4 < b5 ∧ b5 < W5.heap.size from ⟨by rw [hb]; exact O.out.size, by rw [hb]; exact N4.out.lt, hN.lt⟩)
       have R := Aside0.mk (show Rdr W5 r ad c bs (p + 1) by subst hW; exact R.out.below ((Below.refl _ _).alloc (Nat.le_refl _) _))
       have N4 := Aside0.mk (show At W5 b4 101 (ecells ⟨ByteArray.empty, 0, zeroD⟩) by subst hW; exact N4.out.alloc _)
       have N5 := Aside0.mk hN
       have O := Aside0.mk hO
       clear hN hb hW hO)
    | (refine arm_alloc rfl 101 rfl _ _ info101 ?_; intro W4 b4 hb hW
       have hN : At W4 b4 101 (ecells ⟨ByteArray.empty, 0, zeroD⟩) := by subst hW hb; exact At.new _ _ _
       have hB : Below w.heap.size w W4 := by subst hW; exact (Below.refl _ _).alloc (Nat.le_refl _) _
       have L4 := Aside0.mk (show b4 = w.heap.size from hb)
       have R := Aside0.mk (H.out.below hB)
       have N4 := Aside0.mk hN
       have B4 := Aside0.mk hB
       clear hN hb hW hB)
    | (go_at_call 155
       have hcall := num1_calls W4 r ad c bs p R.out A1.out.2.1 (by rw [A1.out.1]; show (UInt8.ofNat (2 : Int).toNat).toNat < 248; decide)
       rw [A1.out.1, show ((UInt8.ofNat (2 : Int).toNat).toNat : Int) = 2 from rfl] at hcall
       refine hcall.mono ?_
       rintro e w1 ⟨rfl, hR, hO⟩
       have R := Aside0.mk hR
       have N4 := Aside0.mk (hO.at_ N4.out.lt (fun e => absurd H.out.cells.lt (by have := L4.out; omega)) N4.out)
       have O := Aside0.mk ((Only.of_below B4.out).trans (hO.mono B4.out.size (fun _ _ h => h)))
       have M1 := Aside0.mk True.intro
       clear hcall hR hO)
    | (refine arm_build rfl 101 _ rfl (ecells ⟨ByteArray.empty, 2, zeroD⟩) (by as_aux_lemma => kernel_rfl) ?_; intro v hv; have HV := Aside0.mk hv; clear hv)
    | (refine arm_store_row rfl 101 _ _ rfl b5 101 _ (ecells ⟨ByteArray.empty, 2, zeroD⟩) rfl HV.out N5.out (by rfl) size101 (by intro v hv; unfold ecells at hv; simp at hv; rcases hv with rfl | rfl | ⟨_, _, rfl⟩ <;> rfl) ?_
       intro W6 hW
       have hb : b5 ≠ r ∧ b5 ≠ b4 := ⟨by have := H.out.cells.lt; have := L5.out; omega, by have := L5.out; omega⟩
       have hO : Only (· = b5) W5.heap.size W5 W6 := by subst hW; exact Only.setRow (S := (· = b5)) (Only.refl _ _ _) (.inl rfl) _
       have hN : At W6 b5 101 (ecells ⟨ByteArray.empty, 2, zeroD⟩) := by subst hW; exact N5.out.setRow _
       have k1 : W6.cell? ⟨b5, 1, none⟩ = some (.int .i64 2) := by rw [hN.cell]; rfl
       have hR : Rdr W6 r ad c bs (p + 1) := R.out.only hO ⟨R.out.cells.lt, Ne.symm hb.1⟩ ⟨R.out.lt, by have := H.out.lt; have := L5.out; omega⟩
       have hN4 := hO.at_ N4.out.lt (Ne.symm hb.2) N4.out
       have hO2 : Only (· = r) w.heap.size w W6 := O.out.trans (hO.mono O.out.size (fun b hb h => by have := L5.out; omega))
       have R := Aside0.mk hR
       have N5 := Aside0.mk hN
       have N4 := Aside0.mk hN4
       have L5 := Aside0.mk (show w.heap.size ≤ b5 ∧ b4 < b5 ∧ b5 < W6.heap.size from ⟨L5.out.1, L5.out.2.1, hN.lt⟩)
       have O := Aside0.mk hO2
       clear hN hW hR hN4 hO hO2 hb)
    | (go_at_call 206
       have hcall := text1_calls W6 r ad c bs (p + 1) nm.data.toList.length R.out T2.out.1 T2.out.2.1 T2.out.2.2
       rw [A3.out, show (⟨nm.data.toList.toArray⟩ : ByteArray) = nm from rfl] at hcall
       refine hcall.mono ?_
       rintro e w2 ⟨rfl, hR, hO⟩
       have hb : b5 ≠ r ∧ b4 ≠ r := ⟨by have := H.out.cells.lt; have := L5.out; omega, by have := L4.out; have := H.out.cells.lt; omega⟩
       have hN := hO.at_ N5.out.lt hb.1 N5.out
       have k0 : w2.cell? ⟨b5, 0, none⟩ = some (.string ByteArray.empty) := by rw [hN.cell]; rfl
       have f0 : w2.frozen? ⟨b5, 0, none⟩ = false := hN.frozen _
       have R := Aside0.mk hR
       have N4 := Aside0.mk (hO.at_ N4.out.lt hb.2 N4.out)
       have N5 := Aside0.mk hN
       have O := Aside0.mk (O.out.trans (hO.mono O.out.size (fun _ _ h => h)))
       clear hcall hR hO hN hb)
    | (refine arm_store_str rfl 9 _ _ rfl ⟨b5, 0, none⟩ rfl nm rfl _ k0 f0 (by kernel_rfl) rfl ?_
       intro W7 hW
       have hb : b5 ≠ r ∧ b5 ≠ b4 := ⟨by have := H.out.cells.lt; have := L5.out; omega, by have := L5.out; omega⟩
       have hO : Only (· = b5) w2.heap.size w2 W7 := by subst hW; exact Only.setCell (S := (· = b5)) (a := ⟨b5, 0, none⟩) (Only.refl _ _ _) (.inl rfl) _
       have hN : At W7 b5 101 (ecells ⟨nm, 2, zeroD⟩) := by subst hW; exact N5.out.setCell 0 _
       have q0 : W7.cell? ⟨b5, 0, none⟩ = some (.string nm) := by rw [hN.cell]; rfl
       have q1 : W7.cell? ⟨b5, 1, none⟩ = some (.int .i64 2) := by rw [hN.cell]; rfl
       have R := Aside0.mk (R.out.only hO ⟨R.out.cells.lt, Ne.symm hb.1⟩ ⟨R.out.lt, by have := H.out.lt; have := L5.out; omega⟩)
       have N4 := Aside0.mk (hO.at_ N4.out.lt (Ne.symm hb.2) N4.out)
       have N5 := Aside0.mk hN
       have O := Aside0.mk (O.out.trans (hO.mono O.out.size (fun b hb h => by have := L5.out; omega)))
       clear k0 f0 hW hO hN hb)
    | (go_at_call 194
       refine (wrong_calls W7 2 nm ahead (by decide) NM.out LT.out).mono ?_
       rintro e w3 ⟨rfl, hB⟩
       have R := Aside0.mk (R.out.below hB)
       have N4 := Aside0.mk (N4.out.below hB N4.out.lt)
       have N5 := Aside0.mk (N5.out.below hB N5.out.lt)
       have O := Aside0.mk (O.out.trans ((Only.of_below hB).mono O.out.size (fun _ _ h => h)))
       clear hB)
    | (go_at_call 156
       refine (fail0_calls w3 r ad c bs _ R.out).mono ?_
       rintro e w4 ⟨rfl, rfl⟩)
    | (go_at_call 207
       have hcall := bytes1_calls _ r ad c bs (p + 1 + 1 + nm.data.toList.length) (frontL dg).length R.out T5.out.1 T5.out.2.1 T5.out.2.2
       rw [A6.out] at hcall
       refine hcall.mono ?_
       rintro e w5 ⟨v6, rfl, hV, hV2, hR, hO⟩
       have hb : b5 ≠ r ∧ b4 ≠ r := ⟨by have := H.out.cells.lt; have := L5.out; omega, by have := L4.out; have := H.out.cells.lt; omega⟩
       have R := Aside0.mk hR
       have N4 := Aside0.mk (hO.at_ N4.out.lt hb.2 N4.out)
       have N5 := Aside0.mk (hO.at_ N5.out.lt hb.1 N5.out)
       have O := Aside0.mk (O.out.trans (hO.mono O.out.size (fun _ _ h => h)))
       obtain ⟨A6, c6, hv6, hc6, hr6, _⟩ := hV.rdl
       subst hv6
       have R6 := Aside0.mk hr6
       have hne : frontL dg ≠ [] := fun h => by have := MM.out; rw [h] at this; simp at this
       obtain ⟨ad6, hA6, had6, hcell⟩ := hr6 hne
       subst hA6
       have C6 := Aside0.mk hcell
       have kx : w5.cell? (ad6.add m) = some (.int .u8 (x.toNat : Int)) := by rw [hcell m (by rw [MM.out]; omega), X.out]; rfl
       clear hcell hne had6
       rw [MM.out]
       have hsl := run_slice_array_all (P := Tryz.prog) w5 27 5 32 b5 2 tu27 size5
       clear hcall hR hO hb hV hV2 hr6 hc6)
    | (refine arm_copy rfl _ _ 35 35 rfl 5 tu35 size5 b5 2 32 32 ad6 (m + 1) c6 rfl rfl _ 101 N5.out ((frontL dg).map bv) (by rw [List.length_map, MM.out]; have := FL.out; rw [MM.out] at this; exact (Nat.min_eq_left this).symm) (fun j v hj => by
         have hj1 : j < (frontL dg).length := by have := (List.getElem?_eq_some_iff.1 hj).1; rwa [List.length_map] at this
         rw [List.getElem?_map, List.getElem?_eq_getElem hj1] at hj
         rw [C6.out j hj1, List.getD_eq_getElem?_getD, List.getElem?_eq_getElem hj1]; exact hj) (by have := FL.out; rw [List.length_map]; show 2 + _ ≤ (ecells ⟨nm, 2, zeroD⟩).length; rw [ecells_len (x := ⟨nm, 2, zeroD⟩) rfl]; omega) (one_bv _) ?_
       intro W8 hW
       have hb : b5 ≠ r ∧ b5 ≠ b4 := ⟨by have := H.out.cells.lt; have := L5.out; omega, by have := L5.out; omega⟩
       have hO : Only (· = b5) w5.heap.size w5 W8 := by subst hW; exact Only.setRow (S := (· = b5)) (Only.refl _ _ _) (.inl rfl) _
       have R := Aside0.mk (R.out.only hO ⟨R.out.cells.lt, Ne.symm hb.1⟩ ⟨R.out.lt, by have := H.out.lt; have := L5.out; omega⟩)
       have N4 := Aside0.mk (hO.at_ N4.out.lt (Ne.symm hb.2) N4.out)
       have N5 := Aside0.mk (show At W8 b5 101 (ecells ⟨nm, 2, dg⟩) by rw [← splice_front nm 2 dg HD.out]; subst hW; exact N5.out.setRow _)
       have O := Aside0.mk (O.out.trans (hO.mono O.out.size (fun b hb h => by have := L5.out; omega)))
       clear hW hO hb)
    | (refine arm_load_row rfl 101 _ rfl b5 0 rfl (ecells ⟨nm, 2, dg⟩) N5.out.rangeAll row101 (by rw [ecells_len (x := ⟨nm, 2, dg⟩) HD.out]; exact size101) ?_
       intro v7 hv
       have V7 := Aside0.mk hv
       clear hv)
    | (refine arm_store_row rfl 101 _ _ rfl b4 101 _ (ecells ⟨nm, 2, dg⟩) rfl V7.out N4.out (by rw [ecells_len (x := ⟨nm, 2, dg⟩) HD.out]; rfl) (by rw [ecells_len (x := ⟨nm, 2, dg⟩) HD.out]; exact size101) (one_ecells _) ?_
       intro W9 hW
       have hb : b4 ≠ r := by have := H.out.cells.lt; have := L4.out; omega
       have hO : Only (· = b4) W8.heap.size W8 W9 := by subst hW; exact Only.setRow (S := (· = b4)) (Only.refl _ _ _) (.inl rfl) _
       have R := Aside0.mk (R.out.only hO ⟨R.out.cells.lt, Ne.symm hb⟩ ⟨R.out.lt, by have := H.out.lt; have := L4.out; omega⟩)
       have N4 := Aside0.mk (show At W9 b4 101 (ecells ⟨nm, 2, dg⟩) by subst hW; exact N4.out.setRow _)
       have O := Aside0.mk (O.out.trans (hO.mono O.out.size (fun b hb h => by have := L4.out; omega)))
       clear hW hO hb)
    | fail)
  obtain ⟨dd, hdd, hrd⟩ := tu101
  refine bodyPost_ret (results_cell1 rfl _ _ b4 101 _ _ rfl N4.out hdd hrd (by rw [ecells_len (x := ⟨nm, 2, dg⟩) HD.out]; exact size101)) rfl ?_
  refine ⟨rfl, ?_, O.out⟩
  rw [E.out]
  have e : p + (1 + (1 + nm.data.toList.length) + (1 + (frontL dg).length)) = p + 1 + 1 + nm.data.toList.length + 1 + (frontL dg).length := by omega
  rw [e]
  exact R.out
theorem entry_calls (w : World) (r : Nat) (ad : Addr) (c : Nat) (bs rest : List UInt8) (p : Nat) (x : Ent) (ahead : ByteArray) (h : Rdr w r ad c bs p) (hbs : bs.drop p = encE x ++ rest) (hx : x.ok ahead = true) (hd : x.dig.length = 32) :
    Calls Tryz.prog 158 #[.pointer (some ⟨r, 0, none⟩), .string ahead] w fun e w' => e = .returned (.agg (ecells x).toArray) ∧ Rdr w' r ad c bs (p + (encE x).length) ∧ Only (· = r) w.heap.size w w' := by
  obtain ⟨nm, k, dg⟩ := x
  have hk : k = 1 ∨ k = 2 := by unfold Ent.ok at hx; simp at hx; exact hx.1
  have hname : isName nm = true := by unfold Ent.ok at hx; simp at hx; exact hx.2.1
  have hlt : ltS ahead nm = true := by unfold Ent.ok at hx; simp at hx; exact hx.2.2
  have hz := Nat.eq_zero_or_pos (frontL dg).length
  rcases hk with rfl | rfl <;> rcases hz with hz | hz
  · exact entry1z_calls w r ad c bs rest p nm dg ahead h hbs hname hlt hd hz
  · exact entry1s_calls w r ad c bs rest p nm dg ahead h hbs hname hlt hd hz
  · exact entry2z_calls w r ad c bs rest p nm dg ahead h hbs hname hlt hd hz
  · exact entry2s_calls w r ad c bs rest p nm dg ahead h hbs hname hlt hd hz
end Go.Proofs.YtbpfmlckddhgbaaGreatDoor
/- node: Decode's inner function reads all entries. -/
namespace Go.Proofs.YtbpfmlckddhgbaaGreatDoor
set_option linter.unusedSimpArgs false
open Go Go.RowKit Go.Maps Go.Proofs.YtbpfmlckddhgbaaGreatDoorW.PrintWords Go.Proofs.YtbpfmlckddhgbaaGreatDoorW.PrintLast
theorem tu127 : Tryz.prog.underlying 127 = some (.slice 101) := by kernel_rfl
theorem size127 : (Tryz.prog.info? 127).map (·.size) = some 1 := by kernel_rfl
theorem info101b : (Tryz.prog.info? 101).map (fun i => (i.zero, i.size, i.bytes)) = some (some (.agg ((ecells ⟨ByteArray.empty, 0, zeroD⟩).toArray)), 34, 56) := by kernel_rfl
theorem eRow_snoc {xs : List Ent} {j : Nat} {x : Ent} (h : xs[j]? = some x) : eRow (xs.take (j + 1)) = eRow (xs.take j) ++ ecells x := by
  rw [List.take_add_one, h]
  unfold eRow
  simp
theorem encL_small (xs : List Ent) (h : xs.length < 248) : encL xs = 1 :: (UInt8.ofNat xs.length :: xs.flatMap encE) := by
  unfold encL
  rw [formL_small 1 (by decide), formL_small _ h]
  rfl
structure DecSt (w wr : World) (r bl : Nat) (ad : Addr) (c : Nat) (bs : List UInt8) (xs : List Ent) (j : Nat) (ah : ByteArray) (v : Value) (p : Nat) : Prop where
  rdr : Rdr wr r ad c bs p
  left : bs.drop p = (xs.drop j).flatMap encE
  ok : entsOkFrom ah (xs.drop j) = true
  cell : At wr bl 127 [v]
  own : OwnR wr 101 34 v j (eRow (xs.take j))
  fresh : ∀ k, v.ownBlock = some k → w.heap.size ≤ k
  only : Only (fun b => b = r ∨ b = bl) w.heap.size w wr
set_option maxRecDepth 4000 in
theorem dec2_calls (w : World) (r bl : Nat) (ad : Addr) (c : Nat) (bs : List UInt8) (xs : List Ent) (h : Rdr w r ad c bs 0) (hl : At w bl 127 [.slice none 0 0]) (hne : bl ≠ r) (had : ad.block ≠ bl) (hbs : bs = encL xs) (hok : entsOk xs = true) (hd : digsOk xs) (hn : xs.length < 248) :
    Calls Tryz.prog 154 #[.pointer (some ⟨r, 0, none⟩), .pointer (some ⟨bl, 0, none⟩)] w fun e w' => e = .returned (.tuple #[]) ∧ (∃ v, At w' bl 127 [v] ∧ OwnR w' 101 34 v xs.length (eRow xs) ∧ ∀ k, v.ownBlock = some k → w.heap.size ≤ k) ∧ Rdr w' r ad c bs bs.length ∧ Only (fun b => b = r ∨ b = bl) w.heap.size w w' := by
  have H := Aside0.mk h
  have L := Aside0.mk hl
  have NE := Aside0.mk (And.intro hne had)
  have L0 := Aside0.mk hl.lt
  have HD := Aside0.mk hd
  have hA : bs.drop 0 = 1 :: (UInt8.ofNat xs.length :: xs.flatMap encE) := by rw [List.drop_zero, hbs, encL_small xs hn]
  have a1 := drop_head hA
  have a2 := drop_head a1.2.2
  have A1 := Aside0.mk a1
  have A2 := Aside0.mk a2
  have e2 : (bs.getD 1 0).toNat = xs.length := by rw [a2.1, UInt8.toNat_ofNat']; exact Nat.mod_eq_of_lt (by omega)
  have E2 := Aside0.mk e2
  have OK0 := Aside0.mk (show entsOkFrom ByteArray.empty (xs.drop 0) = true from hok)
  clear h hl hne had hd hA a1 a2 hbs hok e2
  go_enter Tryz.func154, Tryz.ntmps154
  go_wp2_with (first
    | (go_at_call 155
       have hcall := num1_calls w r ad c bs 0 H.out A1.out.2.1 (by rw [A1.out.1]; decide)
       rw [A1.out.1, show (((1 : UInt8).toNat : Nat) : Int) = 1 from rfl] at hcall
       refine hcall.mono ?_
       rintro e w1 ⟨rfl, hR, hO⟩
       have L := Aside0.mk (hO.at_ L.out.lt NE.out.1 L.out)
       have R := Aside0.mk hR
       have O := Aside0.mk hO
       clear hcall hR hO)
    | (go_at_call 157
       have hcall := most1_calls w1 r ad c bs 1 xs.length 1024 R.out E2.out hn A2.out.2.1 (by omega)
       refine hcall.mono ?_
       rintro e w2 ⟨rfl, hR, hO⟩
       have L := Aside0.mk (hO.at_ L.out.lt NE.out.1 L.out)
       have R := Aside0.mk hR
       have O := Aside0.mk (O.out.trans (hO.mono O.out.size (fun _ _ h => h)))
       clear hcall hR hO)
    | fail)
  go_loopg [3, 12] xs.length (fun g a i wr => ∃ (j : Nat) (ah : ByteArray) (v : Value) (p : Nat), Aside0 (j + g = xs.length) ∧ i = .int .i64 j ∧ a = .string ah ∧ Aside0 (DecSt w wr r bl ad c bs xs j ah v p))
  case atStart => exact ⟨0, ByteArray.empty, .slice none 0 0, 1 + 1, ⟨by omega⟩, rfl, rfl, ⟨R.out, A2.out.2.2, OK0.out, L.out, OwnR.nil _ _ _, fun k hk => by simp [Value.ownBlock] at hk, O.out.mono (Nat.le_refl _) (fun _ _ h => Or.inl h)⟩⟩
  case round =>
    obtain ⟨j, ah, v, p, HJ, rfl, rfl, HS⟩ := hrel
    by_cases hlt : j < xs.length
    · obtain ⟨x, hx⟩ : ∃ x, xs[j]? = some x := ⟨_, List.getElem?_eq_getElem hlt⟩
      have hdr : xs.drop j = x :: xs.drop (j + 1) := by rw [List.drop_eq_getElem_cons hlt, (List.getElem?_eq_some_iff.1 hx).2]
      have hok2 := HS.out.ok
      rw [hdr] at hok2
      simp only [entsOkFrom, Bool.and_eq_true] at hok2
      have hlf := HS.out.left
      rw [hdr, List.flatMap_cons] at hlf
      have XD := Aside0.mk (HD.out x (List.mem_of_getElem? hx))
      have OKX := Aside0.mk hok2
      have LF := Aside0.mk hlf
      have HX := Aside0.mk hx
      clear hdr hok2 hlf hx
      go_wp2_with (first
        | (go_at_call 158
           refine (entry_calls wr r ad c bs _ p x ah HS.out.rdr LF.out OKX.out.1 XD.out).mono ?_
           rintro e w3 ⟨rfl, hR, hO⟩
           have R := Aside0.mk hR
           have L := Aside0.mk (hO.at_ HS.out.cell.lt NE.out.1 HS.out.cell)
           have V := Aside0.mk (HS.out.own.only hO (fun b hb => ⟨HS.out.own.lt hb, fun e => by have h1 := HS.out.fresh b hb; have h2 := H.out.cells.lt; omega⟩))
           have O := Aside0.mk (HS.out.only.trans (hO.mono HS.out.only.size (fun _ _ h => Or.inl h)))
           have W3 := Aside0.mk (show w.heap.size ≤ w3.heap.size ∧ bl < w3.heap.size ∧ ∀ b, v.ownBlock = some b → b < w3.heap.size from ⟨O.out.size, L.out.lt, fun b hb => V.out.lt hb⟩)
           clear hR hO)
        | (refine arm_alloc rfl 101 rfl _ _ info101 ?_; intro W4 b4 hb hW
           have hN : At W4 b4 101 (ecells ⟨ByteArray.empty, 0, zeroD⟩) := by subst hW hb; exact At.new _ _ _
           have hB : Below w3.heap.size w3 W4 := by subst hW; exact (Below.refl _ _).alloc (Nat.le_refl _) _
           have L4 := Aside0.mk (show w3.heap.size ≤ b4 by rw [hb]; exact Nat.le_refl _)
           have R := Aside0.mk (R.out.below hB)
           have L := Aside0.mk (L.out.below hB L.out.lt)
           have V := Aside0.mk (V.out.below' hB)
           have O := Aside0.mk (O.out.trans ((Only.of_below hB).mono O.out.size (fun _ _ h => h)))
           have N := Aside0.mk hN
           clear hN hB hb hW)
        | (refine arm_store_row rfl 101 _ _ rfl b4 101 _ (ecells x) rfl rfl N.out (by rw [ecells_len XD.out]; rfl) (by rw [ecells_len XD.out]; exact size101) (one_ecells x) ?_
           intro W5 hW
           have hO : Only (· = b4) W4.heap.size W4 W5 := by subst hW; exact Only.setRow (S := (· = b4)) (Only.refl _ _ _) (.inl rfl) _
           have hr4 : r ≠ b4 := by have h1 := H.out.cells.lt; have h2 := W3.out.1; have h3 := L4.out; omega
           have had4 : ad.block ≠ b4 := by have h1 := H.out.lt; have h2 := W3.out.1; have h3 := L4.out; omega
           have R := Aside0.mk (R.out.only hO ⟨R.out.cells.lt, hr4⟩ ⟨R.out.lt, had4⟩)
           have L := Aside0.mk (hO.at_ L.out.lt (fun e => by have h1 := W3.out.2.1; have h3 := L4.out; omega) L.out)
           have V := Aside0.mk (V.out.only hO (fun b hb => ⟨V.out.lt hb, fun e => by have h1 := W3.out.2.2 b hb; have h3 := L4.out; omega⟩))
           have O := Aside0.mk (O.out.trans (hO.mono O.out.size (fun b hb h => by have h2 := W3.out.1; have h3 := L4.out; omega)))
           have N := Aside0.mk (show At W5 b4 101 (ecells x) by subst hW; exact N.out.setRow _)
           clear hW hO hr4 had4)
        | fail)
      obtain ⟨xv, hxv⟩ : ∃ xv, xv = Value.agg (ecells x).toArray := ⟨_, rfl⟩
      have XV := Aside0.mk hxv
      clear hxv
      have W4 := Aside0.mk (show b4 ≠ bl ∧ (∀ b, v.ownBlock = some b → b ≠ b4 ∧ b ≠ bl) from ⟨by have h1 := W3.out.2.1; have h3 := L4.out; omega, fun b hb => ⟨by have h1 := W3.out.2.2 b hb; have h3 := L4.out; omega, fun e => by have h1 := HS.out.fresh b hb; have h2 := L0.out; omega⟩⟩)
      have hall : ∀ w', Only (fun b => v.ownBlock = some b ∨ b = bl) W5.heap.size W5 w' → (Instr.loadAt 101 (.pointer (some ⟨b4, 0, none⟩))).run Tryz.prog w' = .ok xv w' ∧ w'.cell? ⟨b4, 0, none⟩ = some (.string x.name) := by
        intro w' hO
        have h4 := hO.at_ N.out.lt (fun h => h.elim (fun h => (W4.out.2 b4 h).1 rfl) W4.out.1) N.out
        refine ⟨?_, by rw [h4.cell]; rfl⟩
        obtain ⟨dd, hdd, hrd⟩ := tu101
        rw [XV.out]
        exact run_loadAt_mid w' b4 0 101 (ecells x) dd h4.rangeAll hdd hrd (by rw [ecells_len XD.out]; exact size101)
      have HALL := Aside0.mk hall
      clear hall
      refine takes_region (S := fun w' => Only (fun b => v.ownBlock = some b ∨ b = bl) W5.heap.size W5 w') (ds := []) [(1, false), (4, true), (5, false)] 5 (by kernel_rfl) rfl (by kernel_rfl) (fun _ _ dd _ _ h => by cases dd <;> exact h) (Only.refl _ _ _).drew
        #[false, true, false, false, true, true, false, false] (by kernel_rfl) ?_
      refine tk (N := some 18) (v := ?vv1) (a' := ?aa1) rfl rfl rfl ?hr1 ?ha1 ?nx1
      case hr1 => (intro w' hS; have hF := (HALL.out w' (hS.resolve_left (by decide))).1; refine (run_load_op hF rfl rfl).trans ?_; with_reducible rfl)
      case ha1 => (simp only [Act.put, List.setIfInBounds_toArray, List.set_cons_zero, List.set_cons_succ]; rfl)
      refine tk (N := some 21) (v := ?vv2) (a' := ?aa2) rfl rfl rfl ?hr2 ?ha2 ?nx2
      case hr2 => (intro w' hS; first | (go_simp; with_reducible rfl) | (obtain hS | hS := hS; (· cases hS); have hF := HALL.out w' hS; go_simp; with_reducible rfl))
      case ha2 => (simp only [Act.put, List.setIfInBounds_toArray, List.set_cons_zero, List.set_cons_succ]; rfl)
      refine tk (N := some 22) (v := ?vv3) (a' := ?aa3) rfl rfl rfl ?hr3 ?ha3 ?nx3
      case hr3 => (intro w' hS; first | (go_simp; with_reducible rfl) | (obtain hS | hS := hS; (· cases hS); have hF := HALL.out w' hS; go_simp; with_reducible rfl))
      case ha3 => (simp only [Act.put, List.setIfInBounds_toArray, List.set_cons_zero, List.set_cons_succ]; rfl)
      refine takes_done ?_
      refine join_ (σ := Nat × World) 3 #[true, true, true, false, true, true, false, false] (fun s => [(17, v), (19, .slice (some ⟨s.1, 0, none⟩) 1 1)]) (fun s w' => w' = s.2 ∧ At s.2 s.1 101 (ecells x) ∧ s.1 = W5.heap.size ∧ Only (fun b => v.ownBlock = some b ∨ b = bl) W5.heap.size W5 s.2 ∧ OwnR s.2 101 34 v j (eRow (xs.take j)) ∧ At s.2 bl 127 [v] ∧ Below W5.heap.size W5 s.2) ?_ (fun hc => ?_)
      rotate_left
      · have hl5 : ∀ w', At w' bl 127 [v] → (Instr.loadAt 127 (.pointer (some ⟨bl, 0, none⟩))).run Tryz.prog w' = .ok v w' := fun w' hw => run_load1 127 ⟨bl, 0, none⟩ v (by rw [hw.cell]; rfl) (.slice 101) tu127 rfl
        refine two_ (i := 0) (j := 2) (Ni := some 17) (Nj := some 19) #[true, true, false, false, true, true, false, false] #[false, true, true, false, true, true, false, false] rfl rfl rfl rfl (by kernel_rfl) (by decide) (by decide) (fun K hK => ?_) (fun K hK => ?_)
        · rw [if_pos (by rfl)]
          refine wpo_run (some 17) rfl (run_load_op (hl5 _ (L.out.drew)) rfl rfl) ?_
          refine hK _ _ (Only.refl _ _ _).drew (fun _ => ?_)
          clear hK K
          refine one_ (i := 2) (N := some 19) #[true, true, true, false, true, true, false, false] rfl rfl (by kernel_rfl) (by decide) (fun K hK => ?_)
          rw [if_pos (by rfl)]
          refine wpo_slice1 (some 19) rfl 127 101 _ rfl _ 34 (ecells x) xv rfl (by rw [XV.out]; rfl) tu127 info101 (by decide) (by decide) (ecells_len XD.out) ?_
          intro W6 b6 hb hW
          refine hK _ _ (by subst hW; exact (Only.refl _ _ _).drew.alloc (Nat.le_refl _) _) (fun _ => ?_)
          clear hK K
          exact hc (b6, W6) W6 ⟨rfl, by subst hW hb; exact At.new _ _ _, hb, by subst hW; exact (Only.refl _ _ _).drew.alloc (Nat.le_refl _) _, by subst hW; exact V.out.alloc _, by subst hW; exact L.out.drew.alloc _, by subst hW; exact (Below.refl _ _).drew.alloc (Nat.le_refl _) _⟩
        · rw [if_pos (by rfl)]
          refine wpo_slice1 (some 19) rfl 127 101 _ rfl _ 34 (ecells x) xv rfl (by rw [XV.out]; rfl) tu127 info101 (by decide) (by decide) (ecells_len XD.out) ?_
          intro W6 b6 hb hW
          refine hK _ _ (by subst hW; exact (Only.refl _ _ _).drew.alloc (Nat.le_refl _) _) (fun _ => ?_)
          clear hK K
          refine one_ (i := 0) (N := some 17) #[true, true, true, false, true, true, false, false] rfl rfl (by kernel_rfl) (by decide) (fun K hK => ?_)
          rw [if_pos (by rfl)]
          have hL6 : At W6 bl 127 [v] := by subst hW; exact L.out.drew.alloc _
          refine wpo_run (some 17) rfl (run_load_op (hl5 _ hL6) rfl rfl) ?_
          refine hK _ _ (by subst hW; exact (Only.refl _ _ _).drew.alloc (Nat.le_refl _) _) (fun _ => ?_)
          clear hK K
          exact hc (b6, W6) W6 ⟨rfl, by subst hW hb; exact At.new _ _ _, hb, by subst hW; exact (Only.refl _ _ _).drew.alloc (Nat.le_refl _) _, by subst hW; exact V.out.alloc _, hL6, by subst hW; exact (Below.refl _ _).drew.alloc (Nat.le_refl _) _⟩
      rintro ⟨b6, W6⟩ w' ⟨rfl, hA6, hb6, hO6, hV6, hL6, hB6⟩
      simp only at hA6 hb6 hO6 hV6 hL6 hB6
      have A6 := Aside0.mk hA6
      have O6 := Aside0.mk hO6
      have B6 := Aside0.mk hB6
      have V6 := Aside0.mk hV6
      have L6 := Aside0.mk hL6
      have E6 := Aside0.mk hb6
      clear hA6 hb6 hO6 hV6 hL6 hB6
      refine frame_ (a' := ?aa4) ?ha4 ?nx4
      case ha4 =>
        simp only [Go.Proofs.YtbpfmlckddhgbaaGreatDoorW.PrintLast.putAll, Act.put, List.setIfInBounds_toArray, List.set_cons_zero, List.set_cons_succ]
        rfl
      refine one_ (i := 3) (N := some 20) #[true, true, true, true, true, true, false, false] rfl rfl (by kernel_rfl) (by decide) (fun K hK => ?_)
      rw [if_pos (by rfl)]
      refine wpo_appendR (some 20) rfl _ _ 127 101 rfl _ 34 56 tu127 info101b rfl (by decide) v j (eRow (xs.take j)) (ecells x) rfl V6.out ⟨b6, 0, none⟩ 1 1 rfl (by rw [ecells_len XD.out]) (fun i u hu => by rw [Addr.add_mid, A6.out.cell, Nat.zero_add]; exact hu) (one_ecells x) (by have := hlt; omega) (by omega) ?_
      intro v7 W7 hV7 hO7 hv7
      have hS7 : Only (fun b => v.ownBlock = some b ∨ b = bl) W5.heap.size W5 W7 := O6.out.trans (hO7.mono B6.out.size (fun _ _ h => Or.inl h))
      have V7 := Aside0.mk hV7
      have S7 := Aside0.mk hS7
      have L7 := Aside0.mk (hO7.at_ L6.out.lt (fun h => (W4.out.2 bl h).2 rfl) L6.out)
      have Q7 := Aside0.mk hv7
      have P7 := Aside0.mk (show Only (fun b => v.ownBlock = some b) W5.heap.size W5 W7 from (Only.of_below B6.out).trans (hO7.mono B6.out.size (fun _ _ h => h)))
      have F7 := Aside0.mk (show ∀ k, v7.ownBlock = some k → w.heap.size ≤ k ∧ k ≠ bl from fun k hk => by
        rcases Q7.out with h | h
        · rw [h] at hk; exact ⟨HS.out.fresh k hk, (W4.out.2 k hk).2⟩
        · rw [h] at hk; injection hk with hk; have h1 := W3.out.1; have h2 := W3.out.2.1; have h3 := L6.out.lt; have h4 := O.out.size; have h5 := L.out.lt; have h6 := B6.out.size; have h7 := L0.out; omega)
      have O7v : v7.oneCell' = true := by obtain ⟨A, c, hv, _⟩ := hV7.shape; rw [hv]; rfl
      have OV := Aside0.mk O7v
      clear hV7 hO7 hv7 hS7 O7v
      refine hK _ _ S7.out (fun _ => ?_)
      clear hK K
      refine frame_ (a' := ?aa5) ?ha5 ?nx5
      case ha5 =>
        simp only [Go.Proofs.YtbpfmlckddhgbaaGreatDoorW.PrintLast.putAll, Act.put, List.setIfInBounds_toArray, List.set_cons_zero, List.set_cons_succ]
        rfl
      refine one_ (i := 6) (N := none) #[true, true, true, true, true, true, true, false] rfl rfl (by kernel_rfl) (by decide) (fun K hK => ?_)
      rw [if_pos (by rfl)]
      refine wpo_store1 none rfl 127 _ _ rfl ⟨bl, 0, none⟩ rfl v7 rfl (run_store1 127 ⟨bl, 0, none⟩ v7 v (by rw [L7.out.cell]; rfl) (L7.out.frozen 0) size127 rfl OV.out) ?_
      intro W8 hW
      have hO8 : Only (· = bl) W7.heap.size W7 W8 := by subst hW; exact Only.setCell (S := (· = bl)) (a := ⟨bl, 0, none⟩) (Only.refl _ _ _) (.inl rfl) _
      have L8 := Aside0.mk (show At W8 bl 127 [v7] by subst hW; exact L7.out.setCell 0 _)
      have V8 := Aside0.mk (V7.out.only hO8 (fun b hb => ⟨V7.out.lt hb, (F7.out b hb).2⟩))
      have P8 := Aside0.mk (show Only (fun b => v.ownBlock = some b ∨ b = bl) W5.heap.size W5 W8 from S7.out.trans (hO8.mono S7.out.size (fun _ _ h => Or.inr h)))
      clear hW hO8
      refine hK _ _ P8.out (fun _ => ?_)
      clear hK K
      refine frame_ (a' := ?aa6) ?ha6 ?nx6
      case ha6 =>
        simp only [Go.Proofs.YtbpfmlckddhgbaaGreatDoorW.PrintLast.putAll, Act.put, List.setIfInBounds_toArray, List.set_cons_zero, List.set_cons_succ]
        rfl
      refine one_ (i := 7) (N := some 3) #[true, true, true, true, true, true, true, true] rfl rfl (by kernel_rfl) (by decide) (fun K hK => ?_)
      rw [if_pos (by rfl)]
      refine wpo_assign (some 3) rfl _ rfl _ rfl ?_
      refine hK _ _ P8.out (fun _ => ?_)
      clear hK K
      refine frame_ (a' := ?aa7) ?ha7 ?nx7
      case ha7 =>
        simp only [Go.Proofs.YtbpfmlckddhgbaaGreatDoorW.PrintLast.putAll, Act.put, List.setIfInBounds_toArray, List.set_cons_zero, List.set_cons_succ]
        rfl
      refine done_ (by kernel_rfl) ?_
      go_wp2_with fail
      go_roundg (xs.length - (j + 1))
      case measure => have := HJ.out; omega
      case rel =>
        have hr5 : ¬ (v.ownBlock = some r ∨ r = bl) := fun h => h.elim (fun h => by have h1 := HS.out.fresh r h; have h2 := H.out.cells.lt; omega) (fun h => NE.out.1 h.symm)
        have ha5 : ¬ (v.ownBlock = some ad.block ∨ ad.block = bl) := fun h => h.elim (fun h => by have h1 := HS.out.fresh _ h; have h2 := H.out.lt; omega) NE.out.2
        refine ⟨j + 1, x.name, v7, p + (encE x).length, ⟨by omega⟩, by go_num, rfl, ⟨R.out.only P8.out ⟨R.out.cells.lt, hr5⟩ ⟨R.out.lt, ha5⟩, ?_, OKX.out.2, L8.out, ?_, fun k hk => (F7.out k hk).1, ?_⟩⟩
        · rw [drop_next LF.out]
        · rw [eRow_snoc HX.out]; exact V8.out
        · exact O.out.trans (P8.out.mono O.out.size (fun b hb h => h.elim (fun h => by have h1 := HS.out.fresh b h; omega) Or.inr))
    · obtain rfl : j = xs.length := by have := HJ.out; omega
      go_wp2_with fail
      refine Great.bodyPost_end0 rfl rfl ?_
      have hl := HS.out.left
      rw [List.drop_length, List.flatMap_nil] at hl
      have hp : p = bs.length := by
        have h1 := HS.out.rdr.at_
        have h2 := congrArg List.length hl
        rw [List.length_drop, List.length_nil] at h2
        omega
      subst hp
      have hv := HS.out.own
      rw [List.take_length] at hv
      exact ⟨rfl, ⟨v, HS.out.cell, hv, HS.out.fresh⟩, HS.out.rdr, HS.out.only⟩
end Go.Proofs.YtbpfmlckddhgbaaGreatDoor
/- mint: Read, where nothing goes wrong. -/
namespace Go.Proofs.YtbpfmlckddhgbaaGreatDoor
set_option linter.unusedSimpArgs false
open Go Go.RowKit Go.Maps Go.Proofs.YtbpfmlckddhgbaaGreatDoorW.PrintWords Go.Proofs.YtbpfmlckddhgbaaGreatDoorW.PrintLast
theorem info294 : (Tryz.prog.info? 294).map (fun i => (i.zero, i.size)) = some (some (.agg #[.pointer none]), 1) := by kernel_rfl
theorem size294 : (Tryz.prog.info? 294).map (·.size) = some 1 := by kernel_rfl
set_option maxRecDepth 8000 in
theorem read1_idle (w : World) (r br be : Nat) (ad : Addr) (c : Nat) (bs : List UInt8) (h : Rdr w r ad c bs bs.length) (hr : At w br 238 [.pointer (some ⟨r, 0, none⟩)]) (he : At w be 29 [.int .i64 0]) (h1 : br ≠ r) (h2 : be ≠ r) :
    CallsD Tryz.prog 204 #[.pointer (some ⟨br, 0, none⟩), .pointer (some ⟨be, 0, none⟩)] .returning w fun e u' w' =>
      e = .returned (.tuple #[]) ∧ u' = .returning ∧ Only (· = r) w.heap.size w w' := by
  have H := Aside0.mk h
  have R := Aside0.mk hr
  have E := Aside0.mk he
  have N12 := Aside0.mk (And.intro h1 h2)
  have k0 : w.cell? ⟨br, 0, none⟩ = some (.pointer (some ⟨r, 0, none⟩)) := by rw [hr.cell]; rfl
  have k2 : w.cell? ⟨r, 2, none⟩ = some (.bool false) := by rw [h.cells.cell]; rfl
  have f2 : w.frozen? ⟨r, 2, none⟩ = false := h.cells.frozen _
  clear h hr he h1 h2
  refine callsD_of_wpS Tryz.func204 rfl fun c₀ cs hu => ?_
  simp only [Tryz.ntmps204, List.size_toArray, List.length_cons, List.length_nil, Nat.reduceAdd, Nat.reduceSub, Array.replicate_succ, Array.replicate_zero, List.push_toArray, List.append_toArray, List.nil_append, List.cons_append]
  apply wpS_seq
  refine wpS_of_wp ?_
  go_wp2_with fail
  simp only [Exit.thenS]
  obtain ⟨W1, hW1⟩ : ∃ W1, W1 = w.setCell ⟨r, 2, none⟩ (.bool true) := ⟨_, rfl⟩
  rw [← hW1]
  apply wpS_seq
  apply wpS_region
  simp [wpOpsS, go_sem, recoverD, hu, Tryz.ntmps204, Exit.thenS]
  refine wpS_of_wp ?_
  have hta : ∀ w : World, (Instr.typeAssert .nilIface 20 294 true).run Tryz.prog w = .ok (.tuple #[.agg #[.pointer none], .bool false]) w := fun w => by kernel_rfl
  have hnl : ∀ w : World, (binOp .neq 20 .nilIface .nilIface).run Tryz.prog w = .ok (.bool false) w := fun w => by kernel_rfl
  have hO1 : Only (· = r) w.heap.size w W1 := by subst hW1; exact Only.setCell (S := (· = r)) (a := ⟨r, 2, none⟩) (Only.refl _ _ _) (.inl rfl) _
  have O1 := Aside0.mk hO1
  have R1 := Aside0.mk (hO1.at_ R.out.lt N12.out.1 R.out)
  have C1 := Aside0.mk (show At W1 r 292 [.slice (some ad) bs.length c, .int .i64 (bs.length : Int), .bool true, .int .i64 0] by subst hW1; exact H.out.cells.setCell 2 _)
  clear hW1 hO1 k0 k2 f2
  go_wp2_with (first
    | (refine arm_alloc rfl 294 rfl _ _ info294 ?_; intro W3 b3 hb hW
       have hB : Below W1.heap.size W1 W3 := by subst hW; exact (Below.refl _ _).alloc (Nat.le_refl _) _
       have hN : At W3 b3 294 [.pointer none] := by subst hW hb; exact At.new _ _ _
       have N3 := Aside0.mk hN
       have L3 := Aside0.mk (show W1.heap.size ≤ b3 by rw [hb]; exact Nat.le_refl _)
       have R3 := Aside0.mk (R1.out.below hB R1.out.lt)
       have C3 := Aside0.mk (C1.out.below hB C1.out.lt)
       have O3 := Aside0.mk (O1.out.trans ((Only.of_below hB).mono O1.out.size (fun _ _ h => h)))
       clear hN hB hb hW)
    | (refine arm_store_row rfl 294 _ _ rfl b3 294 _ [.pointer none] rfl rfl N3.out rfl size294 (by intro v hv; simp at hv; subst hv; rfl) ?_
       intro W4 hW
       have hO : Only (· = b3) W3.heap.size W3 W4 := by subst hW; exact Only.setRow (S := (· = b3)) (Only.refl _ _ _) (.inl rfl) _
       have hne : r ≠ b3 ∧ br ≠ b3 := ⟨by have h1 := C1.out.lt; have h2 := L3.out; omega, by have h1 := R1.out.lt; have h2 := L3.out; omega⟩
       have hR4 := hO.at_ R3.out.lt hne.2 R3.out
       have hC4 := hO.at_ C3.out.lt hne.1 C3.out
       have O4 := Aside0.mk (O3.out.trans (hO.mono O3.out.size (fun b hb h => by have h1 := O1.out.size; have h2 := L3.out; omega)))
       have k0 : W4.cell? ⟨br, 0, none⟩ = some (.pointer (some ⟨r, 0, none⟩)) := by rw [hR4.cell]; rfl
       have k3 : W4.cell? ⟨r, 3, none⟩ = some (.int .i64 0) := by rw [hC4.cell]; rfl
       have k1 : W4.cell? ⟨r, 1, none⟩ = some (.int .i64 (bs.length : Int)) := by rw [hC4.cell]; rfl
       have ks : W4.cell? ⟨r, 0, none⟩ = some (.slice (some ad) bs.length c) := by rw [hC4.cell]; rfl
       clear hW hO hne hR4 hC4)
    | fail)
  go_quiet (fail)
  go_wp2_with fail
  refine ⟨rfl, .returning, ?_, _, results_none rfl _ _ _, rfl, rfl, ?_⟩
  · cases c₀; simp_all
  · exact O4.out.drewN _
end Go.Proofs.YtbpfmlckddhgbaaGreatDoor
/- mint: Read with Decode's inner function; node: Decode, of bytes that are an encoded row of entries. -/
namespace Go.Proofs.YtbpfmlckddhgbaaGreatDoor
set_option linter.unusedSimpArgs false
open Go Go.RowKit Go.Maps Go.Proofs.YtbpfmlckddhgbaaGreatDoorW.PrintWords Go.Proofs.YtbpfmlckddhgbaaGreatDoorW.PrintLast
theorem info29 : (Tryz.prog.info? 29).map (fun i => (i.zero, i.size)) = some (some (.int .i64 0), 1) := by kernel_rfl
theorem encL_ne (xs : List Ent) (h : xs.length < 248) : encL xs ≠ [] := by rw [encL_small xs h]; simp
theorem Own.cap {w : World} {e : TypeId} {v : Value} {xs : List Value} (h : Own w e v xs) : ∃ A c, v = .slice A xs.length c ∧ c ≤ maxLen := by
  obtain ⟨h1, ⟨hv, hn⟩ | ⟨g, cap, cur, hv, _, hcell, hc, hm, _⟩⟩ := h
  · exact ⟨none, 0, by rw [hv, hn], Nat.zero_le _⟩
  · exact ⟨_, cap, hv, hm⟩
set_option maxRecDepth 8000 in
theorem read_calls (w : World) (A : Option Addr) (cb : Nat) (bl : Nat) (bs : List UInt8) (xs : List Ent) (hR : RdL w A bs) (hl : At w bl 127 [.slice none 0 0]) (hbs : bs = encL xs) (hok : entsOk xs = true) (hd : digsOk xs) (hn : xs.length < 248) (hbig : bs.length ≤ 1048576) :
    Calls Tryz.prog 153 #[.slice A bs.length cb, .func (.func 154) #[] #[.pointer (some ⟨bl, 0, none⟩)]] w fun e w' => e = .returned (.int .i64 0) ∧ (∃ v, At w' bl 127 [v] ∧ OwnR w' 101 34 v xs.length (eRow xs) ∧ ∀ k, v.ownBlock = some k → w.heap.size ≤ k) ∧ Only (· = bl) w.heap.size w w' := by
  have HR := Aside0.mk hR
  have L := Aside0.mk hl
  have BS := Aside0.mk hbs
  have OK := Aside0.mk (And.intro hok hd)
  have NE := Aside0.mk (show bs ≠ [] by rw [hbs]; exact encL_ne xs hn)
  clear hR hl hbs hok hd
  have hmf : ∀ (fn : Fn) (first cap : Array Value) (w : World), (Instr.makeFunc fn first cap).run Tryz.prog w = .ok (.func fn first cap) w := fun _ _ _ _ => rfl
  go_enter_defers Tryz.func153, Tryz.ntmps153
  go_wp2_with (first
    | (refine arm_alloc rfl 29 rfl _ _ info29 ?_; intro W4 b4 hb hW
       have hN : At W4 b4 29 [.int .i64 0] := by subst hW hb; exact At.new _ _ _
       have hB : Below w.heap.size w W4 := by subst hW; exact (Below.refl _ _).alloc (Nat.le_refl _) _
       have L4 := Aside0.mk (show w.heap.size ≤ b4 by rw [hb]; exact Nat.le_refl _)
       have N4 := Aside0.mk hN
       have B := Aside0.mk hB
       clear hN hb hW hB)
    | (go_at_call 71
       have hb4 := N4.out.lt
       have hRd : RdL W4 A bs := fun hne => by
         obtain ⟨ad, g1, g2, g3⟩ := HR.out hne
         exact ⟨ad, g1, Nat.lt_of_lt_of_le g2 B.out.size, fun k hk => by rw [B.out.cell (by rw [add_block]; exact g2)]; exact g3 k hk⟩
       refine (clone_calls W4 A cb bs hRd (by omega)).mono ?_
       rintro e w5 ⟨v5, rfl, h1, h2, h3⟩
       obtain ⟨A5, c5, hv5, hc5⟩ := h1.cap
       obtain ⟨A6, c6, hv6, hc6, hr6, ho6⟩ := h1.rdl
       obtain ⟨ad, hA, hlt, hcell⟩ := hr6 NE.out
       obtain ⟨ad', hA', ho⟩ := ho6 NE.out
       rw [hA] at hA'; injection hA' with hA'; subst hA'
       rw [List.length_map] at hv5
       rw [hv6] at hv5
       injection hv5 with e1 e2 e3
       subst hA e3
       have hge := h2 _ ho
       subst hv6
       have D5 := Aside0.mk (show ad.block < w5.heap.size ∧ W4.heap.size ≤ ad.block ∧ bs.length ≤ c6 ∧ c6 ≤ maxLen from ⟨hlt, hge, hc6, hc5⟩)
       have C5 := Aside0.mk hcell
       have N4 := Aside0.mk (N4.out.below h3 N4.out.lt)
       have W45 := Aside0.mk (show w.heap.size ≤ W4.heap.size ∧ b4 < W4.heap.size from ⟨B.out.size, hb4⟩)
       have B := Aside0.mk (B.out.trans (h3.mono B.out.size))
       clear h1 h2 h3 hr6 ho6 ho hlt hcell hge hc5 hc6 e1 e2 hRd hb4)
    | (go_at_call 154
       obtain ⟨r, hr⟩ : ∃ r, r = w5.heap.size := ⟨_, rfl⟩
       obtain ⟨W6, hW6⟩ : ∃ W6, W6 = ((w5.alloc (.cells #[.slice (some ad) bs.length c6, .int .i64 0, .bool false, .int .i64 0] 292)).alloc (.cells #[.pointer (some ⟨w5.heap.size, 0, none⟩)] 238)) := ⟨_, rfl⟩
       rw [← hW6, ← hr]
       have hAr : At W6 r 292 [.slice (some ad) bs.length c6, .int .i64 ((0 : Nat) : Int), .bool false, .int .i64 0] := by subst hW6 hr; exact (At.new _ _ _).alloc _
       have hAb : At W6 (r + 1) 238 [.pointer (some ⟨r, 0, none⟩)] := by
         subst hW6 hr
         have e := At.new (w5.alloc (.cells #[.slice (some ad) bs.length c6, .int .i64 0, .bool false, .int .i64 0] 292)) 238 #[.pointer (some ⟨w5.heap.size, 0, none⟩)]
         rw [World.size_alloc] at e; exact e
       have hB6 : Below w5.heap.size w5 W6 := by subst hW6; exact ((Below.refl _ _).alloc (Nat.le_refl _) _).alloc (by rw [World.size_alloc]; omega) _
       have hlr : r < W6.heap.size := hAr.lt
       have hRd : Rdr W6 r ad c6 bs 0 := ⟨hAr, by rw [hr]; have := D5.out.1; omega, Nat.lt_of_lt_of_le D5.out.1 hB6.size, fun k hk => by rw [hB6.cell (by rw [add_block]; exact D5.out.1)]; exact C5.out k hk, D5.out.2.2.1, by omega, Nat.zero_le _⟩
       have hbw : bl < w.heap.size := L.out.lt
       have hwr : w.heap.size ≤ r := by rw [hr]; exact B.out.size
       have hL6 : At W6 bl 127 [.slice none 0 0] := (L.out.below B.out hbw).below hB6 (by omega)
       refine (dec2_calls W6 r bl ad c6 bs xs hRd hL6 (by omega) (by have := D5.out.2.1; have := W45.out.1; omega) BS.out OK.out.1 OK.out.2 hn).mono ?_
       rintro e w7 ⟨rfl, ⟨v, hv1, hv2, hv3⟩, hR7, hO7⟩
       have hb4 : b4 < w5.heap.size := N4.out.lt
       have h4 : At w7 b4 29 [.int .i64 0] := hO7.at_ (by have := hB6.size; omega) (by intro h; rcases h with h | h; omega; have := L4.out; omega) (N4.out.below hB6 hb4)
       have k4 : w7.cell? ⟨b4, 0, none⟩ = some (.int .i64 0) := by rw [h4.cell]; rfl
       have f4 : w7.frozen? ⟨b4, 0, none⟩ = false := h4.frozen _
       have V7 := Aside0.mk (And.intro hv1 (And.intro hv2 hv3))
       have R7 := Aside0.mk hR7
       have P7 := Aside0.mk (show At w7 (r + 1) 238 [.pointer (some ⟨r, 0, none⟩)] from hO7.at_ hAb.lt (by intro h; rcases h with h | h; omega; omega) hAb)
       have O7 := Aside0.mk (show Only (fun b => b = r ∨ b = bl) w.heap.size w w7 from (Only.of_below (B.out.trans (hB6.mono B.out.size))).trans (hO7.mono (by have := hB6.size; have := B.out.size; omega) (fun _ _ h => h)))
       have N7 := Aside0.mk h4
       have Q7 := Aside0.mk (show w.heap.size ≤ r ∧ bl < w.heap.size ∧ w.heap.size ≤ b4 ∧ b4 < r ∧ w.heap.size ≤ W6.heap.size ∧ r < W6.heap.size from ⟨hwr, hbw, L4.out, by omega, by omega, hlr⟩)
       clear hr hW6 hAr hAb hB6 hlr hRd hbw hwr hL6 hv1 hv2 hv3 hR7 hO7 hb4 h4)
    | fail)
  obtain ⟨W8, hW8⟩ : ∃ W8, W8 = w7.setCell ⟨b4, 0, none⟩ (.int .i64 0) := ⟨_, rfl⟩
  rw [← hW8]
  have hO8 : Only (· = b4) w7.heap.size w7 W8 := by subst hW8; exact Only.setCell (S := (· = b4)) (a := ⟨b4, 0, none⟩) (Only.refl _ _ _) (.inl rfl) _
  have N8 := Aside0.mk (show At W8 b4 29 [.int .i64 0] by subst hW8; exact N7.out.setCell 0 _)
  have hq := Q7.out
  have hlr : ad.block < w5.heap.size ∧ w.heap.size ≤ ad.block := ⟨D5.out.1, by have := D5.out.2.1; have := W45.out.1; omega⟩
  have R8 := Aside0.mk (R7.out.only hO8 ⟨R7.out.cells.lt, by omega⟩ ⟨R7.out.lt, by have := D5.out.2.1; have := W45.out.2; omega⟩)
  have P8 := Aside0.mk (hO8.at_ P7.out.lt (by omega) P7.out)
  have L8 := Aside0.mk (hO8.at_ V7.out.1.lt (by omega) V7.out.1)
  have V8 := Aside0.mk (V7.out.2.1.only hO8 (fun b hb => ⟨V7.out.2.1.lt hb, by have := V7.out.2.2 b hb; omega⟩))
  have O8 := Aside0.mk (O7.out.trans (hO8.mono O7.out.size (fun b hb h => by omega)))
  refine leaves_cons (f := 204) (args := #[.pointer (some ⟨r + 1, 0, none⟩), .pointer (some ⟨b4, 0, none⟩)]) (by simp) (by simp [go_sem]) ?_
  refine (read1_idle W8 r (r + 1) b4 ad c6 bs R8.out P8.out N8.out (by omega) (by omega)).mono ?_
  rintro e u' w9 ⟨rfl, rfl, hO9⟩
  have N9 := Aside0.mk (hO9.at_ N8.out.lt (by omega) N8.out)
  have k9 : w9.cell? ⟨b4, 0, none⟩ = some (.int .i64 0) := by rw [N9.out.cell]; rfl
  have hfin : Only (· = bl) w.heap.size w w9 := (O8.out.trans (hO9.mono O8.out.size (fun b hb h => Or.inl h))).mono (Nat.le_refl _) (fun b hb h => by rcases h with h | h; omega; exact h)
  have hL9 := hO9.at_ L8.out.lt (by omega) L8.out
  have hV9 := V8.out.only hO9 (fun b hb => ⟨V8.out.lt hb, by have := V7.out.2.2 b hb; omega⟩)
  have FIN := Aside0.mk (And.intro hL9 (And.intro hV9 hfin))
  clear hfin hL9 hV9
  simp [Leaves, settle, results, Tryz.results153, go_sem, k9]
  exact ⟨⟨v, FIN.out.1, FIN.out.2.1, fun k hk => by have := V7.out.2.2 k hk; omega⟩, FIN.out.2.2⟩
end Go.Proofs.YtbpfmlckddhgbaaGreatDoor
/- node: Decode, of bytes that are an encoded row of entries. -/
namespace Go.Proofs.YtbpfmlckddhgbaaGreatDoor
set_option linter.unusedSimpArgs false
open Go Go.RowKit Go.Maps Go.Proofs.YtbpfmlckddhgbaaGreatDoorW.PrintWords Go.Proofs.YtbpfmlckddhgbaaGreatDoorW.PrintLast
theorem info127 : (Tryz.prog.info? 127).map (fun i => (i.zero, i.size)) = some (some (.slice none 0 0), 1) := by kernel_rfl
theorem dec1_idle (w : World) (be bl : Nat) (he : At w be 29 [.int .i64 0]) :
    CallsD Tryz.prog 152 #[.pointer (some ⟨be, 0, none⟩), .pointer (some ⟨bl, 0, none⟩)] .returning w fun e u' w' => u' = .returning ∧ (e = .returned (.tuple #[]) ∧ w' = w) := by
  have k0 : w.cell? ⟨be, 0, none⟩ = some (.int .i64 0) := by rw [he.cell]; rfl
  clear he
  go_enter_d Tryz.func152, Tryz.ntmps152
  go_wp2_with fail
  refine Great.bodyPost_end0 rfl rfl ?_
  exact ⟨rfl, rfl⟩
set_option maxRecDepth 8000 in
theorem decode_calls (w : World) (A : Option Addr) (c : Nat) (bs : List UInt8) (xs : List Ent) (hR : RdL w A bs) (hbs : bs = encL xs) (hok : entsOk xs = true) (hd : digsOk xs) (hn : xs.length < 248) (hbig : bs.length ≤ 1048576) :
    Calls Tryz.prog 87 #[.slice A bs.length c] w fun e w' => ∃ v, e = .returned (.tuple #[v, .int .i64 0]) ∧ OwnR w' 101 34 v xs.length (eRow xs) ∧ (∀ k, v.ownBlock = some k → w.heap.size ≤ k) ∧ Below w.heap.size w w' := by
  have HR := Aside0.mk hR
  have BS := Aside0.mk hbs
  have OK := Aside0.mk (And.intro hok hd)
  have t1 : decide ((bs.length : Int) > 1048576) = false := decide_eq_false (by omega)
  have t2 : decide (1048576 < (bs.length : Int)) = false := decide_eq_false (by omega)
  clear hR hbs hok hd
  have hmf : ∀ (fn : Fn) (first cap : Array Value) (w : World), (Instr.makeFunc fn first cap).run Tryz.prog w = .ok (.func fn first cap) w := fun _ _ _ _ => rfl
  go_enter_defers Tryz.func87, Tryz.ntmps87
  go_wp2_with (first
    | (refine arm_alloc rfl 127 rfl _ _ info127 ?_; intro W2 b2 hb hW
       have hN : At W2 b2 127 [.slice none 0 0] := by subst hW hb; exact At.new _ _ _
       have hB : Below w.heap.size w W2 := by subst hW; exact (Below.refl _ _).alloc (Nat.le_refl _) _
       have L2 := Aside0.mk (show b2 = w.heap.size ∧ b2 < W2.heap.size from ⟨hb, hN.lt⟩)
       have N2 := Aside0.mk hN
       have B := Aside0.mk hB
       clear hN hb hW hB)
    | (refine arm_alloc rfl 29 rfl _ _ info29 ?_; intro W3 b3 hb hW
       have hN : At W3 b3 29 [.int .i64 0] := by subst hW hb; exact At.new _ _ _
       have hB : Below W2.heap.size W2 W3 := by subst hW; exact (Below.refl _ _).alloc (Nat.le_refl _) _
       have L3 := Aside0.mk (show b2 < b3 ∧ w.heap.size ≤ b3 from ⟨by rw [hb]; exact L2.out.2, by rw [hb]; exact B.out.size⟩)
       have N2 := Aside0.mk (N2.out.below hB N2.out.lt)
       have N3 := Aside0.mk hN
       have B := Aside0.mk (B.out.trans (hB.mono B.out.size))
       have HR3 : RdL W3 A bs := fun hne => by
         obtain ⟨ad, g1, g2, g3⟩ := HR.out hne
         exact ⟨ad, g1, Nat.lt_of_lt_of_le g2 B.out.size, fun k hk => by rw [B.out.cell (by rw [add_block]; exact g2)]; exact g3 k hk⟩
       have HR3 := Aside0.mk HR3
       clear hN hb hW hB)
    | (go_at_call 153
       refine (read_calls W3 A c b2 bs xs HR3.out N2.out BS.out OK.out.1 OK.out.2 hn hbig).mono ?_
       rintro e w4 ⟨rfl, ⟨v, hv1, hv2, hv3⟩, hO⟩
       have hN3 := hO.at_ N3.out.lt (by have := L3.out; omega) N3.out
       have k3 : w4.cell? ⟨b3, 0, none⟩ = some (.int .i64 0) := by rw [hN3.cell]; rfl
       have f3 : w4.frozen? ⟨b3, 0, none⟩ = false := hN3.frozen _
       have V := Aside0.mk (And.intro hv2 hv3)
       have L4 := Aside0.mk (show w.heap.size ≤ W3.heap.size ∧ b2 < W3.heap.size ∧ b3 < W3.heap.size from ⟨B.out.size, N2.out.lt, N3.out.lt⟩)
       have N2 := Aside0.mk hv1
       have N3 := Aside0.mk hN3
       have O := Aside0.mk ((Only.of_below (S := (· = b2)) B.out).trans (hO.mono B.out.size (fun _ _ h => h)))
       clear hv1 hv2 hv3 hO hN3)
    | fail)
  obtain ⟨W5, hW5⟩ : ∃ W5, W5 = w4.setCell ⟨b3, 0, none⟩ (.int .i64 0) := ⟨_, rfl⟩
  rw [← hW5]
  have hO5 : Only (· = b3) w4.heap.size w4 W5 := by subst hW5; exact Only.setCell (S := (· = b3)) (a := ⟨b3, 0, none⟩) (Only.refl _ _ _) (.inl rfl) _
  have hN3 : At W5 b3 29 [.int .i64 0] := by subst hW5; exact N3.out.setCell 0 _
  have hN2 : At W5 b2 127 [v] := hO5.at_ N2.out.lt (by have := L3.out; omega) N2.out
  have V5 := Aside0.mk (V.out.1.only hO5 (fun b hb => ⟨V.out.1.lt hb, by have := V.out.2 b hb; have := L4.out; omega⟩))
  have O5 := Aside0.mk (show Below w.heap.size w W5 from (O.out.trans (hO5.mono O.out.size (fun b hb h => by have := L3.out; omega))).to_below (Nat.le_refl _) (fun b hb => by have := L2.out; omega))
  have N5 := Aside0.mk (And.intro hN2 hN3)
  have OV : Aside0 (v.oneCell' = true) := ⟨by obtain ⟨A, c, hv, _⟩ := V5.out.shape; rw [hv]; rfl⟩
  clear hO5 hN3 hN2 hW5 k3 f3
  obtain ⟨A7, c7, hv7, _⟩ := V5.out.shape
  subst hv7
  have k8 : W5.cell? ⟨b2, 0, none⟩ = some (.slice A7 xs.length c7) := by rw [N5.out.1.cell]; rfl
  have k9 : W5.cell? ⟨b3, 0, none⟩ = some (.int .i64 0) := by rw [N5.out.2.cell]; rfl
  have f8 : W5.frozen? ⟨b2, 0, none⟩ = false := N5.out.1.frozen _
  have f9 : W5.frozen? ⟨b3, 0, none⟩ = false := N5.out.2.frozen _
  have ne : ¬ b3 = b2 := by have := L3.out; omega
  go_region
  obtain ⟨W7, hW7⟩ : ∃ W7, W7 = ((W5.setCell ⟨b2, 0, none⟩ (.slice A7 xs.length c7)).setCell ⟨b3, 0, none⟩ (.int .i64 0)).drew := ⟨_, rfl⟩
  rw [← hW7]
  have S7 : Aside0 (At W7 b2 127 [.slice A7 xs.length c7] ∧ At W7 b3 29 [.int .i64 0] ∧ Only (fun b => b = b2 ∨ b = b3) W5.heap.size W5 W7) := ⟨by
    subst hW7
    exact ⟨((N5.out.1.setCell 0 _).setCell_other (a := ⟨b3, 0, none⟩) (Ne.symm ne) _).drew, ((N5.out.2.setCell_other (a := ⟨b2, 0, none⟩) ne _).setCell 0 _).drew, (Only.setCell (S := fun b => b = b2 ∨ b = b3) (a := ⟨b3, 0, none⟩) (Only.setCell (S := fun b => b = b2 ∨ b = b3) (a := ⟨b2, 0, none⟩) (Only.refl _ _ _) (.inl (.inl rfl)) _) (.inl (.inr rfl)) _).drew⟩⟩
  clear hW7 k8 k9 f8 f9
  go_wp2_with fail
  refine leaves_cons (f := 152) (args := #[.pointer (some ⟨b3, 0, none⟩), .pointer (some ⟨b2, 0, none⟩)]) (by simp) (by simp [go_sem]) ?_
  refine (dec1_idle W7 b3 b2 S7.out.2.1).mono ?_
  rintro e u' w9 ⟨rfl, rfl, rfl⟩
  have k9 : w9.cell? ⟨b3, 0, none⟩ = some (.int .i64 0) := by rw [S7.out.2.1.cell]; rfl
  have k8 : w9.cell? ⟨b2, 0, none⟩ = some (.slice A7 xs.length c7) := by rw [S7.out.1.cell]; rfl
  have FIN : Aside0 (OwnR w9 101 34 (.slice A7 xs.length c7) xs.length (eRow xs) ∧ Below w.heap.size w w9 ∧ ∀ k, (Value.slice A7 xs.length c7).ownBlock = some k → w.heap.size ≤ k) := ⟨V5.out.only S7.out.2.2 (fun b hb => ⟨V5.out.lt hb, by have := V.out.2 b hb; have := L4.out; omega⟩), O5.out.trans (S7.out.2.2.to_below O5.out.size (fun b hb => by have := L3.out; have := L2.out; omega)), fun k hk => by have := V.out.2 k hk; have := L4.out; omega⟩
  simp [Leaves, settle, results, Tryz.results87, go_sem, k9, k8]
  exact ⟨FIN.out.1, FIN.out.2.2, FIN.out.2.1⟩
end Go.Proofs.YtbpfmlckddhgbaaGreatDoor
