/- The laws' arguments in memory: items, texts; what their bulk bounds; a world for the witness. No walk here. -/
import Derived.Test.YtbpfmlckddhgbaaGreatDoorCards
import Derived.Test.YtbpfmlckddhgbaaGreatDoorTie
import Derived.Test.YtbpfmlckddhgbaaGreatDoorQh
import Derived.WalkKit
import Derived.ProofKit
import Derived.OpenShut
import Derived.Deep.DeepHandedRow
import Derived.Lib.LaidTab
import Derived.Deep.Slices
import Derived.Deep.Fields
import Derived.ChangeSame
import Derived.Below
import Derived.SliceStrings
import Derived.WideKeyArgs
namespace Go.Proofs.YtbpfmlckddhgbaaGreatDoor
set_option linter.unusedVariables false
set_option linter.unusedSimpArgs false
open Go Go.RowKit Go.ChangeShapes Go.WideShapes Go.Deep
section
variable {H : Type} {enc : TypeId × Value → H} {P : Program} {w : World} {base : Nat} {spare : Nat → Bool} {held : Bool}
theorem open_slice_fields {t e : TypeId} {fs : Array Field} {fuel : Nat} {cs : List Value} {x : DataW H × List MemPlace} (ht : P.underlying t = some (.slice e)) (he : P.underlying e = some (.struct fs))
    (hone : oneCellFields P fs = true) (hC : P.cellsOf e = fs.size) (h : DataW.trod enc P w base spare held fuel t cs = some x) :
    (cs = [.slice none 0 0] ∧ x = (.nil, [])) ∨
    ∃ (a : Addr) (len cap m : Nat) (D : Nat → DataW H) (Pl : Nat → List MemPlace), cs = [.slice (some a) len cap] ∧ base ≤ a.block ∧ len ≤ cap ∧ cap ≤ maxLen ∧ m = (if spare a.block then cap else len) ∧
      x = (.slice ((List.range len).map D) ((List.range (m - len)).map fun j => D (len + j)), MemPlace.row a (m * fs.size) ++ (List.range m).flatMap Pl) ∧
      ∀ i, i < m → ∃ (ys : List (DataW H × List MemPlace)) (n : Nat), D i = .agg (ys.map (·.1)) ∧ Pl i = ys.flatMap (·.2) ∧ ys.length = fs.size ∧
        ∀ (j : Nat) (f : Field), fs[j]? = some f → ∃ (v : Value) (y : DataW H × List MemPlace), w.cell? (a.add (i * fs.size + j)) = some v ∧ ys[j]? = some y ∧ DataW.trod enc P w base spare held n f.type [v] = some y := by
  rcases open_slice ht h with h0 | ⟨a, len, cap, m, n, D, Pl, hcs, hb, hl, hm, hmm, hx, hi⟩
  · exact .inl h0
  · refine .inr ⟨a, len, cap, m, D, Pl, hcs, hb, hl, hm, hmm, by rw [hC] at hx; exact hx, fun i him => ?_⟩
    obtain ⟨cs', hc, ht'⟩ := hi i him
    rw [hC] at hc
    obtain ⟨ys, n', hn', hy, hlen, hyl, hf⟩ := DataW.trod_struct he ht'
    obtain ⟨_, hcl, hat⟩ := World.cells?_some hc
    simp only [Prod.mk.injEq] at hy
    refine ⟨ys, n', hy.1, hy.2, hyl, fun j f hj => ?_⟩
    obtain ⟨ho, hk⟩ := hone_of hone j f hj
    have hjl : j < fs.size := (Array.getElem?_eq_some_iff.1 hj).1
    have hcell := hat j hjl
    have hv : cs'[j]? = some (cs'[j]'(by omega)) := List.getElem?_eq_getElem (by omega)
    have h1 := hf j f hj
    rw [ho, hk] at h1
    have hone' : (cs'.drop j).take 1 = [cs'[j]'(by omega)] := by
      rw [List.drop_eq_getElem_cons (by omega)]
      rfl
    rw [hone'] at h1
    have hys : ys[j]? = some (ys[j]'(by omega)) := List.getElem?_eq_getElem (by omega)
    refine ⟨_, _, ?_, hys, h1.trans hys⟩
    rw [← Go.Deep.add_add, hcell, hv]
end
section
variable {H : Type} {enc : TypeId × Value → H} {P : Program}
theorem post_of_below {f : Func} {s : ChangeSpec} {apart fresh handsOn again : Bool} {W W' : World} {args : Array Value} {v : Value} {ds gs : List (DataW H)} {before pa pv : List MemPlace}
    (hW : DataW.Whole enc P f.params.toList s.vars apart W args.toList ds gs before)
    (hres : ∀ (b : Nat) (sp : Nat → Bool) (hd : Bool), DataW.TrodAll enc P W' b sp hd f.resultTypes.toList (v.resultList f.resultTypes.size) (s.fn H (ds ++ gs)).results [])
    (hargs : ∀ sp : Nat → Bool, (∀ p ∈ before, sp p.block = true) → DataW.TrodAll enc P W' 0 sp true f.params.toList args.toList (s.fn H (ds ++ gs)).args pa)
    (hvars : ∀ sp : Nat → Bool, (∀ p ∈ before, sp p.block = true) → DataW.TrodVars enc P W' sp s.vars (s.fn H (ds ++ gs)).vars pv)
    (hps : before = pa ++ pv) (hb : Below W.heap.size W W')
    (hok : ∀ (j : Nat) (t : TypeId) (r : Value), f.resultTypes[j]? = some t → (v.resultList f.resultTypes.size)[j]? = some r → Value.okWide P W' .any 0 t r) :
    s.post enc P f apart fresh handsOn again W args v W' := by
  have hlt : ∀ p ∈ before, p.block < W.heap.size := fun p hp => hW.lt p hp
  have hold : ∀ p ∈ before, (fun b => decide (b < W.heap.size)) p.block = true := fun p hp => by simpa using hlt p hp
  refine ⟨ds, gs, before, [], pa, pv, hW, hres _ _ _, hargs _ hold, hvars _ hold, World.keptBut_mono (fun p hp => ⟨hp, ?_⟩) (hb.frame (· ∈ before)), fun _ => ?_⟩
  · rw [hps, List.mem_append] at hp
    exact Or.inr hp
  · obtain ⟨_, _, _, _, _, hz, hn⟩ := hW
    refine ⟨hok, _, _, ([] ++ pa) ++ pv, ⟨[] ++ pa, pv, trodAll_append (hargs _ (fun _ _ => rfl)) (hres _ _ _), hvars _ (fun _ _ => rfl), rfl, ?_, ?_⟩, ?_⟩
    · intro b off hp
      have hin : MemPlace.cell b off ∈ before := by rw [hps]; simpa using hp
      rw [hb.frozen (hlt _ hin)]
      exact hz b off hin
    · intro ha
      have := hn ha
      rw [hps] at this
      simpa using this
    · intro p hp _
      rw [hps]
      simpa using hp
end
theorem Tryz.own : ownKnob Tryz.prog.godebug = none := by kernel_rfl
theorem Tryz.laidOut : laidOutB Tryz.prog = true := by kernel_rfl
theorem glob_shape {W : World} (h : W.ShapedOpen Tryz.prog) : Glob W :=
  Go.Proofs.cell_of_shapedOpen_int (zero := #[.int .i64 0]) (t := 3) h (of_decide_eq_true (by kernel_rfl)) (by kernel_rfl) rfl (by kernel_rfl) (by kernel_rfl) Tryz.underlying3
theorem bulk_one {H : Type} (d : DataW H) : 1 ≤ Rows.uptoBulk d := by
  cases d with
  | lit l => cases l <;> simp [Rows.uptoBulk]
  | nil => simp [Rows.uptoBulk]
  | ptr d => simp [Rows.uptoBulk]
  | slice elems spare => simp [Rows.uptoBulk]
  | agg parts => simp [Rows.uptoBulk]
  | iface t d => simp [Rows.uptoBulk]
  | map entries => simp [Rows.uptoBulk]
  | held h => simp [Rows.uptoBulk]
theorem bulk_part {H : Type} {d : DataW H} {l : List (DataW H)} (h : d ∈ l) : Rows.uptoBulk d ≤ Rows.uptoBulkAll l := by
  induction l with
  | nil => cases h
  | cons x r ih =>
    simp only [Rows.uptoBulkAll]
    cases List.mem_cons.1 h with
    | inl e => subst e; omega
    | inr e => have := ih e; omega
theorem bulk_len {H : Type} (l : List (DataW H)) : l.length ≤ Rows.uptoBulkAll l := by
  induction l with
  | nil => simp [Rows.uptoBulkAll]
  | cons x r ih => have := bulk_one x; simp only [Rows.uptoBulkAll, List.length_cons]; omega
theorem bulk_slice {H : Type} (elems spare : List (DataW H)) : elems.length + 1 ≤ Rows.uptoBulk (.slice elems spare) ∧ Rows.uptoBulkAll elems + 1 ≤ Rows.uptoBulk (.slice elems spare) := by
  have h1 := bulk_len elems
  simp only [Rows.uptoBulk]
  omega
theorem addr_none {W : World} {a : Addr} {v : Value} (h : W.cell? (a.add 0) = some v) : a = ⟨a.block, a.off, none⟩ := by
  rcases a with ⟨b, o, s⟩
  cases s with
  | none => rfl
  | some s =>
    exfalso
    have h : W.cell? ⟨b, o, some s⟩ = some v := h
    unfold World.cell? at h
    split at h <;> simp at h
theorem cells50 : Tryz.prog.cellsOf 50 = 3 := by kernel_rfl
theorem cells5a : Tryz.prog.cellsOf 5 = 1 := by kernel_rfl
theorem cells9 : Tryz.prog.cellsOf 9 = 1 := by kernel_rfl
theorem struct50 : ∃ f0 f1 f2 : Field, Tryz.prog.underlying 50 = some (.struct #[f0, f1, f2]) ∧ oneCellFields Tryz.prog #[f0, f1, f2] = true ∧ f0.type = 9 ∧ f1.type = 4 ∧ f2.type = 35 :=
  ⟨_, _, _, Tryz.underlying50, by kernel_rfl, rfl, rfl, rfl⟩
section
variable {H : Type} {enc : TypeId × Value → H} {W : World} {base : Nat} {spare : Nat → Bool} {held : Bool}
set_option maxRecDepth 100000 in
theorem open_data {n : Nat} {v : Value} {y : DataW H × List MemPlace} (h : DataW.trod enc Tryz.prog W base spare held n 35 [v] = some y) :
    ∃ (A : Option Addr) (c : Nat) (ds : List UInt8), v = .slice A ds.length c ∧ ds.length ≤ c ∧ ds.length ≤ Rows.uptoBulk y.1 ∧ RdL W A ds := by
  rcases open_ints tu35 tu5 cells5a h with ⟨hcs, hx⟩ | ⟨a, len, cap, zs, hcs, _, hl, hm, hz, hx, hcell, hwz⟩
  · injection hcs with hcs _
    exact ⟨none, 0, [], hcs, Nat.le_refl _, Nat.zero_le _, fun hne => absurd rfl hne⟩
  · injection hcs with hcs _
    have hlz : len ≤ zs.length := by rw [hz]; split <;> omega
    have hd : ((zs.take len).map (fun z => UInt8.ofNat z.toNat)).length = len := by rw [List.length_map, List.length_take]; omega
    refine ⟨some a, cap, (zs.take len).map (fun z => UInt8.ofNat z.toNat), by rw [hd]; exact hcs, by rw [hd]; exact hl, ?_, fun hne => ⟨a, rfl, ?_, fun k hk => ?_⟩⟩
    · rw [hd, hx]
      have := (bulk_slice (lits (H := H) .u8 (zs.take len)) (lits .u8 (zs.drop len))).1
      have hll : (lits (H := H) .u8 (zs.take len)).length = len := by unfold lits; rw [List.length_map, List.length_take]; omega
      rw [hll] at this
      show len ≤ Rows.uptoBulk (DataW.slice (lits (H := H) .u8 (zs.take len)) (lits .u8 (zs.drop len)))
      omega
    · have h0 : 0 < len := by
        rcases Nat.eq_zero_or_pos len with h0 | h0
        · exact absurd (List.eq_nil_of_length_eq_zero (hd.trans h0)) hne
        · exact h0
      exact World.block_lt_of_cell? W _ (hcell 0 (by omega))
    · rw [hd] at hk
      rw [hcell k (by omega)]
      have hz1 : zs[k]? = some (zs[k]'(by omega)) := List.getElem?_eq_getElem (by omega)
      have hw := hwz (zs[k]'(by omega)) (List.getElem_mem _)
      have e1 : zs.getD k 0 = zs[k]'(by omega) := by rw [List.getD_eq_getElem?_getD, hz1]; rfl
      have e2 : ((zs.take len).map (fun z => UInt8.ofNat z.toNat)).getD k 0 = UInt8.ofNat (zs[k]'(by omega)).toNat := by
        rw [List.getD_eq_getElem?_getD, List.getElem?_map, List.getElem?_take, if_pos hk, hz1]; rfl
      rw [e1, e2]
      simp only [Lit.wf, Bool.and_eq_true, decide_eq_true_eq] at hw
      have h1 : (0 : Int) ≤ zs[k]'(by omega) ∧ zs[k]'(by omega) ≤ 255 := by simpa [IntKind.min, IntKind.max, IntKind.signed, IntKind.bits] using hw
      unfold bv
      congr 2
      rw [UInt8.toNat_ofNat']
      omega
end
def lay1 : Obj → Obj
  | .cells _ t frozen => .cells ((Go.Pinned.utf8FirstZ.map fun (n : Nat) => Value.int .u8 (n : Int)).toArray) t frozen
  | o => o
def lay2 : Obj → Obj
  | .cells _ t frozen => .cells (([128, 191, 160, 191, 128, 159, 144, 191, 128, 143, 0, 0, 0, 0, 0, 0, 0, 0, 0, 0, 0, 0, 0, 0, 0, 0, 0, 0, 0, 0, 0, 0].map fun (n : Nat) => Value.int .u8 (n : Int)).toArray) t frozen
  | o => o
noncomputable def laidWorld (os : Os) : World :=
  { World.holding Tryz.prog os ⟨#[], #[], []⟩ with heap := ((World.holding Tryz.prog os ⟨#[], #[], []⟩).heap.modify 1 lay1).modify 2 lay2 }
end Go.Proofs.YtbpfmlckddhgbaaGreatDoor
/- The arguments as they come in, once more: with the caps and the sizes of the texts. -/
namespace Go.Proofs.YtbpfmlckddhgbaaGreatDoor
set_option linter.unusedVariables false
set_option linter.unusedSimpArgs false
open Go Go.RowKit Go.ChangeShapes Go.WideShapes Go.Deep
section
variable {H : Type} {enc : TypeId × Value → H} {W : World} {base : Nat} {spare : Nat → Bool} {held : Bool}
set_option maxRecDepth 100000 in
theorem open_items2 {v : Value} {d : DataW H} {p : List MemPlace} {b0 : Nat} (hval : Value.okWide Tryz.prog W .any b0 22 v) (h : DataW.Trod enc Tryz.prog W base spare held 22 v d p) :
    ∃ (A : Option Addr) (c : Nat) (its : List Itm), v = .slice A its.length c ∧ its.length ≤ c ∧ its.length ≤ Rows.uptoBulk d ∧ (∀ x ∈ its, x.data.length ≤ Rows.uptoBulk d ∧ x.path.size + 1 ≤ Rows.uptoBulk d) ∧ RdI W W.heap.size A its := by
  obtain ⟨a0, len0, cap0, rfl⟩ := okWide_slice tu22 hval
  obtain ⟨fuel, hf⟩ := h
  obtain ⟨f0, f1, f2, hs, hone, ht0, ht1, ht2⟩ := struct50
  rcases open_slice_fields tu22 hs hone cells50 hf with ⟨hcs, hx⟩ | ⟨a, len, cap, m, D, Pl, hcs, _, hl, hm, hmm, hx, hi⟩
  · injection hcs with hcs _
    exact ⟨none, 0, [], hcs, Nat.le_refl _, Nat.zero_le _, fun x hx => by simp at hx, fun hne => absurd rfl hne⟩
  · injection hcs with hcs _
    have hlm : len ≤ m := by rw [hmm]; split <;> omega
    have hbig : d = .slice ((List.range len).map D) ((List.range (m - len)).map fun j => D (len + j)) := (Prod.mk.inj hx).1
    have ha0 : 0 < len → a = ⟨a.block, a.off, none⟩ := fun h0 => by
      obtain ⟨ys, n, _, _, _, hj⟩ := hi 0 (by omega)
      obtain ⟨v0, y0, c0, _, _⟩ := hj 0 f0 rfl
      exact addr_none (by rw [Nat.zero_mul] at c0; exact c0)
    have key : ∀ i, ∃ x : Itm, i < len → ∃ A' c', (a.spot = none ∧ a.block < W.heap.size) ∧ W.rangeAt a.block (a.off + i * 3) (icells x A' c') ∧ x.data.length ≤ c' ∧ (x.data.length ≤ Rows.uptoBulk d ∧ x.path.size + 1 ≤ Rows.uptoBulk d) ∧
        (x.data ≠ [] → ∃ ad, A' = some ad ∧ ad.block < W.heap.size ∧ ∀ k, k < x.data.length → W.cell? (ad.add k) = some (bv (x.data.getD k 0))) := by
      intro i
      by_cases hil : i < len
      · obtain ⟨ys, n, hD, _, hyl, hj⟩ := hi i (by omega)
        obtain ⟨v0, y0, c0, q0, t0⟩ := hj 0 f0 rfl
        obtain ⟨v1, y1, c1, q1, t1⟩ := hj 1 f1 rfl
        obtain ⟨v2, y2, c2, q2, t2⟩ := hj 2 f2 rfl
        rw [ht0] at t0
        rw [ht1] at t1
        rw [ht2] at t2
        obtain ⟨s, e0, ey0, _⟩ := DataW.trod_string Tryz.underlying9 t0
        obtain ⟨b, e1, _⟩ := DataW.trod_bool Tryz.underlying4 t1
        obtain ⟨A', c', ds, e2, hc', hb', hr'⟩ := open_data t2
        injection e0 with e0 _
        injection e1 with e1 _
        subst e0 e1 e2
        have ha := ha0 (by omega)
        have hsp : a.spot = none := by rw [ha]
        have hsz : (#[f0, f1, f2] : Array Field).size = 3 := rfl
        rw [hsz] at c0 c1 c2
        refine ⟨⟨s, b, ds⟩, fun _ => ⟨A', c', ⟨hsp, by have := World.block_lt_of_cell? W _ c0; rw [add_block] at this; exact this⟩, fun j u hu => ?_, hc', ?_, hr'⟩⟩
        · have hadd : ∀ k, a.add k = ⟨a.block, a.off + k, none⟩ := fun k => by rw [ha]; exact Addr.add_mid _ _ _
          rw [hadd] at c0 c1 c2
          rcases j with _ | _ | _ | j
          · simp only [icells] at hu
            injection hu with hu
            rw [← hu]
            exact c0
          · injection hu with hu
            rw [← hu]
            rw [show a.off + (i * 3 + 1) = a.off + i * 3 + 1 by omega] at c1
            exact c1
          · injection hu with hu
            rw [← hu]
            rw [show a.off + (i * 3 + 2) = a.off + i * 3 + 2 by omega] at c2
            exact c2
          · simp [icells] at hu
        · have g1 : Rows.uptoBulk y2.1 ≤ Rows.uptoBulkAll (ys.map (·.1)) := bulk_part (List.mem_map.2 ⟨y2, List.mem_of_getElem? q2, rfl⟩)
          have g2 : Rows.uptoBulk (D i) ≤ Rows.uptoBulkAll ((List.range len).map D) := bulk_part (List.mem_map.2 ⟨i, List.mem_range.2 hil, rfl⟩)
          have g3 := (bulk_slice ((List.range len).map D) ((List.range (m - len)).map fun j => D (len + j))).2
          have g4 : Rows.uptoBulk y0.1 ≤ Rows.uptoBulkAll (ys.map (·.1)) := bulk_part (List.mem_map.2 ⟨y0, List.mem_of_getElem? q0, rfl⟩)
          rw [ey0] at g4
          simp only [Rows.uptoBulk] at g4
          rw [hD] at g2
          simp only [Rows.uptoBulk] at g2
          rw [hbig]
          have hsl : s.size = s.data.toList.length := ba_size s
          exact ⟨by show ds.length ≤ _; omega, by show s.size + 1 ≤ _; omega⟩
      · exact ⟨⟨⟨#[]⟩, false, []⟩, fun h => absurd h hil⟩
    obtain ⟨f, hf2⟩ := Classical.axiomOfChoice key
    have hlen : ((List.range len).map f).length = len := by rw [List.length_map, List.length_range]
    have hget : ∀ j x, ((List.range len).map f)[j]? = some x → j < len ∧ x = f j := fun j x hj => by
      rw [List.getElem?_map] at hj
      by_cases hjl : j < len
      · rw [List.getElem?_range hjl] at hj
        injection hj with hj
        exact ⟨hjl, hj.symm⟩
      · rw [List.getElem?_eq_none (by rw [List.length_range]; omega)] at hj
        cases hj
    refine ⟨some a, cap, (List.range len).map f, by rw [hlen]; exact hcs, by rw [hlen]; exact hl, ?_, fun x hx => ?_, fun hne => ?_⟩
    · rw [hlen, hbig]
      have := (bulk_slice ((List.range len).map D) ((List.range (m - len)).map fun j => D (len + j))).1
      rw [List.length_map, List.length_range] at this
      omega
    · obtain ⟨j, hj⟩ := List.getElem?_of_mem hx
      obtain ⟨h1, rfl⟩ := hget j x hj
      obtain ⟨_, _, _, _, _, h2, _⟩ := hf2 j h1
      exact h2
    · have h0 : 0 < len := by
        rcases Nat.eq_zero_or_pos len with h0 | h0
        · exact absurd (List.eq_nil_of_length_eq_zero (hlen.trans h0)) hne
        · exact h0
      obtain ⟨_, _, ⟨s1, s2⟩, _⟩ := hf2 0 h0
      refine ⟨a.block, a.off, ?_, s2, fun j x hj => ?_⟩
      · rcases a with ⟨b, o, s⟩
        have s1 : s = none := s1
        subst s1
        rfl
      · obtain ⟨h1, rfl⟩ := hget j x hj
        obtain ⟨A', c', _, g1, g2, _, g3⟩ := hf2 j h1
        exact ⟨A', c', g1, g2, g3⟩
set_option maxRecDepth 100000 in
theorem open_texts2 {v : Value} {d : DataW H} {p : List MemPlace} {b0 : Nat} (hval : Value.okWide Tryz.prog W .any b0 66 v) (h : DataW.Trod enc Tryz.prog W base spare held 66 v d p) :
    ∃ (A : Option Addr) (c : Nat) (ps : List ByteArray), v = .slice A ps.length c ∧ ps.length ≤ Rows.uptoBulk d ∧ (∀ q ∈ ps, q.size + 1 ≤ Rows.uptoBulk d) ∧ RdS W W.heap.size A ps := by
  obtain ⟨a0, len0, cap0, rfl⟩ := okWide_slice Tryz.underlying66 hval
  obtain ⟨fuel, hf⟩ := h
  rcases open_strings Tryz.underlying66 Tryz.underlying9 cells9 hf with ⟨hcs, hx⟩ | ⟨a, len, cap, ss, hcs, _, hl, hm, hz, hx, hcell, hsz⟩
  · injection hcs with hcs _
    exact ⟨none, 0, [], hcs, Nat.zero_le _, fun q hq => by simp at hq, fun hne => absurd rfl hne⟩
  · injection hcs with hcs _
    have hlz : len ≤ ss.length := by rw [hz]; split <;> omega
    have hd : (ss.take len).length = len := by rw [List.length_take]; omega
    refine ⟨some a, cap, ss.take len, by rw [hd]; exact hcs, ?_, fun q hq => ?_, fun hne => ?_⟩
    · rw [hd, (Prod.mk.inj hx).1]
      have := (bulk_slice (strs (H := H) (ss.take len)) (strs (ss.drop len))).1
      have hll : (strs (H := H) (ss.take len)).length = len := by unfold strs; rw [List.length_map]; exact hd
      omega
    · rw [(Prod.mk.inj hx).1]
      have g1 := (bulk_slice (strs (H := H) (ss.take len)) (strs (ss.drop len))).2
      have g2 : Rows.uptoBulk (DataW.lit (.string q.data.toList) : DataW H) ≤ Rows.uptoBulkAll (strs (H := H) (ss.take len)) := bulk_part (List.mem_map.2 ⟨q, hq, rfl⟩)
      simp only [Rows.uptoBulk] at g2
      have hsl : q.size = q.data.toList.length := ba_size q
      omega
    · have h0 : 0 < len := by
        rcases Nat.eq_zero_or_pos len with h0 | h0
        · exact absurd (List.eq_nil_of_length_eq_zero (hd.trans h0)) hne
        · exact h0
      have ha := addr_none (hcell 0 (by omega))
      refine ⟨a.block, a.off, congrArg some ha, World.block_lt_of_cell? W _ (hcell 0 (by omega)), fun j q hj => ?_⟩
      rw [List.getElem?_take] at hj
      split at hj
      · rename_i hjl
        have e := hcell j (by omega)
        rw [ha, Addr.add_mid, List.getD_eq_getElem?_getD, hj] at e
        exact e
      · cases hj
end
end Go.Proofs.YtbpfmlckddhgbaaGreatDoor
