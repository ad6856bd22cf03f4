/- The law TreeCuts answers true for every list of items and every row of paths that hold together at most 1048576 values and letters, and leaves them as they were.
   Conditions: the program's listed tables hold what its text lays (tied by the card); what is read is of bulk at most 1048576. -/
import Derived.Test.YtbpfmlckddhgbaaGreatDoorQm
import Derived.Test.YtbpfmlckddhgbaaGreatDoorQk
import Derived.Test.YtbpfmlckddhgbaaGreatDoorQj
namespace Go.Proofs.YtbpfmlckddhgbaaGreatDoor
set_option linter.unusedVariables false
set_option linter.unusedSimpArgs false
open Go Go.RowKit Go.ChangeShapes Go.WideShapes Go.ChangeAt

theorem cuts_calls (w : World) (A B : Option Addr) (c c' : Nat) (its : List Itm) (keep : List ByteArray) (hI : RdI w w.heap.size A its) (hS : RdS w w.heap.size B keep) (hG : Glob w) (hc : its.length ≤ c) (hps : ∀ x ∈ its, x.path.size ≤ 1048575 ∧ x.data.length ≤ 1048576) (hlen : its.length ≤ 1048576) (hkl : keep.length ≤ 1048576) (hks : ∀ p ∈ keep, p.size ≤ 1048575) :
    Calls Tryz.prog 6 #[.slice A its.length c, .slice B keep.length c'] w fun e w' => e = .returned (.bool true) ∧ Below w.heap.size w w' := by
  cases hF : fewM its with
  | false => exact cuts_many w A B c c' its keep hI hG (by omega) (fun x hx => by have := hps x hx; omega) hF
  | true => exact cuts_few w A B c c' its keep hI hS hG hc hps hlen hkl hks hF

set_option maxRecDepth 100000 in
theorem cuts_contract (H : Type) (enc : TypeId × Value → H) (W : World) (base : Nat) (args : Array Value) (ds gs : List (DataW H)) (before : List MemPlace)
    (hval : ∀ (j : Nat) t v, Tryz.f6.params[j]? = some t → args[j]? = some v → Value.okWide Tryz.prog W .any base t v)
    (hW : DataW.Whole enc Tryz.prog Tryz.f6.params.toList Rows.treeCutsSpec.vars false W args.toList ds gs before) (hsh : W.ShapedOpen Tryz.prog) (hk : Rows.uptoSmall H (ds ++ gs) = true) :
    Calls Tryz.prog 6 args W fun e W' => ∃ v, e = .returned v ∧ Rows.treeCutsSpec.post enc Tryz.prog Tryz.f6 false true false false W args v W' := by
  have hW' := hW
  obtain ⟨p, q, hA0, hV, rfl, hfz, hnd⟩ := hW
  have hA : DataW.TrodAll enc Tryz.prog W 0 (fun _ => true) true Tryz.f6.params.toList args.toList ds p := hA0
  rw [Tryz.params6] at hA hval
  obtain ⟨v0, vs0, d0, ds0, p0, q0, hargs, rfl, rfl, h0, r0⟩ := trodAll_cons hA
  obtain ⟨v1, vs1, d1, ds1, p1, q1, rfl, rfl, rfl, h1, r1⟩ := trodAll_cons r0
  obtain ⟨rfl, rfl, rfl⟩ := trodAll_nil r1
  obtain rfl : args = #[v0, v1] := by cases args; simp_all
  obtain ⟨rfl, rfl⟩ := trodVars_none hV
  obtain ⟨A, c, its, rfl, g0, g1, g2, g3⟩ := open_items2 (hval 0 22 v0 rfl rfl) h0
  obtain ⟨B, c', keep, rfl, g4, g6, g5⟩ := open_texts2 (hval 1 66 v1 rfl rfl) h1
  have hb : Rows.uptoBulk d0 + Rows.uptoBulk d1 ≤ 1048576 := by
    have := of_decide_eq_true hk
    simp only [List.append_nil, Rows.uptoBulkAll] at this
    omega
  have hlt : ∀ x ∈ p0 ++ (p1 ++ ([] : List MemPlace)), x.block < W.heap.size := fun x hx => hW'.lt x (by simpa using hx)
  clear hA0
  refine (cuts_calls W A B c c' its keep g3 g5 (glob_shape hsh) g0 (fun x hx => by have := g2 x hx; have := bulk_one d1; omega) (by omega) (by omega) (fun q hq => by have := g6 q hq; omega)).mono fun e W' ⟨he, hB⟩ => ?_
  subst he
  have hsame : ∀ x ∈ p0 ++ (p1 ++ ([] : List MemPlace)), W.sameAt W' x := fun x hx => hB.same (hlt x hx)
  refine ⟨_, rfl, post_of_below (pa := p0 ++ (p1 ++ [])) (pv := []) hW' (fun _ _ _ => trodAll_cons_mk (shut_bool Tryz.underlying4 _) trodAll_mk0) (fun sp hsp => ?_) (fun _ _ => rfl) (by simp) hB (ok_one (by kernel_rfl) rfl (okWide_bool_mk Tryz.underlying4 _))⟩
  rw [Tryz.params6]
  have hsp2 : ∀ x ∈ p0 ++ (p1 ++ ([] : List MemPlace)), sp x.block = true := fun x hx => hsp x (by simpa using hx)
  exact trodAll_cons_mk (WideElems.Trod_stays Tryz.laidOut (by kernel_rfl) (of_decide_eq_true (by kernel_rfl)) h0 (fun x hx => hsame x (List.mem_append_left _ hx)) (fun x hx => hsp2 x (List.mem_append_left _ hx)))
    (trodAll_cons_mk (WideElems.Trod_stays Tryz.laidOut (by kernel_rfl) (of_decide_eq_true (by kernel_rfl)) h1 (fun x hx => hsame x (List.mem_append_right _ (List.mem_append_left _ hx))) (fun x hx => hsp2 x (List.mem_append_right _ (List.mem_append_left _ hx)))) trodAll_mk0)

theorem cuts_laid (os : Os) : laidMet Tryz.prog Rows.treeCutsUptoRow.laid ((laidWorld os).forCall (fun _ _ => 0) ⟨#[], #[.slice none 0 0, .slice none 0 0], []⟩).memory :=
  laidMet_of_run' 8 (by kernel_rfl) (by kernel_rfl)
theorem cuts_reads (os : Os) {H : Type} (enc : TypeId × Value → H) : ∃ places, DataW.whole enc Tryz.prog ((laidWorld os).forCall (fun _ _ => 0) ⟨#[], #[.slice none 0 0, .slice none 0 0], []⟩).memory Tryz.f6.params.toList Rows.treeCutsSpec.vars false #[Value.slice none 0 0, Value.slice none 0 0].toList 8 = some ([.nil, .nil], [], places) :=
  ⟨[], by kernel_rfl⟩
set_option maxRecDepth 100000 in
theorem cuts_lifted (os : Os) (started : os.Started) (H : Type) (enc : TypeId × Value → H) (F : Stop.Interp) :
    ReturnsInHanded {} Tryz.checked os 6 .any ((Rows.OpenSpec.upto Rows.treeCutsSpec).preRow enc Tryz.prog Tryz.f6 Rows.treeCutsUptoRow.domain false Rows.treeCutsUptoRow.laid) (((Rows.OpenSpec.upto Rows.treeCutsSpec).at F).post enc Tryz.prog Tryz.f6 false true false false) := by
  obtain ⟨places, hx⟩ := cuts_reads os enc
  refine returnsInHanded_of_row (C := Tryz.checked) (s := Rows.OpenSpec.upto Rows.treeCutsSpec) Tryz.own started (by kernel_rfl) Tryz.func6
    (witness_row_at (enc := enc) (C := Tryz.checked) false (laidWorld os) #[.slice none 0 0, .slice none 0 0] rfl (by kernel_rfl) (by kernel_rfl) (by kernel_rfl)
      (OpenSpec.preRow_of_cond 8 hx (by kernel_rfl) (fun k hk => by cases hk; kernel_rfl) (by kernel_rfl) (cuts_laid os))) ?_
  intro W base args ds gs before hval hW _ hcond _ _ hsh _
  exact cuts_contract H enc W base args ds gs before hval hW hsh (hcond _ rfl)
theorem cuts_said : Rows.TreeCutsUptoSaid :=
  OpenClaim.holds_of_cond 6 Tryz.f6 rfl rfl rfl rfl rfl rfl rfl ⟨rfl, rfl, rfl, rfl, rfl⟩ rfl rfl rfl rfl rfl fCuts.named Tryz.func6 fCuts.joined fCuts.inst fCuts.wrap
    (fun os started H enc _ F => by rw [OpenClaim.pre_eq_preRow]; exact cuts_lifted os started H enc F)
/-- No parameter wants a stand-in; what the program's looks say. -/
theorem cuts_plain (f : FuncId) (fn : Func) (hf : Tryz.pinned.checked.prog.funcNamed "retort/retortlaw6.TreeCuts" = some f) (hfn : Tryz.pinned.checked.prog.funcs[f]? = some fn) :
    true = Tryz.pinned.checked.prog.looks [] ∧ ∀ (j : Nat) t, fn.params[j]? = some t → Tryz.pinned.checked.prog.wantsStandIn t = false := by
  obtain rfl : f = 6 := Option.some.inj ((show Tryz.prog.funcNamed "retort/retortlaw6.TreeCuts" = some 6 by kernel_rfl).symm.trans hf) |>.symm
  obtain rfl : fn = Tryz.f6 := (Option.some.inj (Tryz.func6.symm.trans hfn)).symm
  refine ⟨by kernel_rfl, fun j t ht => ?_⟩
  rw [Tryz.params6] at ht
  have hm : t ∈ #[22, 66] := Array.mem_of_getElem? ht
  simp only [List.mem_toArray, List.mem_cons, List.not_mem_nil, or_false] at hm
  rcases hm with rfl | rfl
  · exact (show Tryz.prog.wantsStandIn 22 = false by kernel_rfl)
  · exact (show Tryz.prog.wantsStandIn 66 = false by kernel_rfl)
/-- THE CARD. -/
theorem cuts_card : Rows.TreeCutsUptoCardSaid :=
  Claim7.holds_tied_plain_at .later [] _ _ _ _ cuts_said (fun _ h => by cases h) (by kernel_rfl) (fun _ h => by cases h) treeCutsUpto_row_tie rfl ⟨rfl, rfl⟩ (by kernel_rfl) rfl cuts_plain (by kernel_rfl)
end Go.Proofs.YtbpfmlckddhgbaaGreatDoor
